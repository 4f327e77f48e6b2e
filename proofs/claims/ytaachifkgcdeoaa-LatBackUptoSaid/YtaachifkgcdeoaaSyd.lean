/- A symbolic run of a function's code: typed values in memory, what each operation does to them, and why that is so (part d). Each theorem bears its conditions itself. -/
import Derived.Test.YtaachifkgcdeoaaSyc
namespace Go.Proofs.Ytaachifkgcdeoaa.Sy
open Go.RowKit
set_option linter.unusedSimpArgs false
set_option linter.unusedVariables false

def stepC (A : Alg) (tab : Tab) (specs : Specs) (look : Nat → Slot) (gl : List (Nat × Bool)) (o : Oper) : Option (List Prop × Slot) :=
  match aCall A tab specs look gl o with
  | some r => some r
  | none => match stepL A tab look gl o with
    | some r => some r
    | none => match stepM A tab look gl o with
      | some r => some r
      | none => match stepN A tab look gl o with
        | some r => some r
        | none => match stepO A tab look gl o with
          | some r => some r
          | none => stepP A tab look gl o

/-- An operation with its guard. -/
def evL (A : Alg) (tab : Tab) (specs : Specs) (ops : List Oper) (look : Nat → Slot) (o : Oper) : Option (List Prop × Slot) :=
  match glOf look ops o.guard with
  | some [] => stepC A tab specs look [] o
  | some (g :: gl) => match stepC A tab specs look (g :: gl) o with
    | some (obs, s) => match wrapGs A look (g :: gl) obs with
      | some obs => some (obs, .cnd (g :: gl) s)
      | none => none
    | none => none
  | none => none

theorem stepC_sound {E : Env} {tab : Tab} (htab : TabOk E.P tab) {specs : Specs} (hsp : SpecsOk E.P specs) {σ : List Slot} {a : Act} {w : World} (hst : RepState E σ a w) {look : Nat → Slot} (hlk : Looks look σ) {gl : List (Nat × Bool)} (hgl : holdsG (vl a) gl) {o : Oper} {s : Slot} {obs : List Prop}
    (h : stepC real0 tab specs look gl o = some (obs, s)) (hobs : obsAll obs) {next : Act → World → Prop} {Q : Exit → Act → World → Prop} (hK : Behind E σ a w s fun v w' => next (a.put o.dst v) w') : o.wp E.P a w next Q := by
  unfold stepC at h
  split at h
  · rename_i r hr
    obtain rfl := Option.some.inj h
    exact aCall_sound hsp hst hlk hgl hr hobs hK
  · split at h
    · rename_i r hr
      obtain rfl := Option.some.inj h
      exact yld_wp (stepL_sound htab hst hlk hgl hr hobs) hK
    · split at h
      · rename_i r hr
        obtain rfl := Option.some.inj h
        exact yld_wp (stepM_sound htab hst hlk hgl hr hobs) hK
      · split at h
        · rename_i r hr
          obtain rfl := Option.some.inj h
          exact yld_wp (stepN_sound htab hst hlk hgl hr hobs) hK
        · split at h
          · rename_i r hr
            obtain rfl := Option.some.inj h
            exact yld_wp (stepO_sound htab hst hlk hgl hr hobs) hK
          · exact yld_wp (stepP_sound htab hst hlk hgl h hobs) hK

theorem evL_sound {E : Env} {tab : Tab} (htab : TabOk E.P tab) {specs : Specs} (hsp : SpecsOk E.P specs) {ops : Array Oper} {σ : List Slot} {a : Act} {w : World} (hst : RepState E σ a w) {look : Nat → Slot} (hlk : Looks look σ) {i : Nat} {o : Oper} (hi : ops[i]? = some o) {s : Slot} {obs : List Prop}
    (h : evL real0 tab specs ops.toList look o = some (obs, s)) (hobs : obsAll obs) {next : Act → World → Prop} {Q : Exit → Act → World → Prop} (hK : Behind E σ a w s fun v w' => next (a.put o.dst v) w') : wpOp E.P ops Q i next a w := by
  unfold evL at h
  unfold wpOp
  rw [hi]
  dsimp only
  split at h
  · rename_i hg
    have hgn : o.guard = none := by
      unfold glOf at hg
      split at hg
      · assumption
      · split at hg
        · split at hg <;> simp at hg
        · cases hg
    rw [if_pos (by simp [Region.wanted, hgn])]
    exact .inl (stepC_sound htab hsp hst hlk (fun g hg => by simp at hg) h hobs hK)
  · rename_i g gl hg
    split at h
    case h_2 => cases h
    rename_i obs' s' hs
    split at h
    case h_2 => cases h
    rename_i obs'' hw
    simp only [Option.some.injEq, Prod.mk.injEq] at h
    obtain ⟨rfl, rfl⟩ := h
    -- the guard
    unfold glOf at hg
    split at hg
    case h_1 => simp at hg
    rename_i j b hgd
    split at hg
    case h_2 => cases hg
    rename_i d hd
    have hd' : (ops[j]?).bind (·.dst) = some d := by simpa using hd
    have hlkd : look d ≠ .dead → lk σ d = look d := fun hne => by
      rcases hlk d with e | e
      · exact absurd e hne
      · exact e.symm
    obtain ⟨ow, how, _, _, hsl⟩ := hst.slots
    obtain ⟨B, _, _, hrd⟩ := hsl d
    have hy : yielded ops a.tmps j = match a.tmps[d]? with | some (.bool b) => some b | _ => none := by
      unfold yielded
      rw [hd']
      simp only [Option.bind_some]
      rfl
    have hyv : ∀ b', vl a d = .bool b' → yielded ops a.tmps j = some b' := by
      intro b' e
      rw [hy]
      have e' : a.tmps[d]?.getD undef = .bool b' := by simpa using e
      cases ht : a.tmps[d]? with
      | none => rw [ht] at e'; simp [undef] at e'
      | some u => rw [ht] at e'; simp at e'; rw [e']
    have hyv' : ∀ b', yielded ops a.tmps j = some b' → vl a d = .bool b' := by
      intro b' e
      rw [hy] at e
      show a.tmps.getD d undef = _
      simp only [Array.getD_eq_getD_getElem?]
      cases ht : a.tmps[d]? with
      | none => rw [ht] at e; cases e
      | some u =>
        rw [ht] at e
        cases u <;> simp at e
        rw [e]; rfl
    by_cases hwant : Region.wanted o (yielded ops a.tmps) = true
    · rw [if_pos hwant]
      have hyb : yielded ops a.tmps j = some b := by
        simp only [Region.wanted, hgd] at hwant
        simpa using hwant
      have hvd := hyv' b hyb
      have hgl : holdsG (vl a) (g :: gl) := by
        split at hg
        · rename_i gl0 s0 e
          simp only [Option.some.injEq, List.cons.injEq] at hg
          obtain ⟨rfl, rfl⟩ := hg
          have he := hlkd (by rw [e]; simp)
          rw [show (σ.getD d .dead) = look d from he, e] at hrd
          have hh : holdsG (fun k => a.tmps.getD k undef) gl0 := by
            refine Classical.byContradiction fun hn => ?_
            have := (hrd.2 hn).2
            rw [show a.tmps.getD d undef = vl a d from rfl, hvd] at this
            simp [undef] at this
          intro g hm
          rcases List.mem_cons.1 hm with rfl | hm
          · exact hvd
          · exact hh g hm
        · simp only [Option.some.injEq, List.cons.injEq] at hg
          obtain ⟨rfl, rfl⟩ := hg
          intro g hm
          simp only [List.mem_singleton] at hm
          subst hm
          exact hvd
        · cases hg
      refine .inl (stepC_sound htab hsp hst hlk hgl hs (wrapGs_out hst hlk hgl _ _ hw hobs) fun v w' A g1 g2 g3 g4 g5 => hK v w' A g1 g2 g3 g4 ⟨fun _ => g5, fun hn => absurd hgl hn⟩)
    · rw [if_neg hwant]
      refine hK undef w [] (fun _ _ => rfl) (Below.refl _ _) List.nodup_nil (fun b hb => by simp at hb) ⟨fun hh => ?_, fun _ => ⟨rfl, rfl⟩⟩
      refine absurd ?_ hwant
      have hgd1 : g = (d, b) := by
        split at hg
        · simp only [Option.some.injEq, List.cons.injEq] at hg; exact hg.1.symm
        · simp only [Option.some.injEq, List.cons.injEq] at hg; exact hg.1.symm
        · cases hg
      have := hyv b (hh (d, b) (by rw [← hgd1]; simp))
      simp only [Region.wanted, hgd, this]
      simp
  · cases h

end Go.Proofs.Ytaachifkgcdeoaa.Sy

namespace Go.Proofs.Ytaachifkgcdeoaa.Sy
open Go.RowKit
set_option linter.unusedSimpArgs false
set_option linter.unusedVariables false

theorem lk_lt {σ : List Slot} {k : Nat} (h : lk σ k ≠ .dead) : k < σ.length := by
  refine Classical.byContradiction fun hn => h ?_
  simp [lk, List.getD_eq_getElem?_getD, List.getElem?_eq_none (Nat.le_of_not_lt hn)]
theorem repSt_sub {E : Env} {σ : List Slot} {a : Act} {w : World} {fl fl' : List Nat} (h : RepSt E σ a w fl) (hn : fl'.Nodup) (hs : ∀ b ∈ fl', b ∈ fl) : RepSt E σ a w fl' := by
  obtain ⟨h1, h2, h3, ow, how, hflN, hflo, hsl⟩ := h
  exact ⟨h1, h2, h3, ow, how, hn, fun b hb => hflo b (hs b hb), hsl⟩
theorem repSt_nodup {E : Env} {σ : List Slot} {a : Act} {w : World} {fl : List Nat} (h : RepSt E σ a w fl) : fl.Nodup := by
  obtain ⟨h1, h2, h3, ow, how, hflN, hflo, hsl⟩ := h
  exact hflN
theorem repSt_lt {E : Env} {σ : List Slot} {a : Act} {w : World} {fl : List Nat} (h : RepSt E σ a w fl) : ∀ b ∈ fl, b < w.heap.size := by
  obtain ⟨h1, h2, h3, ow, how, hflN, hflo, hsl⟩ := h
  exact fun b hb => (hflo b hb).2.2
theorem repSt_notF {E : Env} {σ : List Slot} {a : Act} {w : World} {fl : List Nat} (h : RepSt E σ a w fl) : ∀ b ∈ fl, ¬ E.F b := by
  obtain ⟨h1, h2, h3, ow, how, hflN, hflo, hsl⟩ := h
  exact fun b hb => (hflo b hb).2.1

theorem fl_change {E : Env} {σ : List Slot} {a : Act} {w w' : World} {fl : List Nat} (h : RepSt E σ a w fl) (hw : ∀ b, b ∉ fl → w'.heap[b]? = w.heap[b]?) (hsz : w'.heap.size = w.heap.size) (ho : w'.os = w.os ∧ w'.tape = w.tape ∧ w'.output = w.output) : RepSt E σ a w' fl := by
  obtain ⟨h1, h2, h3, ow, how, hflN, hflo, hsl⟩ := h
  have hF : ∀ b, E.F b → w'.heap[b]? = w.heap[b]? := fun b hb => hw b fun hm => (hflo b hm).2.1 hb
  have hO : ∀ b k, ow b = some k → w'.heap[b]? = w.heap[b]? := fun b k hk => hw b fun hm => by rw [(hflo b hm).1] at hk; cases hk
  refine ⟨h1, h2, h3.trans ⟨ho.1, ho.2.1, ho.2.2, by omega, hF⟩, ow, fun b k hk => ⟨(how b k hk).1, by have := (how b k hk).2; omega⟩, hflN, fun b hb => ⟨(hflo b hb).1, (hflo b hb).2.1, by have := (hflo b hb).2.2; omega⟩, fun k => ?_⟩
  obtain ⟨B, hB1, hB2, hB3⟩ := hsl k
  refine ⟨B, hB1, hB2, repSlot_mono hF _ _ B (fun b hb => hO b k (hB2 b hb)) (fun r hr => ?_) hB3⟩
  obtain ⟨C, hC1, hC2, hC3⟩ := hsl r
  exact ⟨rfl, fun p v' cur cs' hr' => rooted_keep hC1 hC3 (fun b hb => hO b r (hC2 b hb)) (fun _ _ _ _ => rfl) rfl hr', fun p b off hr' => rootedF_keep (fun t m x e => ⟨m, x, e, fun m1 e => ⟨m1, e⟩⟩) rfl hr'⟩

theorem write_tail {l news : List Value} {off k : Nat} (h : off + k + news.length ≤ l.length) : ((l.take (off + k) ++ (news ++ l.drop (off + k + news.length))).drop off).take (k + news.length) = (l.drop off).take k ++ news := by
  rw [List.drop_append, List.take_append]
  have h1 : (l.take (off + k)).length = off + k := by simp; omega
  rw [h1, show off - (off + k) = 0 by omega, List.drop_zero]
  have h2 : ((l.take (off + k)).drop off).length = k := by simp; omega
  rw [h2, List.take_of_length_le (by omega), show k + news.length - k = news.length by omega, List.take_left, List.drop_take, show off + k - off = k by omega]

/-! ### An operand, consumed -/
def takeO (tab : Tab) (T : TypeId) (σ : List Slot) (o : Operand) : Option (TV × List Slot) :=
  match opdOf tab T o with
  | some (.c v) => some (v, σ)
  | some (.t k) => match lk σ k with
    | .val t m x => if m.owned then some (⟨t, m, x⟩, setS σ k .dead) else if plainT t m then some (⟨t, .n, x⟩, σ) else none
    | .bor r [] => match lk σ r with
      | .val t m x => if m.owned then some (⟨t, m, x⟩, setS σ r .dead) else none
      | _ => none
    | .bor r [.d] => match lk σ r with
      | .val (.box t) (.b m) x => some (⟨t, m, x⟩, setS σ r .dead)
      | _ => none
    | _ => none
  | none => none

theorem takeO_ok {E : Env} {tab : Tab} {T : TypeId} {σ : List Slot} {a : Act} {w : World} {fl0 : List Nat} (h : RepSt E σ a w fl0) {o : Operand} {nv : TV} {σ1 : List Slot} (hv : takeO tab T σ o = some (nv, σ1)) :
    ∃ cs fl, Rep w E.F nv.t nv.m nv.x cs fl ∧ a.eval o = wrapV nv.t cs ∧ (fl ++ fl0).Nodup ∧ RepSt E σ1 a w (fl ++ fl0) ∧ σ1.length = σ.length := by
  have hn0 := repSt_nodup h
  unfold takeO at hv
  split at hv
  · rename_i v ho
    simp only [Option.some.injEq, Prod.mk.injEq] at hv
    obtain ⟨rfl, rfl⟩ := hv
    have := opdOf_ok ho
    cases o <;> simp only [OpdOk] at this
    obtain ⟨cs, h1, h2⟩ := this w E.F
    exact ⟨cs, [], h1, h2, hn0, h, rfl⟩
  · rename_i k ho
    have hok := opdOf_ok ho
    cases o <;> simp only [OpdOk] at hok
    subst hok
    split at hv
    · rename_i t m x hk
      split at hv
      · simp only [Option.some.injEq, Prod.mk.injEq] at hv
        obtain ⟨rfl, rfl⟩ := hv
        obtain ⟨Ak, h1, h2, h3, h4⟩ := free_state h (lk_lt (by rw [hk]; simp))
        rw [show σ.getD k .dead = .val t m x from hk] at h1
        obtain ⟨cs, h5, h6⟩ := h1
        exact ⟨cs, Ak, h5, h6, h2, h4, setS_length ..⟩
      · split at hv
        · rename_i hp
          simp only [Option.some.injEq, Prod.mk.injEq] at hv
          obtain ⟨rfl, rfl⟩ := hv
          obtain ⟨ow, how, _, _, hsl⟩ := h.slots
          obtain ⟨B, _, _, hr⟩ := hsl k
          rw [show σ.getD k .dead = .val t m x from hk] at hr
          obtain ⟨cs, h5, h6⟩ := hr
          have h7 := plainT_n _ _ _ _ _ hp h5
          have := plain_nil _ _ _ _ _ rfl h7
          subst this
          exact ⟨cs, [], h7, h6, hn0, h, rfl⟩
        · cases hv
    · rename_i r hk
      split at hv
      case h_2 => cases hv
      rename_i t m x hr
      split at hv
      case isFalse => cases hv
      simp only [Option.some.injEq, Prod.mk.injEq] at hv
      obtain ⟨rfl, rfl⟩ := hv
      -- the copy is what stands in the root
      have hcopy : ∃ cs0, vl a r = wrapV t cs0 ∧ vl a k = wrapV t cs0 ∧ cs0.length = t.size := by
        obtain ⟨ow, how, _, _, hsl⟩ := h.slots
        obtain ⟨B, _, _, hb⟩ := hsl k
        rw [show σ.getD k .dead = .bor r [] from hk] at hb
        obtain ⟨_, v, cur, cs', ⟨t0, m0, x0, cs0, e1, _, e3, e4, e5, e6⟩, hu⟩ := hb
        have e1' : lk σ r = .val t0 m0 x0 := e1
        rw [hr] at e1'
        simp only [Slot.val.injEq] at e1'
        obtain ⟨rfl, rfl, _⟩ := e1'
        simp only [getP, Option.some.injEq] at e5
        simp only [loc, Option.some.injEq, Prod.mk.injEq] at e6
        obtain ⟨_, rfl⟩ := e6
        subst e5
        exact ⟨cs0, e3, hu, e4⟩
      obtain ⟨cs0, hc1, hc2, hc3⟩ := hcopy
      obtain ⟨Ak, h1, h2, h3, h4⟩ := free_state h (lk_lt (k := r) (by rw [hr]; simp))
      rw [show σ.getD r .dead = .val t m x from hr] at h1
      obtain ⟨cs, h5, h6⟩ := h1
      have hcs : cs = cs0 := wrapV_inj (rep_length _ _ _ _ _ h5) hc3 (h6.symm.trans hc1)
      subst hcs
      exact ⟨cs, Ak, h5, hc2, h2, h4, setS_length ..⟩
    · rename_i r hk
      split at hv
      case h_2 => cases hv
      rename_i t m x hr
      simp only [Option.some.injEq, Prod.mk.injEq] at hv
      obtain ⟨rfl, rfl⟩ := hv
      have hcopy : ∃ b0, vl a r = .pointer (some ⟨b0, 0, none⟩) ∧ vl a k = wrapV t (rdCells w b0 0 t.size) := by
        obtain ⟨ow, how, _, _, hsl⟩ := h.slots
        obtain ⟨B, _, _, hb⟩ := hsl k
        rw [show σ.getD k .dead = .bor r [.d] from hk] at hb
        obtain ⟨_, v, cur, cs', ⟨t0, m0, x0, cs0, e1, _, e3, e4, e5, e6⟩, hu⟩ := hb
        have e1' : lk σ r = .val t0 m0 x0 := e1
        rw [hr] at e1'
        simp only [Slot.val.injEq] at e1'
        obtain ⟨rfl, rfl, _⟩ := e1'
        simp only [getP, Option.some.injEq] at e5
        simp only [loc] at e6
        split at e6
        case h_2 => cases e6
        rename_i b0
        simp only [Option.some.injEq, Prod.mk.injEq] at e6
        obtain ⟨_, rfl⟩ := e6
        subst e5
        exact ⟨b0, e3, hu⟩
      obtain ⟨b0, hc1, hc2⟩ := hcopy
      obtain ⟨Ak, h1, h2, h3, h4⟩ := free_state h (lk_lt (k := r) (by rw [hr]; simp))
      rw [show σ.getD r .dead = .val (.box t) (.b m) x from hr] at h1
      obtain ⟨cs, h5, h6⟩ := h1
      simp only [Rep] at h5
      obtain ⟨b1, c, e, fr, A', rfl, rfl, hb1, hfr, hx⟩ := h5
      have hbb : b1 = b0 := by
        have : wrapV (.box t) [.pointer (some ⟨b1, 0, none⟩)] = .pointer (some ⟨b0, 0, none⟩) := h6.symm.trans hc1
        simp [wrapV, PT.isAgg] at this
        exact this
      subst hbb
      have hcl : c.toList.length = t.size := rep_length _ _ _ _ _ hx
      rw [rdCells_of hb1, List.drop_zero, List.take_of_length_le (by omega)] at hc2
      have hn2 : (A' ++ fl0).Nodup := (List.nodup_cons.1 h2).2
      exact ⟨c.toList, A', hx, hc2, hn2, repSt_sub h4 hn2 (fun b hb => List.mem_cons_of_mem _ hb), setS_length ..⟩
    · cases hv
  · cases hv

def takeP (tab : Tab) : List (Nat × Operand) → List Slot → Option (List (Nat × TV) × List Slot)
  | [], σ => some ([], σ)
  | (i, o) :: ps, σ => match takeO tab 0 σ o with
    | some (v, σ1) => match takeP tab ps σ1 with
      | some (vs, σ2) => some ((i, v) :: vs, σ2)
      | none => none
    | none => none

def PartsRepA (w : World) (F : Nat → Prop) : List (Nat × TV) → List (Nat × Value) → List Nat → Prop
  | [], [], B => B = []
  | (i, v) :: ps, (j, u) :: us, B => i = j ∧ ∃ d B1 B2, B = B1 ++ B2 ∧ Rep w F v.t v.m v.x d B1 ∧ u = wrapV v.t d ∧ PartsRepA w F ps us B2
  | _, _, _ => False

theorem takeP_ok {E : Env} {tab : Tab} {a : Act} {w : World} : ∀ {ps : List (Nat × Operand)} {σ σ' : List Slot} {fl0 : List Nat} {vs : List (Nat × TV)}, RepSt E σ a w fl0 → takeP tab ps σ = some (vs, σ') →
    ∃ B, PartsRepA w E.F vs (ps.map fun p => (p.1, a.eval p.2)) B ∧ (B ++ fl0).Nodup ∧ RepSt E σ' a w (B ++ fl0) ∧ σ'.length = σ.length
  | [], σ, σ', fl0, vs, h, hv => by
    simp only [takeP, Option.some.injEq, Prod.mk.injEq] at hv
    obtain ⟨rfl, rfl⟩ := hv
    exact ⟨[], rfl, repSt_nodup h, h, rfl⟩
  | (i, o) :: ps, σ, σ', fl0, vs, h, hv => by
    simp only [takeP] at hv
    split at hv
    case h_2 => cases hv
    rename_i v σ1 hto
    split at hv
    case h_2 => cases hv
    rename_i vs' σ2 htp
    simp only [Option.some.injEq, Prod.mk.injEq] at hv
    obtain ⟨rfl, rfl⟩ := hv
    obtain ⟨cs, B1, h1, h2, h3, h4, h5⟩ := takeO_ok h hto
    obtain ⟨B2, g1, g2, g3, g4⟩ := takeP_ok h4 htp
    have hp : (B2 ++ (B1 ++ fl0)).Perm ((B1 ++ B2) ++ fl0) := by
      rw [← List.append_assoc]
      exact List.Perm.append_right _ List.perm_append_comm
    refine ⟨B1 ++ B2, ⟨rfl, cs, B1, B2, rfl, h1, h2, g1⟩, hp.nodup_iff.1 g2, repSt_sub g3 (hp.nodup_iff.1 g2) (fun b hb => hp.mem_iff.2 hb), g4.trans h5⟩

/-- A struct's fields filled, with what they own. -/
theorem fill_stA {w : World} {F : Nat → Prop} {ts : List PT} {place : Nat → Option (Nat × Nat)} (hpl : ∀ i t, ts[i]? = some t → place i = some (PT.sizeL (ts.take i), t.size)) : ∀ (ps : List (Nat × TV)) (us : List (Nat × Value)) (m m' : Md) (x x' : PT.denL ts) (cs : List Value) (A B : List Nat),
    PartsRepA w F ps us B → Rep w F (.st ts) m x cs A → (A ++ B).Nodup → setAll real0 (.st ts) Stp.f ps m x = some (m', x') → ∃ cs' A', Instr.fill place cs.toArray us = some cs'.toArray ∧ Rep w F (.st ts) m' x' cs' A' ∧ A'.Nodup ∧ ∀ b ∈ A', b ∈ A ++ B
  | [], us, m, m', x, x', cs, A, B, hp, hr, hnd, h => by
    cases us with
    | nil =>
      simp only [setAll, Option.some.injEq, Prod.mk.injEq] at h
      obtain ⟨rfl, rfl⟩ := h
      rw [List.nodup_append] at hnd
      exact ⟨cs, A, rfl, hr, hnd.1, fun b hb => by simp [hb]⟩
    | cons u us => exact hp.elim
  | (i, v) :: ps, us, m, m', x, x', cs, A, B, hp, hr, hnd, h => by
    cases us with
    | nil => exact hp.elim
    | cons ju us =>
      obtain ⟨j, u⟩ := ju
      obtain ⟨rfl, d, B1, B2, rfl, hd, rfl, hps⟩ := hp
      simp only [setAll] at h
      split at h
      case h_2 => cases h
      rename_i m1 x1 h1
      have hm : m = .n ∨ ∃ ms, m = .s ms := by cases m <;> simp_all [setP]
      have hset : ∃ ms1, m1 = mkS ms1 ∧ setF (setP real0 v []) ts m 0 x i = some (ms1, x1) := by
        rcases hm with rfl | ⟨ms, rfl⟩
        all_goals
          simp only [setP] at h1
          split at h1
          · rename_i ms1 y hh
            simp only [Option.some.injEq, Prod.mk.injEq] at h1
            obtain ⟨rfl, rfl⟩ := h1
            exact ⟨ms1, rfl, hh⟩
          · cases h1
      obtain ⟨ms1, rfl, hset⟩ := hset
      obtain ⟨v0, hv0⟩ := setF_fld hset
      have hrs : RepS w F ts m 0 x cs A := by
        rcases hm with rfl | ⟨ms, rfl⟩ <;> simpa [Rep] using hr
      obtain ⟨c1, c, c2, A1, A', A2, hcs, rfl, hc1, hti, hx, hrest⟩ := fld_at ts m 0 x cs A i v0 hrs hv0
      obtain ⟨m', y, g1, g2⟩ := hrest w F (setP real0 v []) ms1 x1 hset (fun _ h => h) (fun _ _ => rfl) (fun _ _ => rfl)
      obtain ⟨vt, vm, vx⟩ := v
      simp only [setP] at g1
      split at g1
      case h_2 => cases g1
      rename_i y' hcast
      simp only [Option.some.injEq, Prod.mk.injEq] at g1
      obtain ⟨rfl, rfl⟩ := g1
      obtain ⟨e, rfl⟩ := castT_some hcast
      dsimp only at hd e g2 ⊢
      subst e
      have hnew := g2 d B1 hd
      have hdl := rep_length _ _ _ _ _ hd
      have hcl := rep_length _ _ _ _ _ hx
      have hfill := fill_one (place := place) (i := i) (off := PT.sizeL (ts.take i)) (size := v0.t.size) (cells := cs.toArray) (v := wrapV v0.t d) (d := d) (rest := us) (hpl i v0.t hti) (wrapV_cells hd) hdl (by
        rw [hcs]
        simp
        omega)
      rw [hfill]
      have hcells : (cs.toArray.toList.take (PT.sizeL (ts.take i)) ++ (d ++ cs.toArray.toList.drop (PT.sizeL (ts.take i) + d.length))) = c1 ++ (d ++ c2) := by
        rw [hcs, ← hc1]
        simp only [List.toList_toArray]
        rw [List.take_left, List.drop_append, List.drop_of_length_le (by omega), show c1.length + d.length - c1.length = c.length by omega, List.drop_left]
        rfl
      rw [hcells]
      have hnd2 : ((A1 ++ (B1 ++ A2)) ++ B2).Nodup := by
        have hp1 : ((A1 ++ (A' ++ A2)) ++ (B1 ++ B2)).Perm (A' ++ ((A1 ++ (B1 ++ A2)) ++ B2)) := by
          refine List.perm_iff_count.2 fun b => ?_
          simp only [List.count_append]
          omega
        have := hp1.nodup_iff.1 hnd
        rw [List.nodup_append] at this
        exact this.2.1
      obtain ⟨cs', A'', k1, k2, k3, k4⟩ := fill_stA hpl ps us (mkS ms1) _ x1 x' (c1 ++ (d ++ c2)) (A1 ++ (B1 ++ A2)) B2 hps (rep_mkS (setF_length hset) hnew) hnd2 h
      refine ⟨cs', A'', k1, k2, k3, fun b hb => ?_⟩
      have := k4 b hb
      simp only [List.mem_append] at this ⊢
      rcases this with (h | h | h) | h <;> simp [h]

/-- A struct put together, its parts consumed. -/
def aBuildX (A : Alg) (tab : Tab) (σ : List Slot) (T : TypeId) (ps : List (Nat × Operand)) (d : Nat) : Option (List Prop × List Slot) :=
  match tyT tab T with
  | some (.st ts) => match takeP tab ps σ with
    | some (vs, σ1) => match setAll A (.st ts) Stp.f vs (zmd (.st ts)) (PT.dflt (.st ts)) with
      | some (m, x) => if m.owned then (match σ1[d]? with
        | some _ => some ([], setS σ1 d (.val (.st ts) m x))
        | none => none) else none
      | none => none
    | none => none
  | _ => none

theorem aBuildX_sound {E : Env} {tab : Tab} (htab : TabOk E.P tab) {σ : List Slot} {a : Act} {w : World} (hst : RepState E σ a w) {o : Oper} {T : TypeId} {ps : List (Nat × Operand)} {d : Nat} (ho : o.op = .build T ⟨ps⟩) {σ' : List Slot} {obs : List Prop}
    (h : aBuildX real0 tab σ T ps d = some (obs, σ')) : ∃ v, (execOp a.eval o).run E.P w = .ok (.value v) w ∧ RepState E σ' (a.put (some d) v) w := by
  unfold aBuildX at h
  split at h
  case h_2 => cases h
  rename_i ts hT
  split at h
  case h_2 => cases h
  rename_i vs σ1 htk
  split at h
  case h_2 => cases h
  rename_i m x hset
  split at h
  case isFalse => cases h
  split at h
  case h_2 => cases h
  rename_i hdl
  simp only [Option.some.injEq, Prod.mk.injEq] at h
  obtain ⟨_, rfl⟩ := h
  have hT := htab.ty _ _ hT
  have hTi := hT.ti.out
  unfold TyOk at hT
  obtain ⟨_, fs, hu, hfs⟩ := hT
  obtain ⟨i, g1, g2, g3, g4⟩ := hTi
  have hz := zero_rep (w := w) (F := E.F) (.st ts)
  have hpl : ∀ i t, ts[i]? = some t → ((fs.toList.map fun f => (f.offset, (((E.P.info? f.type).map (·.size)).getD 0))).toArray)[i]? = some (PT.sizeL (ts.take i), t.size) := by
    intro i t ht
    obtain ⟨f, f1, f2, f3⟩ := hfs.at ht
    obtain ⟨j, k1, k2, _⟩ := f3.ti.out
    simp [f1, f2, k1, k2]
  obtain ⟨B, hB1, hB2, hB3, hB4⟩ := takeP_ok hst htk
  rw [List.append_nil] at hB2 hB3
  obtain ⟨cs', A', hfill, hrep, hA1, hA2⟩ := fill_stA hpl vs _ (zmd (.st ts)) m _ x (zeroC (.st ts)) [] B hB1 hz (by simpa using hB2) hset
  have hrun : (Instr.build T (ps.map fun p => (p.1, a.eval p.2)).toArray).run E.P w = .ok (.agg cs'.toArray) w := by
    have hzc : (wrapV (.st ts) (zeroC (.st ts))).cells = (zeroC (.st ts)).toArray := wrapV_cells hz
    have hpm := run_places (P := E.P) (w := w) fs.toList (tyOkL_all hfs)
    have hzr : (zeroValue T).run E.P w = .ok (wrapV (.st ts) (zeroC (.st ts))) w := by simp [zeroValue, typeInfo, g1, g3]
    have hur : (underlying T).run E.P w = .ok (.struct fs) w := by simp [underlying, hu]
    unfold Instr.build
    simp only [Sem.run_bind, hzr, hur, Result.andThen_ok, Array.mapM_eq_mapM_toList, Sem.run_map, hpm, hzc]
    rw [hfill]
    rfl
  refine ⟨.agg cs'.toArray, ?_, ?_⟩
  · have : (ps.toArray.map fun p => (p.1, a.eval p.2)) = (ps.map fun p => (p.1, a.eval p.2)).toArray := by simp
    simp only [execOp, ho, Sem.run_bind, Sem.run_pure]
    exact Eq.trans (congrArg (fun r => Result.andThen r fun a w' => Result.ok (Next.value a) w') (this ▸ hrun)) rfl
  · obtain ⟨_, _, _, _, h6⟩ := set_state hB3 (fun _ _ => rfl) hB3.below (Nat.le_refl _) (d := d) (List.getElem?_eq_some_iff.1 hdl).1 (A := A') (s := .val (.st ts) m x) (v := .agg cs'.toArray) hA1 (fun b hb => .inr (by simpa using hA2 b hb)) ⟨cs', hrep, rfl⟩
    exact h6 [] List.nodup_nil (fun b hb => by simp at hb)

/-! ### Lists of parts that own something -/
def partsL (te : PT) (me : Md) : Nat → List (Nat × TV) → Option (List te.den)
  | _, [] => some []
  | j, (i, v) :: ps => if Nat.beq i j && Md.beq v.m me then (match castT v.t te v.x with
    | some y => match partsL te me (j + 1) ps with
      | some ys => some (y :: ys)
      | none => none
    | none => none) else none

theorem fill_seq {w : World} {F : Nat → Prop} {te : PT} {me : Md} : ∀ (ps : List (Nat × TV)) (us : List (Nat × Value)) (j : Nat) (xs : List te.den) (pre rest : List Value) (B : List Nat), PartsRepA w F ps us B → partsL te me j ps = some xs → pre.length = j * te.size → ps.length * te.size ≤ rest.length →
    ∃ cs, Instr.fill (fun i => some (i * te.size, te.size)) (pre ++ rest).toArray us = some (pre ++ cs ++ rest.drop (ps.length * te.size)).toArray ∧ RepL (Rep w F te me) xs cs B ∧ xs.length = ps.length
  | [], us, j, xs, pre, rest, B, hp, hx, hl, hr => by
    cases us with
    | nil =>
      simp only [partsL, Option.some.injEq] at hx
      subst hx
      exact ⟨[], by simp [Instr.fill], ⟨rfl, hp⟩, rfl⟩
    | cons u us => exact hp.elim
  | (i, v) :: ps, us, j, xs, pre, rest, B, hp, hx, hl, hr => by
    cases us with
    | nil => exact hp.elim
    | cons ju us =>
      obtain ⟨j', u⟩ := ju
      obtain ⟨rfl, d, B1, B2, rfl, hd, rfl, hps⟩ := hp
      simp only [partsL] at hx
      split at hx
      case isFalse => cases hx
      rename_i hb
      simp only [Bool.and_eq_true] at hb
      obtain rfl := Nat.eq_of_beq_eq_true hb.1
      have hme := Md.eq_of_beq hb.2
      split at hx
      case h_2 => cases hx
      rename_i y hy
      split at hx
      case h_2 => cases hx
      rename_i ys hys
      obtain rfl := Option.some.inj hx
      obtain ⟨vt, vm, vx⟩ := v
      obtain ⟨e, rfl⟩ := castT_some hy
      dsimp only at hd e hme ⊢
      subst e hme
      have hdl := rep_length _ _ _ _ _ hd
      simp only [List.length_cons, Nat.add_mul, Nat.one_mul] at hr
      have hfill := fill_one (place := fun i => some (i * vt.size, vt.size)) (i := i) (off := i * vt.size) (size := vt.size) (cells := (pre ++ rest).toArray) (v := wrapV vt d) (d := d) (rest := us) rfl (wrapV_cells hd) hdl (by simp; omega)
      rw [hfill]
      have hcells : ((pre ++ rest).toArray.toList.take (i * vt.size) ++ (d ++ (pre ++ rest).toArray.toList.drop (i * vt.size + d.length))) = (pre ++ d) ++ rest.drop d.length := by
        simp only [List.toList_toArray]
        rw [← hl, List.take_left, List.drop_append, List.drop_of_length_le (by omega), show pre.length + d.length - pre.length = d.length by omega]
        simp
      rw [hcells]
      obtain ⟨cs, k1, k2, k3⟩ := fill_seq ps us (i + 1) ys (pre ++ d) (rest.drop d.length) B2 hps hys (by simp [hl, hdl, Nat.add_mul]) (by simp; omega)
      refine ⟨d ++ cs, ?_, ⟨d, cs, B1, B2, rfl, rfl, hd, k2⟩, by simp [k3]⟩
      rw [k1]
      congr 2
      simp only [List.length_cons, Nat.add_mul, Nat.one_mul, List.drop_drop, hdl]
      rw [show vt.size + ps.length * vt.size = ps.length * vt.size + vt.size by omega]
      simp

def aBuildSX (A : Alg) (tab : Tab) (σ : List Slot) (T : TypeId) (n : Nat) (ps : List (Nat × Operand)) (d : Nat) : Option (List Prop × List Slot) :=
  match tyT tab T with
  | some (.list te) => match takeP tab ps σ with
    | some ((i, v) :: vs, σ1) => if v.m.owned && Nat.beq ((i, v) :: vs).length n && Nat.ble (n * te.size) 16777216 then (match partsL te v.m 0 ((i, v) :: vs) with
      | some xs => match σ1[d]? with
        | some _ => some ([], setS σ1 d (.val (.list te) (.l v.m) xs))
        | none => none
      | none => none) else none
    | _ => none
  | _ => none

theorem aBuildSX_sound {E : Env} {tab : Tab} (htab : TabOk E.P tab) {σ : List Slot} {a : Act} {w : World} (hst : RepState E σ a w) {o : Oper} {T : TypeId} {n : Nat} {ps : List (Nat × Operand)} {d : Nat} (ho : o.op = .buildSlice T n ⟨ps⟩) {σ' : List Slot} {obs : List Prop}
    (h : aBuildSX real0 tab σ T n ps d = some (obs, σ')) : ∃ v w', (execOp a.eval o).run E.P w = .ok (.value v) w' ∧ RepState E σ' (a.put (some d) v) w' := by
  unfold aBuildSX at h
  split at h
  case h_2 => cases h
  rename_i te hT
  split at h
  case h_2 => cases h
  rename_i i0 v0 vs σ1 htk
  split at h
  case isFalse => cases h
  rename_i hb
  simp only [Bool.and_eq_true, Nat.ble_eq] at hb
  obtain ⟨⟨_, hn⟩, hlim⟩ := hb
  have hn := Nat.eq_of_beq_eq_true hn
  split at h
  case h_2 => cases h
  rename_i xs hxs
  split at h
  case h_2 => cases h
  rename_i hdl
  simp only [Option.some.injEq, Prod.mk.injEq] at h
  obtain ⟨_, rfl⟩ := h
  have hT := htab.ty _ _ hT
  unfold TyOk at hT
  obtain ⟨_, e, hu, he⟩ := hT
  obtain ⟨i, g1, g2, g3, g4⟩ := he.ti.out
  have hpos := he.ti.pos
  obtain ⟨B, hB1, hB2, hB3, hB4⟩ := takeP_ok hst htk
  rw [List.append_nil] at hB2 hB3
  have hn1 : 1 ≤ n := by rw [← hn]; simp
  have hzl : (zeroC te).length = te.size := rep_length te _ _ _ _ (zero_rep (w := w) (F := E.F) te)
  have hzc : (wrapV te (zeroC te)).cells = (zeroC te).toArray := wrapV_cells (zero_rep (w := w) (F := E.F) te)
  have hfl : ((List.replicate n (zeroC te)).flatten).length = n * te.size := by simp [List.length_flatten, List.sum_replicate_nat, hzl]
  obtain ⟨cs', hfill, hrep, hlen⟩ := fill_seq (w := w) (F := E.F) (te := te) (me := v0.m) ((i0, v0) :: vs) _ 0 xs [] (List.replicate n (zeroC te)).flatten B hB1 hxs (by simp) (by rw [hfl, hn]; exact Nat.le_refl _)
  rw [hn] at hfill hlen
  simp only [List.nil_append] at hfill
  rw [List.drop_eq_nil_of_le (by rw [hfl]; exact Nat.le_refl _), List.append_nil] at hfill
  have hcl := repL_length (fun x c A h => rep_length te _ x c A h) _ _ _ hrep
  have hrun : (Instr.buildSlice T n (ps.map fun p => (p.1, a.eval p.2)).toArray).run E.P w = .ok (.slice (some ⟨w.heap.size, 0, none⟩) n n) { w with heap := w.heap.push (.cells cs'.toArray e) } := by
    have hzr : (zeroValue e).run E.P w = .ok (wrapV te (zeroC te)) w := by simp [zeroValue, typeInfo, g1, g3]
    have hur : (underlying T).run E.P w = .ok (.slice e) w := by simp [underlying, hu]
    have h0 : ¬ n * te.size = 0 := by
      intro h0
      rcases Nat.mul_eq_zero.1 h0 with h0 | h0 <;> omega
    have hl0 : ¬ n * te.size > 2 ^ 24 := by omega
    have hcells : ((Array.range (n * te.size)).map fun i => (zeroC te).toArray[i % (zeroC te).toArray.size]!) = ((List.replicate n (zeroC te)).flatten).toArray := by
      apply Array.toList_inj.1
      have := range_flat (zeroC te).toArray (by simp; omega) n
      simp only [List.size_toArray, hzl] at this
      simpa [hzl] using this
    unfold Instr.buildSlice
    simp only [Sem.run_bind, hur, Result.andThen_ok, he.sizeOf, hl0, h0, if_false, hzr, hzc, Sem.run_pure]
    rw [hcells, hfill]
    simp [newRow]
  have hst' := new_state (w := w) (.cells cs'.toArray e)
  refine ⟨.slice (some ⟨w.heap.size, 0, none⟩) n n, { w with heap := w.heap.push (.cells cs'.toArray e) }, ?_, ?_⟩
  · have : (ps.toArray.map fun p => (p.1, a.eval p.2)) = (ps.map fun p => (p.1, a.eval p.2)).toArray := by simp
    simp only [execOp, ho, Sem.run_bind, Sem.run_pure]
    exact Eq.trans (congrArg (fun r => Result.andThen r fun a w' => Result.ok (Next.value a) w') (this ▸ hrun)) rfl
  · have hn32 : n ≤ 16777216 := Nat.le_trans (Nat.le_mul_of_pos_right n hpos) hlim
    have hlt := repSt_lt hB3
    have hnew : w.heap.size ∉ B := fun hm => Nat.lt_irrefl _ (hlt _ hm)
    obtain ⟨_, _, _, _, h6⟩ := set_state hB3 hst'.1 (hB3.below.of_below hst'.2.2) (by simp) (d := d) (List.getElem?_eq_some_iff.1 hdl).1 (A := w.heap.size :: B) (s := .val (.list te) (.l v0.m) xs) (v := .slice (some ⟨w.heap.size, 0, none⟩) n n) (List.nodup_cons.2 ⟨hnew, hB2⟩) (fun b hb => by
      rcases List.mem_cons.1 hb with rfl | hb
      · exact .inl ⟨Nat.le_refl _, by simp⟩
      · exact .inr hb) ⟨[.slice (some ⟨w.heap.size, 0, none⟩) n n], by
        simp only [Rep]
        refine ⟨by rw [hlen]; omega, some ⟨w.heap.size, 0, none⟩, n, by rw [hlen], .inr ⟨w.heap.size, 0, cs'.toArray, e, (0, 0), B, rfl, rfl, hst'.2.1, free0 _, by omega, ?_, ?_⟩⟩
        · simp [hcl, hlen]
        · rw [List.drop_zero, List.toList_toArray, List.take_of_length_le (by rw [hcl]; exact Nat.le_refl _)]
          exact repL_mono _ _ _ (fun x c A' hA hr => rep_frame (fun _ h => h) (fun b hb => hst'.1 b (Nat.lt_of_lt_of_le (E.hF b hb) hB3.below.size)) te v0.m x c A' (fun b hb => hst'.1 b (hlt b (hA b hb))) hr) hrep, rfl⟩
    exact h6 [] List.nodup_nil (fun b hb => by simp at hb)
end Go.Proofs.Ytaachifkgcdeoaa.Sy

namespace Go.Proofs.Ytaachifkgcdeoaa.Sy
open Go.RowKit
set_option linter.unusedSimpArgs false
set_option linter.unusedVariables false

/-- Append to a list of one's own, which is handed over, what is one's own, which is handed over, too. -/
def aAppX (A : Alg) (tab : Tab) (σ : List Slot) (T T' : TypeId) (x y : Operand) (d : Nat) : Option (List Prop × List Slot) :=
  if Nat.beq T T' then (match tyT tab T with
    | some (.list te) => match takeO tab T σ y with
      | some (⟨.list ty, .l my, ys⟩, σ1) => match takeO tab T σ1 x with
        | some (⟨.list tx, .l mx, xs⟩, σ2) => match castT (.list tx) (.list te) xs, castT (.list ty) (.list te) ys with
          | some xs, some ys => if Md.beq mx my then (match σ2[d]? with
            | some _ => some ([A.smL (A.pls (A.len te xs) (A.len te ys))], setS σ2 d (.val (.list te) (.l mx) (A.app te xs ys)))
            | none => none) else none
          | _, _ => none
        | _ => none
      | _ => none
    | _ => none) else none

theorem aAppX_sound {E : Env} {tab : Tab} (htab : TabOk E.P tab) {σ : List Slot} {a : Act} {w : World} (hst : RepState E σ a w) {o : Oper} {T T' : TypeId} {x y : Operand} {d : Nat} (ho : o.op = .call ⟨.builtin .append, ⟨[x, y]⟩, ⟨[T, T']⟩⟩) {σ' : List Slot} {obs : List Prop}
    (h : aAppX real0 tab σ T T' x y d = some (obs, σ')) (hobs : obsAll obs) : ∃ v w', (execOp a.eval o).run E.P w = .ok (.value v) w' ∧ RepState E σ' (a.put (some d) v) w' := by
  unfold aAppX at h
  split at h
  case isFalse => cases h
  rename_i hTT
  obtain rfl : T = T' := Nat.eq_of_beq_eq_true hTT
  split at h
  case h_2 => cases h
  rename_i te hT
  split at h
  case h_2 => cases h
  rename_i ty my ys0 σ1 hty
  split at h
  case h_2 => cases h
  rename_i tx mx xs0 σ2 htx
  split at h
  case h_2 => cases h
  rename_i xs ys hcx hcy
  split at h
  case isFalse => cases h
  rename_i hmm
  obtain rfl := Md.eq_of_beq hmm
  split at h
  case h_2 => cases h
  rename_i hdl
  simp only [Option.some.injEq, Prod.mk.injEq] at h
  obtain ⟨rfl, rfl⟩ := h
  obtain ⟨e1, rfl⟩ := castT_some hcx
  obtain ⟨e2, rfl⟩ := castT_some hcy
  simp only [PT.list.injEq] at e1 e2
  subst e2
  subst e1
  dsimp only at hobs ⊢
  clear hcx hcy
  obtain ⟨csy, fy, gy1, gy2, gy3, gy4, _⟩ := takeO_ok hst hty
  rw [List.append_nil] at gy3 gy4
  obtain ⟨csx, fx, gx1, gx2, gx3, gx4, _⟩ := takeO_ok gy4 htx
  dsimp only at gy1 gy2 gx1 gx2
  simp only [Rep] at gx1 gy1
  obtain ⟨hlen1, a1, cap1, rfl, hor1⟩ := gx1
  obtain ⟨hlen2, a2, cap2, rfl, hor2⟩ := gy1
  have hxv : a.eval x = .slice a1 (List.length xs0) cap1 := gx2
  have hyv : a.eval y = .slice a2 (List.length ys0) cap2 := gy2
  have htT := htab.ty _ _ hT
  unfold TyOk at htT
  obtain ⟨_, el, hu, hel⟩ := htT
  obtain ⟨i, i1, i2, i3, i4⟩ := hel.ti.out
  have hpos := hel.ti.pos
  have hdl' : d < σ2.length := (List.getElem?_eq_some_iff.1 hdl).1
  have hlt := repSt_lt gx4
  have hnotF := repSt_notF gx4
  have hone : ∀ (zs : List tx.den) (cs : List Value) (A : List Nat), RepL (Rep w E.F tx mx) zs cs A → ∀ v ∈ cs, v.oneCell' = true := fun zs cs A hr => repL_all (fun x c A h => rep_one tx _ x c A h) _ _ _ hr
  have hlenL : ∀ (zs : List tx.den) (cs : List Value) (A : List Nat), RepL (Rep w E.F tx mx) zs cs A → cs.length = zs.length * tx.size := fun zs cs A hr => repL_length (fun x c A h => rep_length tx _ x c A h) _ _ _ hr
  obtain ⟨news, By, hL2, hR2, hBy⟩ : ∃ news By, Lies w a2 (List.length ys0) i.size news ∧ RepL (Rep w E.F tx mx) ys0 news By ∧ By.Sublist fy := by
    rcases hor2 with ⟨rfl, rfl, rfl⟩ | ⟨b, off, c, e, fr, A', rfl, rfl, hb, hfree, hcap, hsz, hr⟩
    · exact ⟨[], [], .inl ⟨rfl, rfl⟩, ⟨rfl, rfl⟩, List.Sublist.refl _⟩
    · refine ⟨_, A', .inr ⟨b, off, c, e, fr, rfl, hb, ?_, rfl⟩, by rw [i2]; exact hr, List.sublist_cons_self _ _⟩
      rw [i2]
      have := Nat.mul_le_mul_right tx.size hcap
      omega
  obtain ⟨olds, Bx, hL1, hR1, hBx⟩ : ∃ olds Bx, ((List.length xs0 = 0 ∧ cap1 = 0 ∧ olds = []) ∨ ∃ b off c e' fr, a1 = some ⟨b, off, none⟩ ∧ w.heap[b]? = some (.cells c e' fr) ∧ Free c fr ∧ List.length xs0 ≤ cap1 ∧ off + cap1 * i.size ≤ c.size ∧ olds = (c.toList.drop off).take (List.length xs0 * i.size)) ∧
      RepL (Rep w E.F tx mx) xs0 olds Bx ∧ ((xs0 = [] ∧ cap1 = 0 ∧ fx = [] ∧ Bx = []) ∨ ∃ b off, a1 = some ⟨b, off, none⟩ ∧ fx = b :: Bx) := by
    rcases hor1 with ⟨rfl, rfl, rfl⟩ | ⟨b, off, c, e, fr, A', rfl, rfl, hb, hfree, hcap, hsz, hr⟩
    · exact ⟨[], [], .inl ⟨rfl, rfl, rfl⟩, ⟨rfl, rfl⟩, .inl ⟨rfl, rfl, rfl, rfl⟩⟩
    · exact ⟨_, A', .inr ⟨b, off, c, e, fr, rfl, hb, hfree, hcap, by rw [i2]; exact hsz, rfl⟩, by rw [i2]; exact hr, .inr ⟨b, off, rfl, rfl⟩⟩
  have hn : List.length xs0 + List.length ys0 ≤ 4294967296 := by
    have := hobs _ (List.mem_singleton.2 rfl)
    have this : ((List.length xs0 : Nat) : Int) + ((List.length ys0 : Nat) : Int) ≤ 4294967296 := this
    omega
  have hzs : (wrapV tx (zeroC tx)).cells.size = i.size := by
    rw [wrapV_cells (zero_rep (w := w) (F := noF) tx), i2]
    simpa using rep_length tx _ _ _ _ (zero_rep (w := w) (F := noF) tx)
  obtain ⟨v', w', hrun, ho1, ho2, ho3, hcases⟩ := run_append_any (P := E.P) (w := w) (ty := o.type) hu i1 i3 hzs (by omega) i4 hL1 hL2 (hone _ _ _ hR2) hn
  refine ⟨v', w', ?_, ?_⟩
  · simp only [execOp, ho, resolve, invoke, builtin, Sem.run_bind, Sem.run_pure, Result.andThen_ok, List.map_toArray, List.map_cons, List.map_nil, hxv, hyv]
    exact Eq.trans (congrArg (fun r => Result.andThen r fun a w' => Result.ok (Next.value a) w') hrun) rfl
  have hsum : List.length (real0.app tx xs0 ys0) = List.length xs0 + List.length ys0 := List.length_append
  have hol := hlenL _ _ _ hR1
  have hnl := hlenL _ _ _ hR2
  have hByM : ∀ b ∈ By, b ∈ fy := fun b hb => hBy.subset hb
  have hndXY : (fx ++ By).Nodup := (List.Sublist.append_left hBy fx).nodup gx3
  rcases hcases with ⟨hn2, rfl, rfl⟩ | ⟨b, off, rfl, hroom, rfl, hsz, hwr⟩ | ⟨capn, c, rfl, hcap, hcsz, htake, hheap⟩
  · -- nothing is appended
    have hys : ys0 = [] := List.eq_nil_of_length_eq_zero hn2
    subst hys
    obtain ⟨_, _, _, _, h6⟩ := set_state gx4 (fun _ _ => rfl) gx4.below (Nat.le_refl _) hdl' (A := fx) (s := .val (.list tx) (.l mx) (real0.app tx xs0 [])) (v := .slice a1 (List.length xs0) cap1) ((List.nodup_append.1 gx3).1) (fun b hb => .inr (by simp [hb])) ⟨[.slice a1 (List.length xs0) cap1], by
      have : real0.app tx xs0 [] = xs0 := List.append_nil xs0
      rw [this]
      simp only [Rep]
      exact ⟨hlen1, a1, cap1, rfl, hor1⟩, rfl⟩
    exact h6 [] List.nodup_nil (fun b hb => by simp at hb)
  · -- there is room
    rcases hor1 with ⟨rfl, rfl, rfl⟩ | ⟨b0, off0, c, e, fr, A', hb0, rfl, hb, hfree, hcap, hsz1, hr⟩
    · simp only [List.length_nil, Nat.zero_add, Nat.le_zero] at hroom
      have hys : ys0 = [] := List.eq_nil_of_length_eq_zero hroom
      subst hys
      have hnews : news = [] := List.eq_nil_of_length_eq_zero (by rw [hnl]; simp)
      subst hnews
      have hww : ∀ b', b' < w.heap.size → w'.heap[b']? = w.heap[b']? := by
        intro b' _
        by_cases hbb : b' = b
        · subst hbb
          obtain ⟨⟨c0, c0', e0, fr0, f1, f2, f3, f4⟩, _⟩ := hwr
          rw [f1, f2]
          simp only [List.length_nil, Nat.add_zero, List.nil_append, List.take_append_drop] at f4
          rw [Array.toList_inj.1 f4]
        · exact hwr.2 b' hbb
      obtain ⟨_, _, _, _, h6⟩ := set_state gx4 hww (gx4.below.trans ⟨ho1, ho2, ho3, by omega, fun b' hb' => hww b' (Nat.lt_of_lt_of_le (E.hF b' hb') gx4.below.size)⟩) (by omega) hdl' (A := []) (s := .val (.list tx) (.l mx) (real0.app tx [] [])) (v := .slice (some ⟨b, off, none⟩) 0 0) List.nodup_nil (fun b hb => by simp at hb) ⟨[.slice (some ⟨b, off, none⟩) 0 0], by
        simp only [Rep]
        exact ⟨by simp [real0], some ⟨b, off, none⟩, 0, by simp [real0], .inl ⟨rfl, by trivial, by trivial⟩⟩, rfl⟩
      exact h6 [] List.nodup_nil (fun b hb => by simp at hb)
    · simp only [Option.some.injEq, Addr.mk.injEq, and_true] at hb0
      obtain ⟨rfl, rfl⟩ := hb0
      have hBxA : Bx = A' := by
        rcases hBx with ⟨_, _, h, _⟩ | ⟨b1, off1, _, h⟩
        · cases h
        · exact ((List.cons.inj h).2).symm
      subst hBxA
      have st2 := fl_change gx4 (w' := w') (fun b' hb' => hwr.2 b' fun e => hb' (by simp [e])) hsz ⟨ho1, ho2, ho3⟩
      obtain ⟨⟨c0, c0', e0, fr0, f1, f2, f3, f4⟩, hother⟩ := hwr
      rw [hb] at f1
      simp only [Option.some.injEq, Obj.cells.injEq] at f1
      obtain ⟨rfl, rfl, rfl⟩ := f1
      have hcsz : c0'.size = c.size := by
        have := congrArg List.length f4
        simp at this
        omega
      have hFw : ∀ b', E.F b' → w'.heap[b']? = w.heap[b']? := fun b' hb' => hother b' fun e => by subst e; exact hnotF b' (by simp) hb'
      have hbn : b ∉ Bx ∧ b ∉ By := by
        have : (b :: (Bx ++ By)).Nodup := hndXY
        rw [List.nodup_cons] at this
        exact ⟨fun h => this.1 (by simp [h]), fun h => this.1 (by simp [h])⟩
      have hR1' : RepL (Rep w' E.F tx mx) xs0 ((c.toList.drop off).take (List.length xs0 * tx.size)) Bx := repL_mono _ _ _ (fun x c A'' hA hr => rep_frame (fun _ h => h) hFw tx mx x c A'' (fun b' hb' => hother b' fun e => hbn.1 (e ▸ hA b' hb')) hr) hr
      have hR2' : RepL (Rep w' E.F tx mx) ys0 news By := repL_mono _ _ _ (fun x c A'' hA hr => rep_frame (fun _ h => h) hFw tx mx x c A'' (fun b' hb' => hother b' fun e => hbn.2 (e ▸ hA b' hb')) hr) hR2
      obtain ⟨_, _, _, _, h6⟩ := set_state st2 (fun _ _ => rfl) st2.below (Nat.le_refl _) hdl' (A := b :: (Bx ++ By)) (s := .val (.list tx) (.l mx) (real0.app tx xs0 ys0)) (v := .slice (some ⟨b, off, none⟩) (List.length xs0 + List.length ys0) cap1) hndXY (fun b' hb' => .inr (by
          simp only [List.mem_cons, List.mem_append] at hb' ⊢
          rcases hb' with h | h | h
          · simp [h]
          · simp [h]
          · simp [hByM b' h])) ⟨[.slice (some ⟨b, off, none⟩) (List.length xs0 + List.length ys0) cap1], by
        simp only [Rep]
        refine ⟨by rw [hsum]; exact hn, some ⟨b, off, none⟩, cap1, by rw [hsum], .inr ⟨b, off, c0', e, fr, Bx ++ By, rfl, rfl, f2, ?_, by rw [hsum]; exact hroom, by rw [hcsz]; exact hsz1, ?_⟩⟩
        · intro j hj
          exact hfree j (by omega)
        · rw [hsum, f4, Nat.add_mul, ← hnl, i2] at *
          rw [write_tail (by simpa using f3)]
          exact repL_append hR1' hR2', rfl⟩
      exact h6 [] List.nodup_nil (fun b hb => by simp at hb)
  · -- new memory
    have hww : ∀ b', b' < w.heap.size → w'.heap[b']? = w.heap[b']? := fun b' hb' => by
      rw [hheap, Array.getElem?_push, if_neg (by omega)]
    have hnew : w'.heap[w.heap.size]? = some (.cells c el) := by rw [hheap]; simp
    have hs1 : w'.heap.size = w.heap.size + 1 := by rw [hheap]; simp
    have hBxM : ∀ b ∈ Bx, b ∈ fx := by
      rcases hBx with ⟨_, _, _, rfl⟩ | ⟨b1, off1, _, h⟩
      · simp
      · intro b hb; rw [h]; simp [hb]
    have hBxS : Bx.Sublist fx := by
      rcases hBx with ⟨_, _, _, rfl⟩ | ⟨b1, off1, _, h⟩
      · exact List.nil_sublist _
      · rw [h]; exact List.sublist_cons_self _ _
    have hndB : (Bx ++ By).Nodup := (List.Sublist.append_right hBxS By).nodup hndXY
    have hltB : ∀ b ∈ Bx ++ By, b < w.heap.size := fun b hb => by
      rcases List.mem_append.1 hb with h | h
      · exact hlt b (by simp [hBxM b h])
      · exact hlt b (by simp [hByM b h])
    have hFw : ∀ b', E.F b' → w'.heap[b']? = w.heap[b']? := fun b' hb' => hww b' (Nat.lt_of_lt_of_le (E.hF b' hb') gx4.below.size)
    have hR1' : RepL (Rep w' E.F tx mx) xs0 olds Bx := repL_mono _ _ _ (fun x c A'' hA hr => rep_frame (fun _ h => h) hFw tx mx x c A'' (fun b' hb' => hww b' (hltB b' (by simp [hA b' hb']))) hr) hR1
    have hR2' : RepL (Rep w' E.F tx mx) ys0 news By := repL_mono _ _ _ (fun x c A'' hA hr => rep_frame (fun _ h => h) hFw tx mx x c A'' (fun b' hb' => hww b' (hltB b' (by simp [hA b' hb']))) hr) hR2
    obtain ⟨_, _, _, _, h6⟩ := set_state gx4 hww (gx4.below.trans ⟨ho1, ho2, ho3, by omega, hFw⟩) (by omega) hdl' (A := w.heap.size :: (Bx ++ By)) (s := .val (.list tx) (.l mx) (real0.app tx xs0 ys0)) (v := .slice (some ⟨w.heap.size, 0, none⟩) (List.length xs0 + List.length ys0) capn) (List.nodup_cons.2 ⟨fun h => Nat.lt_irrefl _ (hltB _ h), hndB⟩) (fun b' hb' => by
        rcases List.mem_cons.1 hb' with rfl | hb'
        · exact .inl ⟨Nat.le_refl _, by omega⟩
        · refine .inr ?_
          rcases List.mem_append.1 hb' with h | h
          · simp [hBxM b' h]
          · simp [hByM b' h]) ⟨[.slice (some ⟨w.heap.size, 0, none⟩) (List.length xs0 + List.length ys0) capn], by
      simp only [Rep]
      refine ⟨by rw [hsum]; exact hn, some ⟨w.heap.size, 0, none⟩, capn, by rw [hsum], .inr ⟨w.heap.size, 0, c, el, (0, 0), Bx ++ By, rfl, rfl, hnew, free0 c, by rw [hsum]; exact hcap, by rw [hcsz, i2]; omega, ?_⟩⟩
      rw [hsum, List.drop_zero, ← i2, htake]
      exact repL_append hR1' hR2', rfl⟩
    exact h6 [] List.nodup_nil (fun b hb => by simp at hb)
end Go.Proofs.Ytaachifkgcdeoaa.Sy

namespace Go.Proofs.Ytaachifkgcdeoaa.Sy
open Go.RowKit
set_option linter.unusedSimpArgs false
set_option linter.unusedVariables false

theorem repL_comp {α : Type} {R : α → List Value → List Nat → Prop} {n : Nat} (hR : ∀ x c A, R x c A → c.length = n) : ∀ (xs : List α) (cs : List Value) (A : List Nat), RepL R xs cs A → A.Nodup →
    ∃ AA : Nat → List Nat, ∀ i (hi : i < xs.length), R xs[i] ((cs.drop (i * n)).take n) (AA i) ∧ (∀ b ∈ AA i, b ∈ A) ∧ (AA i).Nodup ∧ ∀ j, j < xs.length → j ≠ i → ∀ b ∈ AA i, b ∉ AA j
  | [], cs, A, h, hn => ⟨fun _ => [], fun i hi => absurd hi (Nat.not_lt_zero _)⟩
  | x :: xs, cs, A, h, hn => by
    obtain ⟨c1, c2, A1, A2, rfl, rfl, h1, h2⟩ := h
    obtain ⟨n1, n2, n3⟩ := List.nodup_append.1 hn
    obtain ⟨AA, hA⟩ := repL_comp hR xs c2 A2 h2 n2
    have hc := hR _ _ _ h1
    refine ⟨fun i => match i with | 0 => A1 | i + 1 => AA i, fun i hi => ?_⟩
    cases i with
    | zero =>
      refine ⟨?_, fun b hb => by simp [show b ∈ A1 from hb], n1, fun j hj hne b hb => ?_⟩
      · simp only [Nat.zero_mul, List.drop_zero, List.getElem_cons_zero]
        rw [← hc, List.take_left]
        exact h1
      · cases j with
        | zero => exact absurd rfl hne
        | succ j => exact fun hm => n3 b hb b ((hA j (by simpa using hj)).2.1 b hm) rfl
    | succ i =>
      have hi' : i < xs.length := by simpa using hi
      obtain ⟨g1, g2, g3, g4⟩ := hA i hi'
      refine ⟨?_, fun b hb => by simp [g2 b hb], g3, fun j hj hne b hb => ?_⟩
      · simp only [List.getElem_cons_succ]
        rw [Nat.succ_mul, Nat.add_comm, ← hc, List.drop_append, List.drop_of_length_le (by omega), List.nil_append, show c1.length + i * c1.length - c1.length = i * c1.length by omega, hc]
        exact g1
      · cases j with
        | zero => exact fun hm => n3 b hm b (g2 b hb) rfl
        | succ j => exact g4 j (by simpa using hj) (fun e => hne (by rw [e])) b hb

theorem repS_comp {w : World} {F : Nat → Prop} : ∀ (ts : List PT) (m : Md) (i0 : Nat) (x : PT.denL ts) (cs : List Value) (A : List Nat), RepS w F ts m i0 x cs A → A.Nodup →
    ∃ AA : Nat → List Nat, ∀ i u, fldP ts m i0 x i = some u → ts[i]? = some u.t ∧ Rep w F u.t u.m u.x ((cs.drop (PT.sizeL (ts.take i))).take u.t.size) (AA i) ∧ (∀ b ∈ AA i, b ∈ A) ∧ (AA i).Nodup ∧ ∀ j u', fldP ts m i0 x j = some u' → j ≠ i → ∀ b ∈ AA i, b ∉ AA j
  | [], m, i0, x, cs, A, h, hn => ⟨fun _ => [], fun i u hu => by simp [fldP] at hu⟩
  | t :: ts, m, i0, x, cs, A, h, hn => by
    simp only [RepS] at h
    obtain ⟨c1, c2, A1, A2, rfl, rfl, h1, h2⟩ := h
    obtain ⟨n1, n2, n3⟩ := List.nodup_append.1 hn
    obtain ⟨AA, hA⟩ := repS_comp ts m (i0 + 1) x.2 c2 A2 h2 n2
    have hc := rep_length _ _ _ _ _ h1
    refine ⟨fun i => match i with | 0 => A1 | i + 1 => AA i, fun i u hu => ?_⟩
    cases i with
    | zero =>
      simp only [fldP, Option.some.injEq] at hu
      subst hu
      refine ⟨rfl, ?_, fun b hb => by simp [show b ∈ A1 from hb], n1, fun j u' hj hne b hb => ?_⟩
      · simp only [List.take_zero, PT.sizeL, List.drop_zero]
        rw [← hc, List.take_left]
        exact h1
      · cases j with
        | zero => exact absurd rfl hne
        | succ j => exact fun hm => n3 b hb b ((hA j u' hj).2.2.1 b hm) rfl
    | succ i =>
      obtain ⟨g0, g1, g2, g3, g4⟩ := hA i u hu
      refine ⟨g0, ?_, fun b hb => by simp [g2 b hb], g3, fun j u' hj hne b hb => ?_⟩
      · simp only [List.take_succ_cons, PT.sizeL]
        rw [← hc, List.drop_append, List.drop_of_length_le (by omega), List.nil_append, show c1.length + PT.sizeL (ts.take i) - c1.length = PT.sizeL (ts.take i) by omega]
        exact g1
      · cases j with
        | zero => exact fun hm => n3 b hm b (g2 b hb) rfl
        | succ j => exact g4 j u' hj (fun e => hne (by rw [e])) b hb

/-- w' is w but for block b0, and there from lim on. -/
structure Room (w w' : World) (b0 lim : Nat) : Prop where
  other : ∀ b, b ≠ b0 → w'.heap[b]? = w.heap[b]?
  here : ∃ c c' e fr, w.heap[b0]? = some (.cells c e fr) ∧ w'.heap[b0]? = some (.cells c' e fr) ∧ c'.size = c.size ∧ ∀ j, j < lim → c'.toList[j]? = c.toList[j]?

theorem seg_room {l l' : List Value} {lim o n : Nat} (h : ∀ j, j < lim → l'[j]? = l[j]?) (hn : o + n ≤ lim) : (l'.drop o).take n = (l.drop o).take n := by
  apply List.ext_getElem?
  intro i
  rw [List.getElem?_take, List.getElem?_take, List.getElem?_drop, List.getElem?_drop]
  split
  · exact h _ (by omega)
  · rfl
theorem rd_room {w w' : World} {b0 lim : Nat} (h : Room w w' b0 lim) {b o n : Nat} (hb : b ≠ b0 ∨ o + n ≤ lim) : rdCells w' b o n = rdCells w b o n := by
  by_cases e : b = b0
  · subst e
    obtain ⟨c, c', e', fr, h1, h2, h3, h4⟩ := h.here
    rw [rdCells_of h1, rdCells_of h2]
    exact seg_room h4 (by rcases hb with hb | hb; exact absurd rfl hb; exact hb)
  · simp only [rdCells, h.other b e]

theorem loc_room {w w' : World} {F : Nat → Prop} {b0 lim : Nat} (hR : Room w w' b0 lim) {te : PT} {me : Md} {xs : List te.den} {o0 cap : Nat} (hlim : o0 + xs.length * te.size ≤ lim) (hcap : 0 < cap) :
    ∀ (p : List Stp) (t : PT) (m : Md) (x : t.den) (cs : List Value) (cur cur' : Option (Nat × Nat)) (A : List Nat), Rep w F t m x cs A → A.Nodup → getP real0 t m x p = some ⟨.list te, .l me, xs⟩ → loc w t cur cs p = some (cur', [.slice (some ⟨b0, o0, none⟩) xs.length cap]) →
      b0 ∈ A ∧ ∀ q v2, getP real0 t m x q = some v2 → loc w' t cur cs q = loc w t cur cs q
  | [], t, m, x, cs, cur, cur', A, hr, hn, hg, hl => by
    simp only [getP, Option.some.injEq] at hg
    simp only [loc, Option.some.injEq, Prod.mk.injEq] at hl
    obtain ⟨rfl, rfl⟩ := hl
    cases hg
    simp only [Rep] at hr
    obtain ⟨h0, a, cap', e1, hd⟩ := hr
    simp only [List.cons.injEq, Value.slice.injEq, and_true] at e1
    obtain ⟨rfl, _, rfl⟩ := e1
    rcases hd with ⟨_, rfl, _⟩ | ⟨b, off, c, e, fr, A', hba, rfl, hb, hfree, hcp, hsz, hrl⟩
    · omega
    simp only [Option.some.injEq, Addr.mk.injEq, and_true] at hba
    obtain ⟨rfl, rfl⟩ := hba
    obtain ⟨hb1, hn'⟩ := List.nodup_cons.1 hn
    refine ⟨by simp, fun q v2 hq => ?_⟩
    cases q with
    | nil => simp only [loc]
    | cons s q =>
      rcases getP_cases hq with ⟨ts, i, rfl, e1⟩ | ⟨n, t1, k, rfl, e1⟩ | ⟨t1, m1, k, rfl, e1, e2⟩ | ⟨t1, m1, rfl, e1, _⟩
      · cases e1
      · cases e1
      · simp only [loc]
        by_cases hk : 0 ≤ k ∧ k < ((List.length xs : Nat) : Int)
        · rw [if_pos hk, if_pos hk]
          have hi : k.toNat < List.length xs := by omega
          have hm : (k.toNat + 1) * te.size ≤ List.length xs * te.size := Nat.mul_le_mul_right _ hi
          rw [Nat.succ_mul] at hm
          obtain ⟨AA, hAA⟩ := repL_comp (fun x c A h => rep_length te _ x c A h) _ _ _ hrl hn'
          obtain ⟨g1, g2, _, _⟩ := hAA k.toNat hi
          rw [rd_room hR (.inr (by omega))]
          have hcell : rdCells w b0 (o0 + k.toNat * te.size) te.size = (((c.toList.drop o0).take (List.length xs * te.size)).drop (k.toNat * te.size)).take te.size := by
            rw [rdCells_of hb, List.drop_take, List.drop_drop, List.take_take, Nat.min_eq_left (by omega)]
          rw [hcell]
          refine loc_frame q te me _ _ _ _ v2 g1 (fun b hb => hR.other b fun e => hb1 (e ▸ g2 b hb)) ?_
          simpa [getP, real0, List.getD_eq_getElem?_getD, List.getElem?_eq_getElem hi] using hq
        · rw [if_neg hk, if_neg hk]
      · cases e1
  | s :: p, t, m, x, cs, cur, cur', A, hr, hn, hg, hl => by
    rcases getP_cases hg with ⟨ts, i, rfl, rfl⟩ | ⟨n, t1, k, rfl, rfl⟩ | ⟨t1, m1, k, rfl, rfl, rfl⟩ | ⟨t1, m1, rfl, rfl, rfl⟩
    · -- a struct
      have hm : m = .n ∨ ∃ ms, m = .s ms := by cases m <;> simp_all [getP]
      have hrs : RepS w F ts m 0 x cs A := by
        rcases hm with rfl | ⟨ms, rfl⟩ <;> simpa [Rep] using hr
      have hgx : ∀ {i : Nat} {p : List Stp} {v : TV}, getP real0 (.st ts) m x (.f i :: p) = some v → ∃ u, fldP ts m 0 x i = some u ∧ getP real0 u.t u.m u.x p = some v := by
        intro i p v hg
        rcases hm with rfl | ⟨ms, rfl⟩
        all_goals
          simp only [getP] at hg
          split at hg
          · exact ⟨_, by assumption, hg⟩
          · cases hg
      obtain ⟨u, hu, hgu⟩ := hgx hg
      obtain ⟨AA, hAA⟩ := repS_comp ts m 0 x cs A hrs hn
      obtain ⟨g0, g1, g2, g3, g4⟩ := hAA i u hu
      simp only [loc, g0] at hl
      obtain ⟨k1, k2⟩ := loc_room hR hlim hcap p u.t u.m u.x _ _ _ _ g1 g3 hgu hl
      refine ⟨g2 _ k1, fun q v2 hq => ?_⟩
      cases q with
      | nil => simp only [loc]
      | cons s' q =>
        rcases getP_cases hq with ⟨ts', j, rfl, e1⟩ | ⟨n, t1, k, rfl, e1⟩ | ⟨t1, m1, k, rfl, e1, e2⟩ | ⟨t1, m1, rfl, e1, _⟩
        · obtain ⟨u', hu', hgu'⟩ := hgx hq
          obtain ⟨f0, f1, f2, f3, f4⟩ := hAA j u' hu'
          simp only [loc, f0]
          by_cases e : j = i
          · subst e
            rw [hu] at hu'
            obtain rfl := Option.some.inj hu'
            exact k2 q v2 hgu'
          · exact loc_frame q u'.t u'.m u'.x _ _ _ v2 f1 (fun b hb => hR.other b fun e2 => g4 j u' hu' e b0 k1 (e2 ▸ hb)) hgu'
        · cases e1
        · cases e1
        · cases e1
    · -- an array
      have hm : ∃ m1, RepL (Rep w F t1 m1) x cs A ∧ List.length x = n ∧ ∀ {k : Int} {p : List Stp} {v : TV}, getP real0 (.arr n t1) m x (.i k :: p) = some v → getP real0 t1 m1 (real0.get t1 x k) p = some v := by
        cases m <;> simp [getP] at hg <;> simp only [Rep] at hr
        · exact ⟨_, hr.2, hr.1, fun h => by simpa [getP] using h⟩
        · exact ⟨_, hr.2, hr.1, fun h => by simpa [getP] using h⟩
      obtain ⟨m1, hrl, hnx, hgx⟩ := hm
      obtain ⟨AA, hAA⟩ := repL_comp (fun x c A h => rep_length t1 _ x c A h) _ _ _ hrl hn
      simp only [loc] at hl
      split at hl
      case isFalse => cases hl
      rename_i hk
      have hi : k.toNat < List.length x := by omega
      obtain ⟨g1, g2, g3, g4⟩ := hAA k.toNat hi
      obtain ⟨k1, k2⟩ := loc_room hR hlim hcap p t1 m1 _ _ _ _ _ g1 g3 (by simpa [real0, List.getD_eq_getElem?_getD, List.getElem?_eq_getElem hi] using hgx hg) hl
      refine ⟨g2 _ k1, fun q v2 hq => ?_⟩
      cases q with
      | nil => simp only [loc]
      | cons s' q =>
        rcases getP_cases hq with ⟨ts', j, rfl, e1⟩ | ⟨n', t2, k', rfl, e1⟩ | ⟨t2, m2, k', rfl, e1, e2⟩ | ⟨t2, m2, rfl, e1, _⟩
        · cases e1
        · have hq' := hgx hq
          simp only [loc]
          by_cases hk' : 0 ≤ k' ∧ k' < (n : Int)
          · rw [if_pos hk', if_pos hk']
            have hi' : k'.toNat < List.length x := by omega
            have hq2 : getP real0 t1 m1 ((show List t1.den from x)[k'.toNat]'hi') q = some v2 := by simpa [real0, List.getD_eq_getElem?_getD, List.getElem?_eq_getElem hi'] using hq'
            by_cases e : k'.toNat = k.toNat
            · have e' : k' = k := by omega
              subst e'
              exact k2 q v2 hq2
            · obtain ⟨f1, f2, f3, f4⟩ := hAA k'.toNat hi'
              exact loc_frame q t1 m1 _ _ _ _ v2 f1 (fun b hb => hR.other b fun e2 => g4 _ hi' e b0 k1 (e2 ▸ hb)) hq2
          · rw [if_neg hk', if_neg hk']
        · cases e1
        · cases e1
    · -- a list
      simp only [Rep] at hr
      obtain ⟨h0, a, cap1, rfl, hd⟩ := hr
      simp only [loc] at hl
      split at hl
      case h_2 => cases hl
      rename_i b1 o1 len cap' heq
      simp only [List.cons.injEq, Value.slice.injEq, and_true] at heq
      obtain ⟨rfl, rfl, rfl⟩ := heq
      split at hl
      case isFalse => cases hl
      rename_i hk
      rcases hd with ⟨rfl, _⟩ | ⟨b, off, c, e, fr, A', hba, rfl, hb, hfree, hcp, hsz, hrl⟩
      · simp at hk; omega
      simp only [Option.some.injEq, Addr.mk.injEq, and_true] at hba
      obtain ⟨rfl, rfl⟩ := hba
      obtain ⟨hb1, hn'⟩ := List.nodup_cons.1 hn
      have hi : k.toNat < List.length x := by omega
      obtain ⟨AA, hAA⟩ := repL_comp (fun x c A h => rep_length t1 _ x c A h) _ _ _ hrl hn'
      have hcell : ∀ k : Int, 0 ≤ k ∧ k < ((List.length x : Nat) : Int) → rdCells w b1 (o1 + k.toNat * t1.size) t1.size = (((c.toList.drop o1).take (List.length x * t1.size)).drop (k.toNat * t1.size)).take t1.size := by
        intro k hk
        have hm : (k.toNat + 1) * t1.size ≤ List.length x * t1.size := Nat.mul_le_mul_right _ (by omega)
        rw [Nat.succ_mul] at hm
        rw [rdCells_of hb, List.drop_take, List.drop_drop, List.take_take, Nat.min_eq_left (by omega)]
      obtain ⟨g1, g2, g3, g4⟩ := hAA k.toNat hi
      rw [hcell k hk] at hl
      obtain ⟨k1, k2⟩ := loc_room hR hlim hcap p t1 m1 _ _ _ _ _ g1 g3 (by simpa [getP, real0, List.getD_eq_getElem?_getD, List.getElem?_eq_getElem hi] using hg) hl
      have hne : b1 ≠ b0 := fun e => hb1 (e ▸ g2 _ k1)
      refine ⟨by simp [g2 _ k1], fun q v2 hq => ?_⟩
      cases q with
      | nil => simp only [loc]
      | cons s' q =>
        rcases getP_cases hq with ⟨ts', j, rfl, e1⟩ | ⟨n', t2, k', rfl, e1⟩ | ⟨t2, m2, k', rfl, e1, e2⟩ | ⟨t2, m2, rfl, e1, _⟩
        · cases e1
        · cases e1
        · simp only [loc]
          by_cases hk' : 0 ≤ k' ∧ k' < ((List.length x : Nat) : Int)
          · rw [if_pos hk', if_pos hk', rd_room hR (.inl hne), hcell k' hk']
            have hi' : k'.toNat < List.length x := by omega
            have hq2 : getP real0 t1 m1 ((show List t1.den from x)[k'.toNat]'hi') q = some v2 := by simpa [getP, real0, List.getD_eq_getElem?_getD, List.getElem?_eq_getElem hi'] using hq
            by_cases e : k'.toNat = k.toNat
            · have e' : k' = k := by omega
              subst e'
              exact k2 q v2 hq2
            · obtain ⟨f1, f2, f3, f4⟩ := hAA k'.toNat hi'
              exact loc_frame q t1 m1 _ _ _ _ v2 f1 (fun b hb => hR.other b fun e2 => g4 _ hi' e b0 k1 (e2 ▸ hb)) hq2
          · rw [if_neg hk', if_neg hk']
        · cases e1
    · -- a variable
      simp only [Rep] at hr
      obtain ⟨b1, c, e, fr, A', rfl, rfl, hb, hfree, hx⟩ := hr
      obtain ⟨hb1, hn'⟩ := List.nodup_cons.1 hn
      simp only [loc] at hl
      have hcl : c.toList.length = t1.size := rep_length _ _ _ _ _ hx
      have hcell : rdCells w b1 0 t1.size = c.toList := by
        rw [rdCells_of hb, List.drop_zero, List.take_of_length_le (by omega)]
      rw [hcell] at hl
      simp only [getP] at hg
      obtain ⟨k1, k2⟩ := loc_room hR hlim hcap p t1 m1 x _ _ _ _ hx hn' hg hl
      have hne : b1 ≠ b0 := fun e => hb1 (e ▸ k1)
      refine ⟨by simp [k1], fun q v2 hq => ?_⟩
      cases q with
      | nil => simp only [loc]
      | cons s' q =>
        rcases getP_cases hq with ⟨ts', j, rfl, e1⟩ | ⟨n', t2, k', rfl, e1⟩ | ⟨t2, m2, k', rfl, e1, e2⟩ | ⟨t2, m2, rfl, e1, _⟩
        · cases e1
        · cases e1
        · cases e1
        · simp only [loc]
          rw [rd_room hR (.inl hne), hcell]
          exact k2 q v2 (by simpa [getP] using hq)

/-! ### What is put where it was -/
theorem setF_x {g : (t : PT) → Md → t.den → Option (Md × t.den)} : ∀ (ts : List PT) (m : Md) (i0 : Nat) (x : PT.denL ts) (i : Nat) (u : TV) (ms : List Md) (z : PT.denL ts), fldP ts m i0 x i = some u → (∀ m' y, g u.t u.m u.x = some (m', y) → y = u.x) → setF g ts m i0 x i = some (ms, z) → z = x
  | [], _, _, _, _, _, _, _, h, _, _ => by simp [fldP] at h
  | t :: ts, m, i0, x, 0, u, ms, z, h, hg, hs => by
    simp only [fldP, Option.some.injEq] at h
    subst h
    simp only [setF] at hs
    split at hs
    case h_2 => cases hs
    rename_i m' y hy
    simp only [Option.some.injEq, Prod.mk.injEq] at hs
    obtain ⟨_, rfl⟩ := hs
    obtain rfl := hg m' y hy
    rfl
  | t :: ts, m, i0, x, i + 1, u, ms, z, h, hg, hs => by
    simp only [fldP] at h
    simp only [setF] at hs
    split at hs
    case h_2 => cases hs
    rename_i ms' z' hz
    simp only [Option.some.injEq, Prod.mk.injEq] at hs
    obtain ⟨_, rfl⟩ := hs
    obtain rfl := setF_x ts m (i0 + 1) x.2 i u ms' z' h hg hz
    rfl
theorem set_get_self {α : Type} (l : List α) (i : Nat) (d : α) : l.set i (l.getD i d) = l := by
  apply List.ext_getElem?
  intro j
  rw [List.getElem?_set]
  by_cases e : i = j
  · subst e
    by_cases h : i < l.length
    · simp [h, List.getD_eq_getElem?_getD]
    · simp [h]
  · rw [if_neg e]
theorem setP_x : ∀ (p : List Stp) (t : PT) (m : Md) (x : t.den) (v : TV) (mN : Md) (xN : t.den), getP real0 t m x p = some v → setP real0 v p t m x = some (mN, xN) → xN = x
  | [], t, m, x, v, mN, xN, hg, hs => by
    simp only [getP, Option.some.injEq] at hg
    subst hg
    simp only [setP] at hs
    split at hs
    case h_2 => cases hs
    rename_i y hy
    obtain ⟨_, rfl⟩ := castT_some hy
    simp only [Option.some.injEq, Prod.mk.injEq] at hs
    exact hs.2.symm
  | s :: p, t, m, x, v, mN, xN, hg, hs => by
    rcases getP_cases hg with ⟨ts, i, rfl, rfl⟩ | ⟨n, t1, k, rfl, rfl⟩ | ⟨t1, m1, k, rfl, rfl, rfl⟩ | ⟨t1, m1, rfl, rfl, rfl⟩
    · have hm : m = .n ∨ ∃ ms, m = .s ms := by cases m <;> simp_all [getP]
      rcases hm with rfl | ⟨ms, rfl⟩
      all_goals
        simp only [getP] at hg
        split at hg
        case h_2 => cases hg
        rename_i u hu
        simp only [setP] at hs
        split at hs
        case h_2 => cases hs
        rename_i ms' y hy
        simp only [Option.some.injEq, Prod.mk.injEq] at hs
        obtain ⟨_, rfl⟩ := hs
        exact setF_x ts _ 0 x i u ms' _ hu (fun m' y h => setP_x p u.t u.m u.x v m' y hg h) hy
    · cases m <;> simp only [getP] at hg <;> try (cases hg; done)
      all_goals
        simp only [setP] at hs
        split at hs
        case h_2 => cases hs
        rename_i m' y hy
        split at hs
        case isFalse => cases hs
        simp only [Option.some.injEq, Prod.mk.injEq] at hs
        obtain ⟨_, rfl⟩ := hs
        rw [setP_x p _ _ _ v m' y hg hy]
        exact set_get_self _ _ _
    · simp only [getP] at hg
      simp only [setP] at hs
      split at hs
      case h_2 => cases hs
      rename_i m' y hy
      split at hs
      case isFalse => cases hs
      simp only [Option.some.injEq, Prod.mk.injEq] at hs
      obtain ⟨_, rfl⟩ := hs
      rw [setP_x p _ _ _ v m' y hg hy]
      exact set_get_self _ _ _
    · simp only [getP] at hg
      simp only [setP] at hs
      split at hs
      case h_2 => cases hs
      rename_i m' y hy
      have hs := Option.some.inj hs
      injection hs with e1 e2
      rw [← e2]
      exact setP_x p _ _ _ v m' _ hg hy

theorem loc_some {w : World} : ∀ (p : List Stp) (t : PT) (bo : Nat × Nat) (cs : List Value) (cur' : Option (Nat × Nat)) (cs' : List Value), loc w t (some bo) cs p = some (cur', cs') → ∃ b off, cur' = some (b, off)
  | [], t, bo, cs, cur', cs', h => by
    simp only [loc, Option.some.injEq, Prod.mk.injEq] at h
    exact ⟨bo.1, bo.2, h.1.symm⟩
  | s :: p, t, bo, cs, cur', cs', h => by
    cases t <;> cases s <;> simp only [loc] at h <;> try (cases h; done)
    all_goals
      split at h
      · first
          | exact loc_some p _ _ _ _ _ h
          | (split at h
             · exact loc_some p _ _ _ _ _ h
             · cases h)
      · cases h
theorem loc_d {w : World} {p : List Stp} {t : PT} {cur : Option (Nat × Nat)} {cs : List Value} {cur' : Option (Nat × Nat)} {cs' : List Value} (h : loc w t cur cs (.d :: p) = some (cur', cs')) : ∃ b off, cur' = some (b, off) := by
  cases t <;> simp only [loc] at h <;> try (cases h; done)
  split at h
  · exact loc_some p _ _ _ _ _ h
  · cases h
end Go.Proofs.Ytaachifkgcdeoaa.Sy

namespace Go.Proofs.Ytaachifkgcdeoaa.Sy
open Go.RowKit
set_option linter.unusedSimpArgs false
set_option linter.unusedVariables false

def Slot.isApp : Slot → Bool
  | .app .. => true
  | .cnd _ s => s.isApp
  | _ => false

theorem repSlot_room {w w' : World} {F : Nat → Prop} {look look' : Nat → Slot} {vs vs' : Nat → Value} (hF : ∀ b, F b → w'.heap[b]? = w.heap[b]?) :
    ∀ (s : Slot) (u : Value) (A : List Nat), s.isApp = false → (∀ b ∈ A, w'.heap[b]? = w.heap[b]?) →
    (∀ k ∈ s.deps, vs' k = vs k ∧ (∀ p v cur cs', Rooted w look vs k p v cur cs' → Rooted w' look' vs' k p v cur cs') ∧ (∀ p b off, RootedF w look vs k p b off → RootedF w' look' vs' k p b off)) →
    RepSlot w F look vs s u A → RepSlot w' F look' vs' s u A
  | .dead, u, A, hi, hA, hR, h => h
  | .val t m x, u, A, hi, hA, hR, h => by
    obtain ⟨cs, h1, h2⟩ := h
    exact ⟨cs, rep_frame (fun b hb => hb) hF t m x cs A hA h1, h2⟩
  | .pv t x, u, A, hi, hA, hR, h => by
    obtain ⟨h1, b, off, c, e, fr, h2, h3, h4, h5, h6⟩ := h
    exact ⟨h1, b, off, c, e, fr, h2, h3, (hF b h3).trans h4, h5, rep_frame (fun b hb => hb) hF t .n x _ [] (fun b hb => absurd hb (by simp)) h6⟩
  | .ref k p, u, A, hi, hA, hR, h => by
    obtain ⟨h1, b, off, h2, h3⟩ := h
    refine ⟨h1, b, off, h2, h3.imp ((hR k (by simp [Slot.deps])).2.2 p b off) ?_⟩
    rintro ⟨v, cs', h⟩
    exact ⟨v, cs', (hR k (by simp [Slot.deps])).2.1 p v _ cs' h⟩
  | .bor k p, u, A, hi, hA, hR, h => by
    obtain ⟨h1, v, cur, cs', h2, h3⟩ := h
    exact ⟨h1, v, cur, cs', (hR k (by simp [Slot.deps])).2.1 p v _ cs' h2, h3⟩
  | .win k p lo hi', u, A, hi, hA, hR, h => by
    obtain ⟨h1, te, me, xs, cur, a, cap, h2, h3⟩ := h
    exact ⟨h1, te, me, xs, cur, a, cap, (hR k (by simp [Slot.deps])).2.1 p _ _ _ h2, h3⟩
  | .app k p te ys, u, A, hi, hA, hR, h => by simp [Slot.isApp] at hi
  | .tup ts, u, A, hi, hA, hR, h => by
    obtain ⟨us, h1, h2⟩ := h
    refine ⟨us, h1, repL_mono _ _ _ (fun o cs A' hb hr => ?_) h2⟩
    cases o with
    | none => exact hr
    | some v =>
      obtain ⟨h3, cs', h4, h5⟩ := hr
      exact ⟨h3, cs', rep_frame (fun b hb => hb) hF _ _ _ cs' A' (fun b hb' => hA b (hb b hb')) h4, h5⟩
  | .clo f cs, u, A, hi, hA, hR, h => by
    obtain ⟨h1, us, h2, h3⟩ := h
    exact ⟨h1, us, h2, repCaps_mono hF cs _ (fun k hk => ⟨(hR k (by simpa [Slot.deps] using hk)).2.1, (hR k (by simpa [Slot.deps] using hk)).2.2⟩) h3⟩
  | .mp kt vt m, u, A, hi, hA, hR, h => by
    obtain ⟨r, es, clk, h1, rfl, h3, h4⟩ := h
    exact ⟨r, es, clk, h1, rfl, (hA r (by simp)).trans h3, h4⟩
  | .mal k, u, A, hi, hA, hR, h => ⟨h.1, h.2.trans (hR k (by simp [Slot.deps])).1.symm⟩
  | .pm t m x, u, A, hi, hA, hR, h => by
    obtain ⟨h1, b, off, c, e, fr, h2, h3, h4, h5, h6⟩ := h
    exact ⟨h1, b, off, c, e, fr, h2, h3, (hF b h3).trans h4, h5, rep_frame (fun b hb => hb) hF t m x _ [] (fun b hb => absurd hb (by simp)) h6⟩
  | .cnd gl s, u, A, hi, hA, hR, h => by
    simp only [RepSlot] at h ⊢
    have hg : holdsG vs' gl ↔ holdsG vs gl := by
      refine forall_congr' fun g => ?_
      constructor
      · intro hh hm; rw [← (hR g.1 (by simp only [Slot.deps, List.mem_append]; exact .inl (List.mem_map_of_mem hm))).1]; exact hh hm
      · intro hh hm; rw [(hR g.1 (by simp only [Slot.deps, List.mem_append]; exact .inl (List.mem_map_of_mem hm))).1]; exact hh hm
    rw [hg]
    exact ⟨fun hc => repSlot_room hF s u A (by simpa [Slot.isApp] using hi) hA (fun k hk => hR k (by simp only [Slot.deps, List.mem_append]; exact .inr hk)) (h.1 hc), h.2⟩

theorem room_state {E : Env} {σ : List Slot} {a : Act} {w w' : World} {fl : List Nat} (h : RepSt E σ a w fl) {k : Nat} {p : List Stp} {te : PT} {me : Md} {xs : List te.den} {b off b0 o0 cap : Nat}
    (hr : Rooted w (lk σ) (vl a) k p ⟨.list te, .l me, xs⟩ (some (b, off)) [.slice (some ⟨b0, o0, none⟩) xs.length cap]) (hcap : 0 < cap) {tk : PT} {mk : Md} {xk : tk.den} (hkv : lk σ k = .val tk mk xk) {xN : tk.den}
    (hs : setP real0 ⟨.list te, .l me, xs⟩ p tk mk xk = some (mk, xN)) (hroom : Room w w' b0 (o0 + xs.length * te.size)) (hsz : w'.heap.size = w.heap.size) (hos : w'.os = w.os ∧ w'.tape = w.tape ∧ w'.output = w.output)
    (hna : ∀ j, k ∈ (lk σ j).deps → (lk σ j).isApp = false) :
    RepSt E σ a w' fl ∧ b0 ∉ fl ∧ ¬ E.F b0 ∧ Rooted w' (lk σ) (vl a) k p ⟨.list te, .l me, xs⟩ (some (b, off)) [.slice (some ⟨b0, o0, none⟩) xs.length cap] := by
  obtain ⟨h1, h2, h3, ow, how, hflN, hflo, hsl⟩ := h
  obtain ⟨Ak, hAk1, hAk2, hAk3⟩ := hsl k
  obtain ⟨t0, m0, x0, cs, e1, e2, hrep, hg, hl⟩ := rooted_rep (look := lk σ) (vs := vl a) hAk3 hr
  rw [hkv] at e1
  simp only [Slot.val.injEq] at e1
  obtain ⟨rfl, rfl, hx⟩ := e1
  obtain rfl := eq_of_heq hx
  obtain ⟨Actx, Af, hp, hv', hlv, hrest⟩ := path_law w E.F p tk mk xk cs none Ak _ (some (b, off)) _ hrep hAk1 (laid_none _ _ _ _) hg hl
  obtain ⟨hwh, hleave⟩ := hrest b off rfl
  obtain ⟨hb0A, hq⟩ := loc_room hroom (Nat.le_refl _) hcap p tk mk xk cs none _ Ak hrep hAk1 hg hl
  have hb0 := how b0 k (hAk2 b0 hb0A)
  have hF : ∀ c, E.F c → w'.heap[c]? = w.heap[c]? := fun c hc => hroom.other c (fun e => hb0.1 (e ▸ hc))
  have hoth : ∀ j, j ≠ k → ∀ c, ow c = some j → w'.heap[c]? = w.heap[c]? := fun j hj c hc => hroom.other c (fun e => by
    subst e
    rw [hAk2 c hb0A] at hc
    exact hj (Option.some.inj hc).symm)
  have hfln : b0 ∉ fl := fun hm => by
    have := hAk2 b0 hb0A
    rw [(hflo b0 hm).1] at this
    cases this
  have hbA : b ∈ Ak := by
    rcases hwh with hwh | ⟨o, ho, _⟩
    · exact hp.mem_iff.2 (by simp [hwh])
    · cases ho
  have hbB := how b k (hAk2 b hbA)
  -- the list itself
  have hn := hp.nodup_iff.1 hAk1
  obtain ⟨_, hAfn, _⟩ := List.nodup_append.1 hn
  obtain ⟨hbAf, cb, eb, frb, hcb, hfrb, hszb, hcsb⟩ := hlv b off rfl
  have hAf' : b0 ∈ Af ∧ Rep w' E.F (.list te) (.l me) xs [.slice (some ⟨b0, o0, none⟩) xs.length cap] Af := by
    simp only [Rep] at hv'
    obtain ⟨h0, a0, cap0, e3, hd⟩ := hv'
    simp only [List.cons.injEq, Value.slice.injEq, true_and, and_true] at e3
    obtain ⟨rfl, rfl⟩ := e3
    rcases hd with ⟨_, hc0, _⟩ | ⟨b1, o1, c, e, fr, A', hba, rfl, hb, hfree, hcp, hszc, hrl⟩
    · omega
    simp only [Option.some.injEq, Addr.mk.injEq, and_true] at hba
    obtain ⟨rfl, rfl⟩ := hba
    obtain ⟨hb1, _⟩ := List.nodup_cons.1 hAfn
    obtain ⟨c0, c1, e0, fr0, g1, g2, g3, g4⟩ := hroom.here
    rw [hb] at g1
    simp only [Option.some.injEq, Obj.cells.injEq] at g1
    obtain ⟨rfl, rfl, rfl⟩ := g1
    refine ⟨by simp, ?_⟩
    simp only [Rep]
    refine ⟨h0, _, cap, rfl, .inr ⟨b0, o0, c1, e, fr, A', rfl, rfl, g2, free_of hfree g3, hcp, by omega, ?_⟩⟩
    rw [seg_room g4 (Nat.le_refl _)]
    exact repL_mono _ _ _ (fun x c A'' hb' hR => rep_frame (fun b hb => hb) hF te me x c A'' (fun c' hc' => hroom.other c' fun e => hb1 (e ▸ hb' c' hc')) hR) hrl
  have hbne : b ≠ b0 := fun e => hbAf (e ▸ hAf'.1)
  have hwx : WriteX w w' b off [.slice (some ⟨b0, o0, none⟩) xs.length cap] [b0] := by
    refine ⟨⟨cb, cb, eb, frb, hcb, (hroom.other b hbne).trans hcb, by simpa [PT.size] using hszb, ?_⟩, fun c _ hc => hroom.other c (by simpa using hc)⟩
    rw [hcsb]
    have hl1 : ((cb.toList.drop off).take (PT.list te).size).length = (PT.list te).size := by
      have hszb' : off + (PT.list te).size ≤ cb.size := hszb
      rw [List.length_take, List.length_drop]
      simp only [Array.length_toList]
      omega
    rw [hl1, ← List.drop_drop, List.take_append_drop, List.take_append_drop]
  obtain ⟨csN, AN, hpN, hrN, hN1, hN2⟩ := hleave.1 w' E.F ⟨.list te, .l me, xs⟩ _ Af mk xN [b0] rfl hs hAf'.2 (fun _ h => h) (fun hb => hbB.1 hb) (fun c hc => by
    simp only [List.mem_singleton] at hc
    subst hc
    exact ⟨hAf'.1, hb0.1⟩) hwx
  have hN2 := hN2 rfl
  subst hN2
  obtain rfl := setP_x p tk mk xk _ mk xN hg hs
  have hlook : ∀ q v2 cur cs', Rooted w (lk σ) (vl a) k q v2 cur cs' → Rooted w' (lk σ) (vl a) k q v2 cur cs' := by
    rintro q v2 cur cs' ⟨t, m, x, cs0, f1, f2, f3, f4, f5, f6⟩
    refine ⟨t, m, x, cs0, f1, f2, f3, f4, f5, ?_⟩
    rw [hkv] at f1
    simp only [Slot.val.injEq] at f1
    obtain ⟨rfl, rfl, f1⟩ := f1
    obtain rfl := eq_of_heq f1
    obtain rfl := wrapV_inj (rep_length _ _ _ _ _ hrep) f4 (e2.symm.trans f3)
    rw [hq q v2 f5]
    exact f6
  refine ⟨⟨h1, h2, h3.trans ⟨hos.1, hos.2.1, hos.2.2, by omega, hF⟩, ow, fun c j hj => ⟨(how c j hj).1, by rw [hsz]; exact (how c j hj).2⟩, hflN, fun c hc => ⟨(hflo c hc).1, (hflo c hc).2.1, by rw [hsz]; exact (hflo c hc).2.2⟩, fun j => ?_⟩, hfln, hb0.1, hlook p _ _ _ hr⟩
  have hothers : ∀ r, r ≠ k → (∀ p v' cur cs', Rooted w (lk σ) (vl a) r p v' cur cs' → Rooted w' (lk σ) (vl a) r p v' cur cs' ∧ Holds w w' v' cs') := by
    intro r hr
    obtain ⟨C, hC1, hC2, hC3⟩ := hsl r
    exact fun p v' cur cs' hr' => rooted_keep (look := lk σ) (vs := vl a) hC1 hC3 (fun c hc => hoth r hr c (hC2 c hc)) (fun _ _ _ _ => rfl) rfl hr'
  have hFk : ∀ r p b off, RootedF w (lk σ) (vl a) r p b off → RootedF w' (lk σ) (vl a) r p b off := fun r p b off hr' => rootedF_keep (fun t m x e => ⟨m, x, e, fun m1 e => ⟨m1, e⟩⟩) rfl hr'
  by_cases hj : j = k
  · subst hj
    refine ⟨AN, (hpN.nodup_iff.2 hn), fun c hc => hAk2 c (hp.mem_iff.2 (hpN.mem_iff.1 hc)), ?_⟩
    show RepSlot w' E.F (lk σ) (vl a) (lk σ j) (vl a j) AN
    rw [hkv]
    exact ⟨csN, hrN, e2⟩
  · obtain ⟨B, hB1, hB2, hB3⟩ := hsl j
    refine ⟨B, hB1, hB2, ?_⟩
    by_cases hd : k ∈ (lk σ j).deps
    · refine repSlot_room hF _ _ B (hna j hd) (fun c hc => hoth j hj c (hB2 c hc)) (fun r hr' => ⟨rfl, fun p v' cur cs' hh => ?_, hFk r⟩) hB3
      by_cases hrk : r = k
      · subst hrk; exact hlook p v' cur cs' hh
      · exact (hothers r hrk p v' cur cs' hh).1
    · exact repSlot_mono hF _ _ B (fun c hc => hoth j hj c (hB2 c hc)) (fun r hr' => ⟨rfl, hothers r (fun e => hd (e ▸ hr')), hFk r⟩) hB3

/-- **A STORE** into slot k's own memory of what takes over the blocks that lay there, or free ones. -/
theorem write_stateX {E : Env} {σ : List Slot} {a : Act} {w w' : World} {fl : List Nat} (h : RepSt E σ a w fl) {k : Nat} (hk : k < σ.length) {p : List Stp} {v : TV} {b off : Nat} {cs' : List Value}
    (hr : Rooted w (lk σ) (vl a) k p v (some (b, off)) cs') {t : PT} {m : Md} {x : t.den} (hkv : lk σ k = .val t m x) {nv : TV} (ht : nv.t = v.t) {mN : Md} {xN : t.den}
    (hs : setP real0 nv p t m x = some (mN, xN)) {ds : List Value} (hw : WriteAt w w' b off ds) (hsz : w'.heap.size = w.heap.size) (hos : w'.os = w.os ∧ w'.tape = w.tape ∧ w'.output = w.output)
    (hcont : ∀ Af, Af.Nodup → (∀ c ∈ Af, c ∉ fl ∧ c ≠ b) → (∀ c, E.F c ∨ c ∈ fl ∨ c ∈ Af → w'.heap[c]? = w.heap[c]?) → Rep w E.F v.t v.m v.x cs' Af → ∃ An, Rep w' E.F nv.t nv.m nv.x ds An ∧ An.Nodup ∧ ∀ c ∈ An, c ∈ fl ∨ c ∈ Af) : RepState E (setV σ k p (.val t mN xN)) a w' := by
  obtain ⟨h1, h2, h3, ow, how, hflN, hflo, hsl⟩ := h
  obtain ⟨Ak, hAk1, hAk2, hAk3⟩ := hsl k
  obtain ⟨t0, m0, x0, cs, e1, e2, hrep, hg, hl⟩ := rooted_rep (look := lk σ) (vs := vl a) hAk3 hr
  have e1' := e1
  rw [hkv] at e1'
  simp only [Slot.val.injEq] at e1'
  obtain ⟨rfl, rfl, hx⟩ := e1'
  obtain rfl := eq_of_heq hx
  obtain ⟨Actx, Af, hp, hv', hlv, hrest⟩ := path_law w E.F p t m x cs none Ak v (some (b, off)) cs' hrep hAk1 (laid_none _ _ _ _) hg hl
  obtain ⟨hwh, hleave⟩ := hrest b off rfl
  have hbA : b ∈ Ak := by
    rcases hwh with hwh | ⟨o, ho, _⟩
    · exact hp.mem_iff.2 (by simp [hwh])
    · cases ho
  have hbB := how b k (hAk2 b hbA)
  have hF : ∀ c, E.F c → w'.heap[c]? = w.heap[c]? := fun c hc => hw.2 c (fun e => by subst e; exact absurd hc hbB.1)
  have hn := hp.nodup_iff.1 hAk1
  obtain ⟨hn1, hn2, hn3⟩ := List.nodup_append.1 hn
  have hbAf := (hlv b off rfl).1
  have hAfl : ∀ c ∈ Af, ow c = some k := fun c hc => hAk2 c (hp.mem_iff.2 (by simp [hc]))
  have hflb : ∀ c ∈ fl, c ≠ b := fun c hc e => by
    have := hAk2 b hbA
    rw [← e, (hflo c hc).1] at this
    cases this
  have hAffl : ∀ c ∈ Af, c ∉ fl := fun c hc hm => by
    have := hAfl c hc
    rw [(hflo c hm).1] at this
    cases this
  have hsame : ∀ c, E.F c ∨ c ∈ fl ∨ c ∈ Af → w'.heap[c]? = w.heap[c]? := fun c hc => by
    rcases hc with hc | hc | hc
    · exact hF c hc
    · exact hw.2 c (hflb c hc)
    · exact hw.2 c (fun e => hbAf (e ▸ hc))
  obtain ⟨An, hrn, hAn, hAf⟩ := hcont Af hn2 (fun c hc => ⟨hAffl c hc, fun e => hbAf (e ▸ hc)⟩) hsame hv'
  obtain ⟨csN, AN, hpN, hrN, hN1, hN2⟩ := hleave.1 w' E.F nv ds An mN xN [] ht hs hrn (fun b hb => hb) (fun hb => absurd hb hbB.1) (fun b hb => by simp at hb) hw.x
  have hN2 := hN2 rfl
  subst hN2
  have hANn : AN.Nodup := by
    rw [hpN.nodup_iff, List.nodup_append]
    refine ⟨hn1, hAn, fun c hc d hd e => ?_⟩
    subst e
    have h8 := hAk2 c (hp.mem_iff.2 (by simp [hc]))
    rcases hAf c hd with h9 | h9
    · rw [(hflo c h9).1] at h8; cases h8
    · exact hn3 c hc c h9 rfl
  have hANo : ∀ c ∈ AN, ow c = some k ∨ c ∈ fl := by
    intro c hc
    have := hpN.mem_iff.1 hc
    rcases List.mem_append.1 this with h | h
    · exact .inl (hAk2 c (hp.mem_iff.2 (by simp [h])))
    · rcases hAf c h with h | h
      · exact .inr h
      · exact .inl (hAfl c h)
  have hother : ∀ j, j ≠ k → ∀ c, ow c = some j → w'.heap[c]? = w.heap[c]? := fun j hj c hc => hw.2 c (fun e => by
    subst e
    rw [hAk2 c hbA] at hc
    exact hj (by simpa using hc.symm))
  have hb' : Kept E.F E.w0 w' := h3.trans ⟨hos.1, hos.2.1, hos.2.2, by omega, fun i hi => hF i hi⟩
  have hk2 : k < σ.length := hk
  refine ⟨h1, by simp [setV, h2], hb', fun c => if c ∈ AN then some k else if ow c = some k then none else ow c, fun c j hj => ?_, List.nodup_nil, fun c hc => by simp at hc, fun j => ?_⟩
  · dsimp only at hj
    rw [hsz]
    split at hj
    · rename_i hm
      rcases hANo c hm with h | h
      · exact how c k h
      · exact (hflo c h).2
    · split at hj
      · cases hj
      · exact how c j hj
  · by_cases hj : j = k
    · subst hj
      refine ⟨AN, hANn, fun c hc => by simp [hc], ?_⟩
      rw [setV_get _ _ _ _ _ hk, if_pos rfl]
      exact ⟨csN, hrN, e2⟩
    · obtain ⟨B, hB1, hB2, hB3⟩ := hsl j
      rw [setV_get _ _ _ _ _ hk, if_neg hj]
      rcases killV_cases k p (σ.getD j .dead) with e | ⟨e, hroot⟩
      · exact ⟨[], List.nodup_nil, fun b hb => by simp at hb, by rw [e]; rfl⟩
      · rw [e]
        have hlook : ∀ r, r ≠ k → ∀ t' m' x', σ.getD r .dead = .val t' m' x' → (setV σ k p (.val t mN xN)).getD r .dead = σ.getD r .dead := by
          intro r hr t' m' x' e
          rw [setV_get _ _ _ _ _ hk, if_neg hr, e]
          rfl
        refine ⟨B, hB1, fun c hc => ?_, ?_⟩
        · have h8 := hB2 c hc
          dsimp only
          rw [if_neg (fun hm => by
            rcases hANo c hm with h | h
            · rw [h8] at h; exact hj (by simpa using h)
            · rw [(hflo c h).1] at h8; cases h8), h8, if_neg (by simpa using hj)]
        · have hothers : ∀ r, r ≠ k → (∀ pr v' cur cs', Rooted w (fun k => σ.getD k .dead) (fun k => a.tmps.getD k undef) r pr v' cur cs' → Rooted w' (fun j => (setV σ k p (.val t mN xN)).getD j .dead) (fun k => a.tmps.getD k undef) r pr v' cur cs' ∧ Holds w w' v' cs') ∧
              (∀ pr b off, RootedF w (fun k => σ.getD k .dead) (fun k => a.tmps.getD k undef) r pr b off → RootedF w' (fun j => (setV σ k p (.val t mN xN)).getD j .dead) (fun k => a.tmps.getD k undef) r pr b off) := by
            intro r hr
            obtain ⟨C, hC1, hC2, hC3⟩ := hsl r
            exact ⟨fun p v' cur cs' hr' => rooted_keep hC1 hC3 (fun c hc => hother r hr c (hC2 c hc)) (fun t m x e => hlook r hr t m x e) rfl hr', fun p b off hr' => rootedF_keep (fun t m x e => ⟨m, x, (hlook r hr t m x e).trans e, fun m1 e => ⟨m1, e⟩⟩) rfl hr'⟩
          rcases hroot with hroot | ⟨q, hq, hfq⟩ | ⟨pp, hat, hdj⟩
          · exact repSlot_mono hF _ _ B (fun c hc => hother j hj c (hB2 c hc)) (fun r hrr => ⟨rfl, hothers r (fun e => hroot (e ▸ hrr))⟩) hB3
          · rw [hq] at hB3 ⊢
            obtain ⟨hBn, b1, off1, hu, h9⟩ := hB3
            have hF9 : RootedF w (fun k => σ.getD k .dead) (fun k => a.tmps.getD k undef) k (.d :: q) b1 off1 := by
              rcases h9 with h9 | ⟨v9, cs9, h9⟩
              · exact h9
              · obtain ⟨b0, h10, rfl⟩ := rooted_flat hfq h9
                exact h10
            refine ⟨hBn, b1, off1, hu, .inl ?_⟩
            refine rootedF_keep (fun t9 m9 x9 e9 => ?_) rfl hF9
            have hkv' : σ.getD k .dead = .val t m x := hkv
            rw [hkv'] at e9
            simp only [Slot.val.injEq] at e9
            obtain ⟨rfl, rfl, _⟩ := e9
            refine ⟨mN, xN, by rw [setV_get _ _ _ _ _ hk, if_pos rfl], fun m1 hm1 => ?_⟩
            subst hm1
            cases p with
            | nil =>
              simp only [loc, Option.some.injEq, Prod.mk.injEq] at hl
              cases hl.1
            | cons s p' => exact setP_box hs
          · have hds : ds.length = v.t.size := by
              have := rep_length _ _ _ _ _ hrn
              rw [this, ht]
            have hkd : (fun k => σ.getD k .dead) k = .val t m x := hkv
            have hdis : ∀ {vx : TV} {cur : Option (Nat × Nat)} {csx : List Value}, Rooted w (fun k => σ.getD k .dead) (fun k => a.tmps.getD k undef) k pp vx cur csx → Rooted w' (fun j => (setV σ k p (.val t mN xN)).getD j .dead) (fun k => a.tmps.getD k undef) k pp vx cur csx := fun hrx =>
              rooted_disj (F := E.F) hAk1 hAk3 hdj hkd hr hs (by rw [setV_get _ _ _ _ _ hk, if_pos rfl]) rfl hw hds hrx
            have hfl : ∀ b1 off1, RootedF w (fun k => σ.getD k .dead) (fun k => a.tmps.getD k undef) k pp b1 off1 → RootedF w' (fun j => (setV σ k p (.val t mN xN)).getD j .dead) (fun k => a.tmps.getD k undef) k pp b1 off1 := fun b1 off1 hF9 => by
              refine rootedF_keep (fun t9 m9 x9 e9 => ?_) rfl hF9
              have hkd' : σ.getD k .dead = .val t m x := hkv
              rw [hkd'] at e9
              simp only [Slot.val.injEq] at e9
              obtain ⟨rfl, rfl, _⟩ := e9
              refine ⟨mN, xN, by rw [setV_get _ _ _ _ _ hk, if_pos rfl], fun m1 hm1 => ?_⟩
              subst hm1
              cases p with
              | nil =>
                simp only [loc, Option.some.injEq, Prod.mk.injEq] at hl
                cases hl.1
              | cons s p' => exact setP_box hs
            rcases hat with hq | hq | ⟨lo, hi, hq⟩
            · rw [hq] at hB3 ⊢
              obtain ⟨hBn, b1, off1, hu, h9⟩ := hB3
              exact ⟨hBn, b1, off1, hu, h9.imp (hfl b1 off1) fun ⟨v9, cs9, h9⟩ => ⟨v9, cs9, hdis h9⟩⟩
            · rw [hq] at hB3 ⊢
              obtain ⟨hBn, v9, cur9, cs9, h9, hu⟩ := hB3
              exact ⟨hBn, v9, cur9, cs9, hdis h9, hu⟩
            · rw [hq] at hB3 ⊢
              obtain ⟨hBn, te, me, xs, cur9, a9, cap9, h9, h10⟩ := hB3
              exact ⟨hBn, te, me, xs, cur9, a9, cap9, hdis h9, h10⟩
end Go.Proofs.Ytaachifkgcdeoaa.Sy

namespace Go.Proofs.Ytaachifkgcdeoaa.Sy
open Go.RowKit
set_option linter.unusedSimpArgs false
set_option linter.unusedVariables false

/-- The slot's value goes from k to d. -/
def giveS (σ : List Slot) (k d : Nat) (s : Slot) : Option (List Slot) :=
  if Nat.beq k d then none else match (setS σ k .dead)[d]? with
    | some _ => some (setS (setS σ k .dead) d s)
    | none => none

/-- What a store stores: the value, and the state in which it is stored. -/
def stVal (tab : Tab) (T : TypeId) (σ : List Slot) (o : Operand) : Option (TV × List Slot) :=
  match opdOf tab T o with
  | some (.c v) => some (v, σ)
  | some (.t k) => match lk σ k with
    | .val t m x => if m.owned then some (⟨t, m, x⟩, setS σ k .dead) else if plainT t m then some (⟨t, .n, x⟩, σ) else none
    | _ => none
  | none => none

def aStore (A : Alg) (tab : Tab) (T : TypeId) (σ : List Slot) (x y : Operand) : Option (List Prop × List Slot) :=
  match tyT tab T with
  | some t => match stVal tab T σ y with
    | some (nv, σ1) => match opdOf tab 0 x with
      | some xo => match adrS (lk σ1) xo (opd (lk σ1) [] xo) with
        | .ref k p => match lk σ1 k with
          | .val tk mk xk => match getP A tk mk xk p with
            | some v => if PT.beq v.t t && PT.beq nv.t t then (match setP A nv p tk mk xk with
              | some (mN, xN) => some ([], setV σ1 k p (.val tk mN xN))
              | none => none) else none
            | none => none
          | _ => none
        | _ => none
      | none => none
    | none => none
  | none => none

/-- Append to a list of one's own, which is handed over. -/
def aApp (A : Alg) (tab : Tab) (σ : List Slot) (T T' : TypeId) (x y : Operand) (d : Nat) : Option (List Prop × List Slot) :=
  if Nat.beq T T' then (match tyT tab T with
    | some (.list te) => match opdOf tab T x with
      | some xo => match opdOf tab T y with
        | some yo => match ownL A (lk σ) xo (opd (lk σ) [] xo) with
          | some (k, [], L) => match castT (.list L.te) (.list te) L.xs with
            | some xs => if Md.beq L.m .n && ownT te .n then (match seen A (lk σ) yo (.list te) (opd (lk σ) [] yo) with
              | some ys => match (setS σ k .dead)[d]? with
                | some _ => some ([A.smL (A.pls (A.len te xs) (A.len te ys))], setS (setS σ k .dead) d (.val (.list te) (.l .n) (A.app te xs ys)))
                | none => none
              | none => none) else none
            | none => none
          | _ => none
        | none => none
      | none => none
    | _ => none) else none

/-- A part of several results that owns something, taken out. -/
def takeS (σ : List Slot) (k i d : Nat) : Option (List Slot) :=
  match lk σ k with
  | .tup vs => match vs[i]? with
    | some (some v) => if Nat.beq k d then none else (match σ[d]? with
      | some _ => some (setS (setS (setS σ k .dead) k (.tup (vs.set i none))) d (.val v.t v.m v.x))
      | none => none)
    | _ => none
  | _ => none

def stepX0 (A : Alg) (tab : Tab) (σ : List Slot) (o : Oper) : Option (List Prop × List Slot) :=
  match o.guard with
  | some _ => none
  | none => match o.op with
    | .call ⟨.builtin .append, ⟨[x, y]⟩, ⟨[T, T']⟩⟩ => match o.dst with
      | some d => aApp A tab σ T T' x y d
      | none => none
    | .extract (.tmp k) i => match o.dst with
      | some d => match lk σ k with
        | .tup vs => match vs[i]? with
          | some (some v) => if v.m.owned then (match takeS σ k i d with
            | some σ' => some ([], σ')
            | none => none) else none
          | _ => none
        | _ => none
      | none => none
    | .assign (.tmp k) => match o.dst with
      | some d => match lk σ k with
        | .val t m x => if m.owned then (match giveS σ k d (.val t m x) with
          | some σ' => some ([], σ')
          | none => none) else none
        | _ => none
      | none => none
    | .move (.tmp k) => match o.dst with
      | some d => match lk σ k with
        | .tup vs => match giveS σ k d (.tup vs) with
          | some σ' => some ([], σ')
          | none => none
        | _ => none
      | none => none
    | .store T x y => match o.dst with
      | none => aStore A tab T σ x y
      | some _ => none
    | _ => none

theorem setS_dead {E : Env} {σ : List Slot} {a : Act} {w : World} (h : RepState E σ a w) {d : Nat} (hd : d < σ.length) : RepState E (setS σ d .dead) a w := by
  obtain ⟨Ad, _, _, _, h4⟩ := set_state h (fun b _ => rfl) h.below (Nat.le_refl _) hd (s := .dead) (v := a.tmps.getD d undef) (A := []) List.nodup_nil (fun b hb => by simp at hb) rfl
  have := h4 [] List.nodup_nil (fun b hb => by simp at hb)
  rwa [put_same] at this

theorem give_state {E : Env} {σ : List Slot} {a : Act} {w : World} (h : RepState E σ a w) {k d : Nat} {s : Slot} (hk : lk σ k = s) (hs : (∃ t m x, s = .val t m x) ∨ (∃ vs, s = .tup vs) ∨ ∃ kt vt m, s = .mp kt vt m) {σ' : List Slot} (hg : giveS σ k d s = some σ') : RepState E σ' (a.put (some d) (a.tmps.getD k undef)) w := by
  unfold giveS at hg
  split at hg
  · cases hg
  split at hg
  case h_2 => cases hg
  rename_i hkd _ _ hd
  obtain rfl := Option.some.inj hg
  have hkl : k < σ.length := lk_lt (by rw [hk]; rcases hs with ⟨_, _, _, rfl⟩ | ⟨_, rfl⟩ | ⟨_, _, _, rfl⟩ <;> simp)
  have hd' : d < (setS σ k .dead).length := (List.getElem?_eq_some_iff.1 hd).1
  obtain ⟨Ak, h1, h2, h3, h4⟩ := free_state h hkl
  simp only [List.append_nil] at h2 h4
  rw [show σ.getD k .dead = s from hk] at h1
  obtain ⟨Ad, _, _, _, h5⟩ := set_state h4 (fun b _ => rfl) h4.below (Nat.le_refl _) hd' (s := s) (v := a.tmps.getD k undef) (A := Ak) h2 (fun b hb => .inr hb) (by
    rcases hs with ⟨t, m, x, rfl⟩ | ⟨vs, rfl⟩ | ⟨kt, vt, m, rfl⟩
    · exact h1
    · exact h1
    · exact h1)
  exact h5 [] List.nodup_nil (fun b hb => by simp at hb)

theorem stVal_ok {E : Env} {tab : Tab} {T : TypeId} {σ : List Slot} {a : Act} {w : World} (h : RepState E σ a w) {o : Operand} {nv : TV} {σ1 : List Slot} (hv : stVal tab T σ o = some (nv, σ1)) :
    ∃ cs fl, fl.Nodup ∧ Rep w E.F nv.t nv.m nv.x cs fl ∧ a.eval o = wrapV nv.t cs ∧ RepSt E σ1 a w fl := by
  unfold stVal at hv
  split at hv
  · rename_i v ho
    simp only [Option.some.injEq, Prod.mk.injEq] at hv
    obtain ⟨rfl, rfl⟩ := hv
    have := opdOf_ok ho
    cases o <;> simp only [OpdOk] at this
    obtain ⟨cs, h1, h2⟩ := this w E.F
    exact ⟨cs, [], List.nodup_nil, h1, h2, h⟩
  · rename_i k ho
    have hok := opdOf_ok ho
    cases o <;> simp only [OpdOk] at hok
    subst hok
    split at hv
    case h_2 => cases hv
    rename_i t m x hk
    split at hv
    · simp only [Option.some.injEq, Prod.mk.injEq] at hv
      obtain ⟨rfl, rfl⟩ := hv
      obtain ⟨Ak, h1, h2, h3, h4⟩ := free_state h (lk_lt (by rw [hk]; simp))
      simp only [List.append_nil] at h2 h4
      rw [show σ.getD k .dead = .val t m x from hk] at h1
      obtain ⟨cs, h5, h6⟩ := h1
      exact ⟨cs, Ak, h2, h5, h6, h4⟩
    · split at hv
      · rename_i hp
        simp only [Option.some.injEq, Prod.mk.injEq] at hv
        obtain ⟨rfl, rfl⟩ := hv
        obtain ⟨ow, how, _, _, hsl⟩ := h.slots
        obtain ⟨B, _, _, hr⟩ := hsl k
        rw [show σ.getD k .dead = .val t m x from hk] at hr
        obtain ⟨cs, h5, h6⟩ := hr
        have h7 := plainT_n _ _ _ _ _ hp h5
        have := plain_nil _ _ _ _ _ rfl h7
        subst this
        exact ⟨cs, [], List.nodup_nil, h7, h6, h⟩
      · cases hv
  · cases hv

theorem repSt_nil {E : Env} {σ : List Slot} {a : Act} {w : World} {fl : List Nat} (h : RepSt E σ a w fl) : RepState E σ a w := by
  obtain ⟨h1, h2, h3, ow, how, hflN, hflo, hsl⟩ := h
  exact ⟨h1, h2, h3, ow, how, List.nodup_nil, fun b hb => by simp at hb, hsl⟩

theorem ref_rooted_fl {E : Env} {σ : List Slot} {a : Act} {w : World} {fl : List Nat} (h : RepSt E σ a w fl) {k : Nat} {p : List Stp} {u : Value} {A : List Nat} (hs : RepSlot w E.F (lk σ) (vl a) (.ref k p) u A) {t : PT} {m : Md} {x : t.den} (hk : lk σ k = .val t m x)
    {v : TV} (hg : getP real0 t m x p = some v) : ∃ b off cs', u = .pointer (some ⟨b, off, none⟩) ∧ Rooted w (lk σ) (vl a) k p v (some (b, off)) cs' := ref_rooted h hs hk hg

theorem aStore_sound {E : Env} {tab : Tab} (htab : TabOk E.P tab) {σ : List Slot} {a : Act} {w : World} (hst : RepState E σ a w) {o : Oper} {T : TypeId} {x y : Operand} (ho : o.op = .store T x y) {σ' : List Slot} {obs : List Prop}
    (h : aStore real0 tab T σ x y = some (obs, σ')) : ∃ w', (execOp a.eval o).run E.P w = .ok .skip w' ∧ RepState E σ' a w' := by
  unfold aStore at h
  split at h
  case h_2 => cases h
  rename_i t hT
  split at h
  case h_2 => cases h
  rename_i nv σ1 hv
  split at h
  case h_2 => cases h
  rename_i xo hxo
  split at h
  case h_2 => cases h
  rename_i k p hx
  split at h
  case h_2 => cases h
  rename_i tk mk xk hk
  split at h
  case h_2 => cases h
  rename_i v hg
  split at h
  case isFalse => cases h
  rename_i hb
  split at h
  case h_2 => cases h
  rename_i mN xN hset
  simp only [Option.some.injEq, Prod.mk.injEq] at h
  obtain ⟨_, rfl⟩ := h
  simp only [Bool.and_eq_true] at hb
  have hvt := PT.eq_of_beq hb.1
  have hnt := PT.eq_of_beq hb.2
  obtain ⟨cs, fl, hfl, hrep, hval, hst1⟩ := stVal_ok hst hv
  obtain ⟨A, hxr⟩ := adr_rep (repSt_nil hst1) (look := lk σ1) (fun k => .inr rfl) (gl := []) (fun g hg => by simp at hg) (opdOf_ok hxo)
  rw [hx] at hxr
  obtain ⟨b, off, cs', hu, hroot⟩ := ref_rooted hst1 hxr hk hg
  obtain ⟨A', hn, hA', hrep', hlaid⟩ := root_rep hst1 hroot
  obtain ⟨_, c, e, fr, hc, hfr, hsz, hcs⟩ := hlaid b off rfl
  have hTy := htab.ty _ _ hT
  obtain ⟨nt, nm, nx⟩ := nv
  dsimp only at hnt hrep hval
  subst hnt
  obtain ⟨w', h1, h2, h3, h4⟩ := run_storeVar_at (P := E.P) hTy hc hfr (by rw [← hvt]; exact hsz) hrep
  refine ⟨w', ?_, ?_⟩
  · simp only [execOp, ho, hu, hval, Sem.run_bind, h1, Result.andThen_ok]
    rfl
  · have hF : ∀ c, E.F c → w'.heap[c]? = w.heap[c]? := fun c hc' => by
      refine h2.2 c (fun e => ?_)
      subst e
      -- the block written is the call's own
      obtain ⟨ow, how, _, _, hsl⟩ := hst1.slots
      obtain ⟨Ak, hA1, hA2, hA3⟩ := hsl k
      obtain ⟨t0, m0, x0, cs0, e1, e2, hr0, hg0, hl0⟩ := rooted_rep hA3 hroot
      obtain ⟨Actx, A2, hp, _, _, hrest⟩ := path_law w E.F p t0 m0 x0 cs0 none Ak v (some (c, off)) cs' hr0 hA1 (laid_none _ _ _ _) hg0 hl0
      obtain ⟨hwh, _⟩ := hrest c off rfl
      rcases hwh with hwh | ⟨o', ho', _⟩
      · exact (how c k (hA2 c (hp.mem_iff.2 (by simp [hwh])))).1 hc'
      · cases ho'
    have hr2 : Rep w' E.F nt nm nx cs fl := by
      refine rep_frame (fun _ h => h) hF _ _ _ _ _ (fun b' hb' => h2.2 b' (fun e => ?_)) hrep
      subst e
      obtain ⟨ow, how, hN, hflo, hsl⟩ := hst1.slots
      obtain ⟨Ak, hA1, hA2, hA3⟩ := hsl k
      obtain ⟨t0, m0, x0, cs0, e1, e2, hr0, hg0, hl0⟩ := rooted_rep hA3 hroot
      obtain ⟨Actx, A2, hp, _, _, hrest⟩ := path_law w E.F p t0 m0 x0 cs0 none Ak v (some (b', off)) cs' hr0 hA1 (laid_none _ _ _ _) hg0 hl0
      obtain ⟨hwh, _⟩ := hrest b' off rfl
      rcases hwh with hwh | ⟨o', ho', _⟩
      · have h5 := hA2 b' (hp.mem_iff.2 (by simp [hwh]))
        rw [(hflo b' hb').1] at h5
        cases h5
      · cases ho'
    exact write_state hst1 (lk_lt (by rw [hk]; simp)) hroot hk (nv := ⟨nt, nm, nx⟩) hvt.symm hset h2 hr2 hfl (fun b hb => hb) h3 h4 List.nodup_nil (fun b hb => by simp at hb)

theorem aApp_sound {E : Env} {tab : Tab} (htab : TabOk E.P tab) {σ : List Slot} {a : Act} {w : World} (hst : RepState E σ a w) {o : Oper} {T T' : TypeId} {x y : Operand} {d : Nat} (ho : o.op = .call ⟨.builtin .append, ⟨[x, y]⟩, ⟨[T, T']⟩⟩) {σ' : List Slot} {obs : List Prop}
    (h : aApp real0 tab σ T T' x y d = some (obs, σ')) (hobs : obsAll obs) : ∃ v w', (execOp a.eval o).run E.P w = .ok (.value v) w' ∧ RepState E σ' (a.put (some d) v) w' := by
  unfold aApp at h
  split at h
  case isFalse => cases h
  rename_i hTT
  obtain rfl : T = T' := Nat.eq_of_beq_eq_true hTT
  split at h
  case h_2 => cases h
  rename_i te hT
  split at h
  case h_2 => cases h
  rename_i xo hxo
  split at h
  case h_2 => cases h
  rename_i yo hyo
  split at h
  case h_2 => cases h
  rename_i k L hown
  obtain ⟨lte, lm, lxs⟩ := L
  split at h
  case h_2 => cases h
  rename_i xs hcast
  split at h
  case isFalse => cases h
  rename_i hfl
  simp only [Bool.and_eq_true] at hfl
  obtain ⟨hlm, hflat⟩ := hfl
  split at h
  case h_2 => cases h
  rename_i ys hseen
  split at h
  case h_2 => cases h
  rename_i hdl
  simp only [Option.some.injEq, Prod.mk.injEq] at h
  obtain ⟨rfl, rfl⟩ := h
  obtain ⟨e, rfl⟩ := castT_some hcast
  dsimp only at e hlm hcast hobs ⊢
  simp only [PT.list.injEq] at e
  subst e
  obtain rfl := Md.eq_of_beq hlm
  have hlk : Looks (lk σ) σ := fun k => .inr rfl
  have hgn : holdsG (vl a) [] := fun g hg => by simp at hg
  obtain ⟨cur, al, cap, A0, hroot, hxv, _, _⟩ := ownL_rep hst hlk hgn (opdOf_ok hxo) hown
  obtain ⟨t0, m0, x0, cs0, e1, _, e3, e4, e5, e6⟩ := hroot
  simp only [getP, Option.some.injEq] at e5
  simp only [loc, Option.some.injEq, Prod.mk.injEq] at e6
  obtain ⟨_, rfl⟩ := e6
  cases e5
  obtain ⟨Ak, g1, g2, g3, g4⟩ := free_state hst (lk_lt (k := k) (by rw [e1]; simp))
  rw [show σ.getD k .dead = .val (.list lte) (.l .n) lxs from e1] at g1
  obtain ⟨cs, hrepk, huk⟩ := g1
  obtain rfl := wrapV_inj (t := .list lte) (rep_length _ _ _ _ _ hrepk) e4 (huk.symm.trans e3)
  simp only [List.append_nil] at g2 g4
  obtain ⟨Ay, hAy, hAyw, hry⟩ := opd_rep hst hlk hgn (opdOf_ok hyo)
  obtain ⟨csy, hrepy, huy⟩ := seen_rep hst hlk hAy hAyw hry hseen
  simp only [Rep] at hrepk hrepy
  obtain ⟨hlen1, a1, cap1, hcs1, hor1⟩ := hrepk
  simp only [List.cons.injEq, Value.slice.injEq, and_true] at hcs1
  obtain ⟨rfl, _, rfl⟩ := hcs1
  obtain ⟨_, hlen2, a2, cap2, rfl, _, hor2⟩ := hrepy
  have hyv : a.eval y = .slice a2 (List.length ys) cap2 := huy
  have htT := htab.ty _ _ hT
  unfold TyOk at htT
  obtain ⟨_, el, hu, hel⟩ := htT
  obtain ⟨i, i1, i2, i3, i4⟩ := hel.ti.out
  have hpos := hel.ti.pos
  have hone : ∀ (zs : List lte.den) (cs : List Value), RepL (Rep w noF lte .n) zs cs [] → ∀ v ∈ cs, v.oneCell' = true := fun zs cs hr => repL_all (fun x c A h => rep_one lte .n x c A h) _ _ _ hr
  have hlen : ∀ (w0 : World) (zs : List lte.den) (cs : List Value), RepL (Rep w0 noF lte .n) zs cs [] → cs.length = zs.length * lte.size := fun w0 zs cs hr => repL_length (fun x c A h => rep_length lte .n x c A h) _ _ _ hr
  -- the elements that are appended
  obtain ⟨news, hL2, hR2⟩ : ∃ news, Lies w a2 (List.length ys) i.size news ∧ RepL (Rep w noF lte .n) ys news [] := by
    rcases hor2 with rfl | ⟨b, off, c, e, fr, rfl, _, hb, hsz, hr⟩
    · exact ⟨[], .inl ⟨rfl, rfl⟩, ⟨rfl, rfl⟩⟩
    · exact ⟨_, .inr ⟨b, off, c, e, fr, rfl, hb, by rw [i2]; exact hsz, rfl⟩, by rw [i2]; exact (flat_anyL hflat _ _ _ hr).2⟩
  -- the elements that are there
  obtain ⟨olds, hL1, hR1, hA1⟩ : ∃ olds, ((List.length lxs = 0 ∧ cap = 0 ∧ olds = []) ∨ ∃ b off c e' fr, al = some ⟨b, off, none⟩ ∧ w.heap[b]? = some (.cells c e' fr) ∧ Free c fr ∧ List.length lxs ≤ cap ∧ off + cap * i.size ≤ c.size ∧ olds = (c.toList.drop off).take (List.length lxs * i.size)) ∧
      RepL (Rep w noF lte .n) lxs olds [] ∧ ((lxs = [] ∧ cap = 0 ∧ Ak = []) ∨ ∃ b off, al = some ⟨b, off, none⟩ ∧ Ak = [b]) := by
    rcases hor1 with ⟨rfl, rfl, rfl⟩ | ⟨b, off, c, e, fr, A', rfl, rfl, hb, hfree, hcap, hsz, hr⟩
    · exact ⟨[], .inl ⟨rfl, rfl, rfl⟩, ⟨rfl, rfl⟩, .inl ⟨rfl, rfl, rfl⟩⟩
    · obtain ⟨rfl, hr'⟩ := flat_anyL (w' := w) (F' := noF) hflat _ _ _ hr
      exact ⟨_, .inr ⟨b, off, c, e, fr, rfl, hb, hfree, hcap, by rw [i2]; exact hsz, rfl⟩, by rw [i2]; exact hr', .inr ⟨b, off, rfl, rfl⟩⟩
  have hn : List.length lxs + List.length ys ≤ 4294967296 := by
    have := hobs _ (List.mem_singleton.2 rfl)
    have this : ((List.length lxs : Nat) : Int) + ((List.length ys : Nat) : Int) ≤ 4294967296 := this
    omega
  have hzs : (wrapV lte (zeroC lte)).cells.size = i.size := by
    rw [wrapV_cells (zero_rep (w := w) (F := noF) lte), i2]
    simpa using rep_length lte _ _ _ _ (zero_rep (w := w) (F := noF) lte)
  obtain ⟨v', w', hrun, ho1, ho2, ho3, hcases⟩ := run_append_any (P := E.P) (w := w) (ty := o.type) hu i1 i3 hzs (by omega) i4 hL1 hL2 (hone _ _ hR2) hn
  refine ⟨v', w', ?_, ?_⟩
  · simp only [execOp, ho, resolve, invoke, builtin, Sem.run_bind, Sem.run_pure, Result.andThen_ok, List.map_toArray, List.map_cons, List.map_nil, hxv, hyv]
    exact Eq.trans (congrArg (fun r => Result.andThen r fun a w' => Result.ok (Next.value a) w') hrun) rfl
  have hdl' : d < (setS σ k .dead).length := (List.getElem?_eq_some_iff.1 hdl).1
  have hsum : List.length (real0.app lte lxs ys) = List.length lxs + List.length ys := List.length_append
  have hol := hlen w _ _ hR1
  have hnl := hlen w _ _ hR2
  rcases hcases with ⟨hn2, rfl, rfl⟩ | ⟨b, off, rfl, hroom, rfl, hsz, hwr⟩ | ⟨capn, c, rfl, hcap, hcsz, htake, hheap⟩
  · -- nothing is appended
    have hys : ys = [] := List.eq_nil_of_length_eq_zero hn2
    subst hys
    obtain ⟨_, _, _, _, h6⟩ := set_state g4 (fun _ _ => rfl) g4.below (Nat.le_refl _) hdl' (A := Ak) (s := .val (.list lte) (.l .n) (real0.app lte lxs [])) (v := .slice al (List.length lxs) cap) g2 (fun b hb => .inr hb) ⟨[.slice al (List.length lxs) cap], by
      have : real0.app lte lxs [] = lxs := List.append_nil lxs
      rw [this]
      simp only [Rep]
      exact ⟨hlen1, al, cap, rfl, hor1⟩, rfl⟩
    exact h6 [] List.nodup_nil (fun b hb => by simp at hb)
  · -- there is room
    rcases hor1 with ⟨rfl, rfl, rfl⟩ | ⟨b0, off0, c, e, fr, A', hb0, rfl, hb, hfree, hcap, hsz1, hr⟩
    · simp only [List.length_nil, Nat.zero_add, Nat.le_zero] at hroom
      have hys : ys = [] := List.eq_nil_of_length_eq_zero hroom
      subst hys
      rcases hL1 with ⟨_, _, _⟩ | ⟨b0, off0, c, e, fr, _, hb, hfree, _, _, _⟩
      all_goals
        have hww : ∀ b', b' < w.heap.size → w'.heap[b']? = w.heap[b']? := by
          intro b' _
          have hnews : news = [] := List.eq_nil_of_length_eq_zero (by rw [hnl]; simp)
          subst hnews
          by_cases hbb : b' = b
          · subst hbb
            obtain ⟨⟨c0, c0', e0, fr0, f1, f2, f3, f4⟩, _⟩ := hwr
            rw [f1, f2]
            simp only [List.length_nil, Nat.add_zero, List.nil_append, List.take_append_drop] at f4
            rw [Array.toList_inj.1 f4]
          · exact hwr.2 b' hbb
        obtain ⟨_, _, _, _, h6⟩ := set_state g4 hww (g4.below.trans ⟨ho1, ho2, ho3, by omega, fun b' hb' => hww b' (Nat.lt_of_lt_of_le (E.hF b' hb') g4.below.size)⟩) (by omega) hdl' (A := []) (s := .val (.list lte) (.l .n) (real0.app lte [] [])) (v := .slice (some ⟨b, off, none⟩) 0 0) List.nodup_nil (fun b hb => by simp at hb) ⟨[.slice (some ⟨b, off, none⟩) 0 0], by
          simp only [Rep]
          exact ⟨by simp [real0], some ⟨b, off, none⟩, 0, by simp [real0], .inl ⟨rfl, by trivial, by trivial⟩⟩, rfl⟩
        exact h6 [] List.nodup_nil (fun b hb => by simp at hb)
    · simp only [Option.some.injEq, Addr.mk.injEq, and_true] at hb0
      obtain ⟨rfl, rfl⟩ := hb0
      obtain ⟨rfl, hr'⟩ := flat_anyL (w' := w') (F' := E.F) hflat _ _ _ hr
      have st2 := fl_change g4 (w' := w') (fun b' hb' => hwr.2 b' fun e => hb' (by simp [e])) hsz ⟨ho1, ho2, ho3⟩
      obtain ⟨⟨c0, c0', e0, fr0, f1, f2, f3, f4⟩, _⟩ := hwr
      rw [hb] at f1
      simp only [Option.some.injEq, Obj.cells.injEq] at f1
      obtain ⟨rfl, rfl, rfl⟩ := f1
      have hcsz : c0'.size = c.size := by
        have := congrArg List.length f4
        simp at this
        omega
      obtain ⟨_, _, _, _, h6⟩ := set_state st2 (fun _ _ => rfl) st2.below (Nat.le_refl _) hdl' (A := [b]) (s := .val (.list lte) (.l .n) (real0.app lte lxs ys)) (v := .slice (some ⟨b, off, none⟩) (List.length lxs + List.length ys) cap) (by simp) (fun b' hb' => .inr hb') ⟨[.slice (some ⟨b, off, none⟩) (List.length lxs + List.length ys) cap], by
        simp only [Rep]
        refine ⟨by rw [hsum]; exact hn, some ⟨b, off, none⟩, cap, by rw [hsum], .inr ⟨b, off, c0', e, fr, [], rfl, rfl, f2, ?_, by rw [hsum]; exact hroom, by rw [hcsz]; exact hsz1, ?_⟩⟩
        · intro j hj
          exact hfree j (by omega)
        · rw [hsum, f4, Nat.add_mul, ← hnl, i2] at *
          rw [write_tail (by simpa using f3)]
          exact repL_append hr' (flat_anyL (w' := w') (F' := E.F) hflat _ _ _ hR2).2, rfl⟩
      exact h6 [] List.nodup_nil (fun b hb => by simp at hb)
  · -- new memory
    have hww : ∀ b', b' < w.heap.size → w'.heap[b']? = w.heap[b']? := fun b' hb' => by
      rw [hheap, Array.getElem?_push, if_neg (by omega)]
    have hnew : w'.heap[w.heap.size]? = some (.cells c el) := by rw [hheap]; simp
    have hs1 : w'.heap.size = w.heap.size + 1 := by rw [hheap]; simp
    obtain ⟨_, _, _, _, h6⟩ := set_state g4 hww (g4.below.trans ⟨ho1, ho2, ho3, by omega, fun b' hb' => hww b' (Nat.lt_of_lt_of_le (E.hF b' hb') g4.below.size)⟩) (by omega) hdl' (A := [w.heap.size]) (s := .val (.list lte) (.l .n) (real0.app lte lxs ys)) (v := .slice (some ⟨w.heap.size, 0, none⟩) (List.length lxs + List.length ys) capn) (by simp) (fun b' hb' => .inl (by simp at hb'; omega)) ⟨[.slice (some ⟨w.heap.size, 0, none⟩) (List.length lxs + List.length ys) capn], by
      simp only [Rep]
      refine ⟨by rw [hsum]; exact hn, some ⟨w.heap.size, 0, none⟩, capn, by rw [hsum], .inr ⟨w.heap.size, 0, c, el, (0, 0), [], rfl, rfl, hnew, free0 c, by rw [hsum]; exact hcap, by rw [hcsz, i2]; omega, ?_⟩⟩
      rw [hsum, List.drop_zero, ← i2, htake]
      exact repL_append (flat_anyL (w' := w') (F' := E.F) hflat _ _ _ hR1).2 (flat_anyL (w' := w') (F' := E.F) hflat _ _ _ hR2).2, rfl⟩
    exact h6 [] List.nodup_nil (fun b hb => by simp at hb)

theorem take_state {E : Env} {σ : List Slot} {a : Act} {w : World} (hst : RepState E σ a w) {k i d : Nat} {vs : List (Option TV)} {v : TV} (hk : lk σ k = .tup vs) (hv : vs[i]? = some (some v)) {σ' : List Slot} (h : takeS σ k i d = some σ') :
    ∃ us u, vl a k = .tuple us ∧ us[i]? = some u ∧ RepState E σ' (a.put (some d) u) w := by
  unfold takeS at h
  rw [hk] at h
  simp only [hv] at h
  split at h
  · cases h
  rename_i hkd
  split at h
  case h_2 => cases h
  rename_i hd
  obtain rfl := Option.some.inj h
  have hd' := (List.getElem?_eq_some_iff.1 hd).1
  have hkl : k < σ.length := lk_lt (by rw [hk]; simp)
  obtain ⟨Ak, g1, g2, g3, g4⟩ := free_state hst hkl
  rw [show σ.getD k .dead = .tup vs from hk] at g1
  simp only [List.append_nil] at g2 g4
  obtain ⟨us, hu, hr⟩ := g1
  have hi : i < vs.length := (List.getElem?_eq_some_iff.1 hv).1
  have hvi : vs[i] = some v := (List.getElem?_eq_some_iff.1 hv).2
  obtain ⟨c1, c, c2, A1, A', A2, hcs, hA, hc1, hx, hrest⟩ := repL_at (n := 1) (fun o c A h => by cases o <;> exact h.1) hr hi
  rw [hvi] at hx
  obtain ⟨hl1, cs, hrep, rfl⟩ := hx
  have hnew := hrest (fun o cs A => match o with
      | some v => cs.length = 1 ∧ ∃ cs', Rep w E.F v.t v.m v.x cs' A ∧ cs = [wrapV v.t cs']
      | none => cs.length = 1 ∧ A = []) none [wrapV v.t cs] [] (fun _ _ _ _ h => h) ⟨rfl, rfl⟩
  have hus : us[i]? = some (wrapV v.t cs) := by
    have : us.toList[i]? = some (wrapV v.t cs) := by
      rw [hcs, List.getElem?_append_right (by omega), hc1, Nat.mul_one, Nat.sub_self]
      rfl
    simpa using this
  refine ⟨us, wrapV v.t cs, hu, hus, ?_⟩
  rw [hA] at g2
  have hn1 : (A1 ++ A2).Nodup := by
    rw [List.nodup_append] at g2 ⊢
    obtain ⟨n1, n2, n3⟩ := g2
    rw [List.nodup_append] at n2
    exact ⟨n1, n2.2.1, fun x hx y hy => n3 x hx y (by simp [hy])⟩
  have hn2 : A'.Nodup := by
    rw [List.nodup_append] at g2
    have := g2.2.1
    rw [List.nodup_append] at this
    exact this.1
  have hdis : ∀ b ∈ A', b ∉ A1 ++ A2 := by
    intro b hb hm
    rw [List.nodup_append] at g2
    obtain ⟨n1, n2, n3⟩ := g2
    rw [List.nodup_append] at n2
    rcases List.mem_append.1 hm with hm | hm
    · exact n3 b hm b (by simp [hb]) rfl
    · exact n2.2.2 b hb b hm rfl
  obtain ⟨_, _, _, _, h6⟩ := set_state g4 (fun _ _ => rfl) g4.below (Nat.le_refl _) (d := k) (by rw [setS_length]; exact hkl) (s := .tup (vs.set i none)) (v := a.tmps.getD k undef) (A := A1 ++ A2) hn1 (fun b hb => .inr (by rw [hA]; simp only [List.mem_append] at hb ⊢; rcases hb with hb | hb <;> simp [hb]))
    ⟨us, hu, by
      simp only [List.nil_append] at hnew
      unfold RepTup
      rw [hcs]
      refine repL_mono _ _ _ (fun o c A' _ h => ?_) hnew
      cases o <;> exact h⟩
  have st2 := h6 A' hn2 (fun b hb => ⟨.inl (by rw [hA]; simp [hb]), hdis b hb⟩)
  rw [put_same] at st2
  obtain ⟨_, _, _, _, h7⟩ := set_state st2 (fun _ _ => rfl) st2.below (Nat.le_refl _) (d := d) (by simp only [setS_length]; exact hd') (s := .val v.t v.m v.x) (v := wrapV v.t cs) (A := A') hn2 (fun b hb => .inr hb) ⟨cs, hrep, rfl⟩
  exact h7 [] List.nodup_nil (fun b hb => by simp at hb)

theorem stepX0_sound {E : Env} {tab : Tab} (htab : TabOk E.P tab) {ops : Array Oper} {σ : List Slot} {a : Act} {w : World} (hst : RepState E σ a w) {i : Nat} {o : Oper} (hi : ops[i]? = some o) {σ' : List Slot} {obs : List Prop}
    (h : stepX0 real0 tab σ o = some (obs, σ')) (hobs : obsAll obs) {next : Act → World → Prop} {Q : Exit → Act → World → Prop} (hK : ∀ a' w', RepState E σ' a' w' → next a' w') : wpOp E.P ops Q i next a w := by
  unfold stepX0 at h
  split at h
  · cases h
  rename_i hg
  unfold wpOp
  rw [hi]
  dsimp only
  rw [if_pos (by simp [Region.wanted, hg])]
  refine .inl ?_
  unfold Oper.wp
  split at h
  · rename_i x y T T' ho
    split at h
    case h_2 => cases h
    rename_i d hd
    obtain ⟨v, w', h1, h2⟩ := aApp_sound htab hst ho h hobs
    rw [h1]
    show next (a.put o.dst v) w'
    rw [hd]
    exact hK _ _ h2
  · rename_i k i' ho
    split at h
    case h_2 => cases h
    rename_i d hd
    split at h
    case h_2 => cases h
    rename_i vs hk
    split at h
    case h_2 => cases h
    rename_i v hv
    split at h
    case isFalse => cases h
    split at h
    case h_2 => cases h
    rename_i σ2 ht
    simp only [Option.some.injEq, Prod.mk.injEq] at h
    obtain ⟨_, rfl⟩ := h
    obtain ⟨us, u, h1, h2, h3⟩ := take_state hst hk hv ht
    have hrun : (execOp a.eval o).run E.P w = .ok (.value u) w := by
      have h1' : a.eval (.tmp k) = .tuple us := h1
      simp only [execOp, ho, h1', Instr.extract, h2, Sem.run_bind, Sem.run_pure, Result.andThen_ok]
    rw [hrun]
    show next (a.put o.dst u) w
    rw [hd]
    exact hK _ _ h3
  · rename_i k ho
    split at h
    case h_2 => cases h
    rename_i d hd
    split at h
    case h_2 => cases h
    rename_i t m x hk
    split at h
    case isFalse => cases h
    split at h
    case h_2 => cases h
    rename_i σ2 hgive
    simp only [Option.some.injEq, Prod.mk.injEq] at h
    obtain ⟨_, rfl⟩ := h
    have : (execOp a.eval o).run E.P w = .ok (.value (a.tmps.getD k undef)) w := by simp [execOp, ho, Act.eval]
    rw [this]
    show next (a.put o.dst _) w
    rw [hd]
    exact hK _ _ (give_state hst hk (.inl ⟨_, _, _, rfl⟩) hgive)
  · rename_i k ho
    split at h
    case h_2 => cases h
    rename_i d hd
    split at h
    case h_2 => cases h
    rename_i vs hk
    split at h
    case h_2 => cases h
    rename_i σ2 hgive
    simp only [Option.some.injEq, Prod.mk.injEq] at h
    obtain ⟨_, rfl⟩ := h
    have : (execOp a.eval o).run E.P w = .ok (.value (a.tmps.getD k undef)) w := by simp [execOp, ho, Act.eval]
    rw [this]
    show next (a.put o.dst _) w
    rw [hd]
    exact hK _ _ (give_state hst hk (.inr (.inl ⟨_, rfl⟩)) hgive)
  · rename_i T x y ho
    split at h
    case h_2 => cases h
    rename_i hd
    obtain ⟨w', h1, h2⟩ := aStore_sound htab hst ho h
    rw [h1]
    show next (a.put o.dst undef) w'
    rw [hd]
    exact hK _ _ h2
  · cases h

end Go.Proofs.Ytaachifkgcdeoaa.Sy

namespace Go.Proofs.Ytaachifkgcdeoaa.Sy
open Go.RowKit
set_option linter.unusedSimpArgs false
set_option linter.unusedVariables false

theorem app_core {E : Env} {tab : Tab} (htab : TabOk E.P tab) {σ : List Slot} {a : Act} {w : World} {fl0 : List Nat} (h : RepSt E σ a w fl0) {o : Oper} {T : TypeId} {x y : Operand} (ho : o.op = .call ⟨.builtin .append, ⟨[x, y]⟩, ⟨[T, T]⟩⟩) {te : PT} (hT : tyT tab T = some (.list te))
    {k : Nat} {p : List Stp} {me : Md} {xs : List te.den} {tk : PT} {mk : Md} {xk xN : tk.den} (hkv : lk σ k = .val tk mk xk) {cur : Option (Nat × Nat)} {cs' : List Value} (hr : Rooted w (lk σ) (vl a) k (.d :: p) ⟨.list te, .l me, xs⟩ cur cs') (hx : a.eval x = wrapV (.list te) cs')
    (hs : setP real0 ⟨.list te, .l me, xs⟩ (.d :: p) tk mk xk = some (mk, xN)) {ys : List te.den} {a2 : Option Addr} {cap2 : Nat} {news : List Value} {By : List Nat} (hyv : a.eval y = .slice a2 ys.length cap2) (hL2 : Lies w a2 ys.length te.size news) (hR2 : RepL (Rep w E.F te me) ys news By)
    (hBn : By.Nodup) (hBf : ∀ b ∈ By, b ∈ fl0) (hn : xs.length + ys.length ≤ 4294967296) {d : Nat} (hd : d < σ.length) (hna : ∀ j, k ∈ (lk σ j).deps → (lk σ j).isApp = false) :
    ∃ v w', (execOp a.eval o).run E.P w = .ok (.value v) w' ∧ RepState E (setS σ d (.app k (.d :: p) te ys)) (a.put (some d) v) w' := by
  obtain ⟨b, off, rfl⟩ : ∃ b off, cur = some (b, off) := by
    obtain ⟨t0, m0, x0, cs0, _, _, _, _, _, e6⟩ := hr
    exact loc_d e6
  obtain ⟨A', hA'n, hA'w, hrep, hlaid⟩ := root_rep h hr
  dsimp only at hrep
  simp only [Rep] at hrep
  obtain ⟨hlen1, a1, cap1, rfl, hor1⟩ := hrep
  have hxv : a.eval x = .slice a1 xs.length cap1 := hx
  have htT := htab.ty _ _ hT
  unfold TyOk at htT
  obtain ⟨_, el, hu, hel⟩ := htT
  obtain ⟨i, i1, i2, i3, i4⟩ := hel.ti.out
  have hpos := hel.ti.pos
  have hlt := repSt_lt h
  have hnotF := repSt_notF h
  have hone : ∀ v ∈ news, v.oneCell' = true := repL_all (fun x c A h => rep_one te _ x c A h) _ _ _ hR2
  have hnl : news.length = ys.length * te.size := repL_length (fun x c A h => rep_length te _ x c A h) _ _ _ hR2
  obtain ⟨olds, hL1, hol⟩ : ∃ olds, ((xs.length = 0 ∧ cap1 = 0 ∧ olds = []) ∨ ∃ b off c e' fr, a1 = some ⟨b, off, none⟩ ∧ w.heap[b]? = some (.cells c e' fr) ∧ Free c fr ∧ xs.length ≤ cap1 ∧ off + cap1 * i.size ≤ c.size ∧ olds = (c.toList.drop off).take (xs.length * i.size)) ∧
      ((xs = [] ∧ cap1 = 0 ∧ olds = []) ∨ ∃ b off, a1 = some ⟨b, off, none⟩ ∧ b < w.heap.size ∧ olds = rdCells w b off (xs.length * te.size)) := by
    rcases hor1 with ⟨rfl, rfl, rfl⟩ | ⟨b, off, c, e, fr, A'', rfl, rfl, hb, hfree, hcap, hsz, hr⟩
    · exact ⟨[], .inl ⟨rfl, rfl, rfl⟩, .inl ⟨rfl, rfl, rfl⟩⟩
    · exact ⟨_, .inr ⟨b, off, c, e, fr, rfl, hb, hfree, hcap, by rw [i2]; exact hsz, rfl⟩, .inr ⟨b, off, rfl, hA'w b (by simp), by rw [rdCells_of hb, i2]⟩⟩
  have hzs : (wrapV te (zeroC te)).cells.size = i.size := by
    rw [wrapV_cells (zero_rep (w := w) (F := noF) te), i2]
    simpa using rep_length te _ _ _ _ (zero_rep (w := w) (F := noF) te)
  obtain ⟨v', w', hrun, ho1, ho2, ho3, hcases⟩ := run_append_any (P := E.P) (w := w) (ty := o.type) hu i1 i3 hzs (by omega) i4 hL1 (i2 ▸ hL2) hone hn
  refine ⟨v', w', ?_, ?_⟩
  · simp only [execOp, ho, resolve, invoke, builtin, Sem.run_bind, Sem.run_pure, Result.andThen_ok, List.map_toArray, List.map_cons, List.map_nil, hxv, hyv]
    exact Eq.trans (congrArg (fun r => Result.andThen r fun a w' => Result.ok (Next.value a) w') hrun) rfl
  rw [i2] at hcases
  have hfin : ∀ (w1 : World) (A : List Nat) (st : RepSt E σ a w1 fl0), (∀ b, b < w1.heap.size → w'.heap[b]? = w1.heap[b]?) → Kept E.F E.w0 w' → w1.heap.size ≤ w'.heap.size → A.Nodup → (∀ b ∈ A, (w1.heap.size ≤ b ∧ b < w'.heap.size) ∨ b ∈ fl0) → RepSlot w' E.F (lk σ) (vl a) (.app k (.d :: p) te ys) v' A → RepState E (setS σ d (.app k (.d :: p) te ys)) (a.put (some d) v') w' := by
    intro w1 A st h1 h2 h3 h4 h5 h6
    obtain ⟨_, _, _, _, h7⟩ := set_state st h1 h2 h3 hd h4 h5 h6
    exact h7 [] List.nodup_nil (fun b hb => by simp at hb)
  rcases hcases with ⟨hn2, rfl, rfl⟩ | ⟨b0, o0, ha1, hroom, rfl, hsz, hwr⟩ | ⟨capn, c, rfl, hcap, hcsz, htake, hheap⟩
  · -- nothing is appended
    have hys : ys = [] := List.eq_nil_of_length_eq_zero hn2
    exact hfin w' [] h (fun _ _ => rfl) h.below (Nat.le_refl _) List.nodup_nil (fun b hb => by simp at hb) ⟨me, xs, some (b, off), a1, cap1, hr, hn, .inl ⟨hys, rfl, rfl⟩⟩
  · subst ha1
    by_cases hcap : cap1 = 0
    · have hys : ys = [] := List.eq_nil_of_length_eq_zero (by omega)
      subst hys
      have hnews : news = [] := List.eq_nil_of_length_eq_zero (by rw [hnl]; simp)
      subst hnews
      have hww : ∀ b' : Nat, w'.heap[b']? = w.heap[b']? := by
        intro b'
        by_cases hbb : b' = b0
        · subst hbb
          obtain ⟨⟨c0, c0', e0, fr0, f1, f2, f3, f4⟩, _⟩ := hwr
          rw [f1, f2]
          simp only [List.length_nil, Nat.add_zero, List.nil_append, List.take_append_drop] at f4
          rw [Array.toList_inj.1 f4]
        · exact hwr.2 b' hbb
      have h' := h
      obtain ⟨_, _, _, ow, _, _, _, hsl⟩ := h
      obtain ⟨C, hC1, hC2, hC3⟩ := hsl k
      exact hfin w [] h' (fun b' _ => hww b') (h'.below.trans ⟨ho1, ho2, ho3, by omega, fun b' _ => hww b'⟩) (by omega) List.nodup_nil (fun b hb => by simp at hb) ⟨me, xs, some (b, off), _, cap1, (rooted_keep (look := lk σ) (vs := vl a) hC1 hC3 (fun c _ => hww c) (fun _ _ _ _ => rfl) rfl hr).1, hn, .inl ⟨rfl, rfl, rfl⟩⟩
    · have hwr0 := hwr
      obtain ⟨⟨c0, c0', e0, fr0, f1, f2, f3, f4⟩, hoth⟩ := hwr0
      obtain ⟨k1, k2, k3⟩ := write_get (by simpa using f3) f4
      have hRoom : Room w w' b0 (o0 + xs.length * te.size) := ⟨hoth, c0, c0', e0, fr0, f1, f2, by simpa using k1, fun j hj => k2 j (.inl hj)⟩
      obtain ⟨st2, g1, g2, g3⟩ := room_state h hr (by omega) hkv hs hRoom hsz ⟨ho1, ho2, ho3⟩ hna
      refine hfin w' By st2 (fun _ _ => rfl) st2.below (Nat.le_refl _) hBn (fun b hb => .inr (hBf b hb)) ⟨me, xs, some (b, off), _, cap1, g3, hn, ?_⟩
      by_cases hys : ys = []
      · subst hys
        obtain ⟨_, rfl⟩ := hR2
        exact .inl ⟨rfl, rfl, rfl⟩
      · refine .inr (.inl ⟨b0, o0, c0', e0, fr0, hys, rfl, f2, hroom, rfl, ?_⟩)
        rw [← hnl, k3]
        exact repL_mono _ _ _ (fun x c A'' hA hr => rep_frame (fun _ h => h) (fun b' hb' => hoth b' fun e => g2 (e ▸ hb')) te me x c A'' (fun b' hb' => hoth b' fun e => g1 (e ▸ hBf b' (hA b' hb'))) hr) hR2
  · -- new memory
    have hww : ∀ b', b' < w.heap.size → w'.heap[b']? = w.heap[b']? := fun b' hb' => by
      rw [hheap, Array.getElem?_push, if_neg (by omega)]
    have hnew : w'.heap[w.heap.size]? = some (.cells c el) := by rw [hheap]; simp
    have hs1 : w'.heap.size = w.heap.size + 1 := by rw [hheap]; simp
    have hFw : ∀ b', E.F b' → w'.heap[b']? = w.heap[b']? := fun b' hb' => hww b' (Nat.lt_of_lt_of_le (E.hF b' hb') h.below.size)
    have h' := h
    obtain ⟨_, _, _, ow, how, _, _, hsl⟩ := h'
    obtain ⟨C, hC1, hC2, hC3⟩ := hsl k
    have hroot := (rooted_keep (look := lk σ) (vs := vl a) (look' := lk σ) (vs' := vl a) hC1 hC3 (fun c hc => hww c (how c k (hC2 c hc)).2) (fun _ _ _ _ => rfl) rfl hr).1
    refine hfin w (w.heap.size :: By) h hww (h.below.trans ⟨ho1, ho2, ho3, by omega, hFw⟩) (by omega) (List.nodup_cons.2 ⟨fun hm => Nat.lt_irrefl _ (hlt _ (hBf _ hm)), hBn⟩) (fun b' hb' => by
      rcases List.mem_cons.1 hb' with rfl | hb'
      · exact .inl ⟨Nat.le_refl _, by omega⟩
      · exact .inr (hBf b' hb')) ⟨me, xs, some (b, off), a1, cap1, hroot, hn, .inr (.inr ⟨w.heap.size, c, el, (0, 0), By, capn, olds, news, rfl, rfl, hnew, free0 c, hcap, by rw [hcsz]; exact Nat.le_refl _, htake, ?_, ?_⟩)⟩
    · by_cases hxs : xs = []
      · left
        subst hxs
        refine ⟨rfl, ?_⟩
        rcases hol with ⟨_, _, h3⟩ | ⟨b0, o0, _, _, h3⟩
        · exact h3
        · rw [h3]
          simp [rdCells]
          split <;> rfl
      · right
        rcases hol with ⟨h1, _, _⟩ | ⟨b0, o0, h1, h2, h3⟩
        · exact absurd h1 hxs
        · exact ⟨b0, o0, hxs, h1, by rw [h3]; simp only [rdCells, hww b0 h2]⟩
    · exact repL_mono _ _ _ (fun x c A'' hA hr => rep_frame (fun _ h => h) hFw te me x c A'' (fun b' hb' => hww b' (hlt b' (hBf b' (hA b' hb')))) hr) hR2

/-- What was made by such an append, as a list. -/
theorem app_val {w : World} {F : Nat → Prop} {te : PT} {me : Md} {xs ys : List te.den} {a : Option Addr} {cap : Nat} {u : Value} {A Af : List Nat} (hf : Rep w F (.list te) (.l me) xs [.slice a xs.length cap] Af) (hfn : Af.Nodup) (hA : A.Nodup) (hd : ∀ c ∈ Af, c ∉ A) (hn : xs.length + ys.length ≤ 4294967296)
    (h : (ys = [] ∧ A = [] ∧ u = .slice a xs.length cap) ∨
       (∃ b off c e fr, ys ≠ [] ∧ a = some ⟨b, off, none⟩ ∧ w.heap[b]? = some (.cells c e fr) ∧ xs.length + ys.length ≤ cap ∧ u = .slice a (xs.length + ys.length) cap ∧
          RepL (Rep w F te me) ys ((c.toList.drop (off + xs.length * te.size)).take (ys.length * te.size)) A) ∨
       (∃ b c e fr A2 cap2 c1 c2, u = .slice (some ⟨b, 0, none⟩) (xs.length + ys.length) cap2 ∧ A = b :: A2 ∧ w.heap[b]? = some (.cells c e fr) ∧ Free c fr ∧ xs.length + ys.length ≤ cap2 ∧ cap2 * te.size ≤ c.size ∧
          c.toList.take ((xs.length + ys.length) * te.size) = c1 ++ c2 ∧ (xs = [] ∧ c1 = [] ∨ ∃ b0 o0, xs ≠ [] ∧ a = some ⟨b0, o0, none⟩ ∧ c1 = rdCells w b0 o0 (xs.length * te.size)) ∧ RepL (Rep w F te me) ys c2 A2)) :
    ∃ An, Rep w F (.list te) (.l me) (xs ++ ys) [u] An ∧ An.Nodup ∧ ∀ c ∈ An, c ∈ A ∨ c ∈ Af := by
  have hsum : (xs ++ ys).length = xs.length + ys.length := List.length_append
  rcases h with ⟨rfl, rfl, rfl⟩ | ⟨b, off, c, e, fr, hne, rfl, hb, hcp, rfl, hrl⟩ | ⟨b, c, e, fr, A2, cap2, c1, c2, rfl, rfl, hb, hfree, hcp, hsz, htake, hold, hrl⟩
  · exact ⟨Af, by rw [List.append_nil]; exact hf, hfn, fun c hc => .inr hc⟩
  · simp only [Rep] at hf
    obtain ⟨h0, a', cap', e1, hor⟩ := hf
    simp only [List.cons.injEq, Value.slice.injEq, true_and, and_true] at e1
    obtain ⟨rfl, rfl⟩ := e1
    have hpos : 0 < ys.length := List.length_pos_iff.2 hne
    rcases hor with ⟨_, h1, _⟩ | ⟨b1, o1, c1, e1, fr1, A1, hba, rfl, hb1, hfree, hcap, hsz, hrx⟩
    · omega
    simp only [Option.some.injEq, Addr.mk.injEq, and_true] at hba
    obtain ⟨rfl, rfl⟩ := hba
    rw [hb] at hb1
    simp only [Option.some.injEq, Obj.cells.injEq] at hb1
    obtain ⟨rfl, rfl, rfl⟩ := hb1
    obtain ⟨n1, n2⟩ := List.nodup_cons.1 hfn
    refine ⟨b :: (A1 ++ A), ?_, List.nodup_cons.2 ⟨fun hm => ?_, List.nodup_append.2 ⟨n2, hA, fun x hx y hy e => hd x (by simp [hx]) (e ▸ hy)⟩⟩, fun c hc => ?_⟩
    · simp only [Rep]
      refine ⟨by rw [hsum]; exact hn, _, cap, by rw [hsum], .inr ⟨b, off, c, e, fr, A1 ++ A, rfl, rfl, hb, hfree, by rw [hsum]; exact hcp, hsz, ?_⟩⟩
      rw [hsum, Nat.add_mul, List.take_add, List.drop_drop]
      exact repL_append hrx hrl
    · rcases List.mem_append.1 hm with hm | hm
      · exact n1 hm
      · exact hd b (by simp) hm
    · simp only [List.mem_cons, List.mem_append] at hc ⊢
      rcases hc with hc | hc | hc
      · exact .inr (.inl hc)
      · exact .inr (.inr hc)
      · exact .inl hc
  · obtain ⟨m1, m2⟩ := List.nodup_cons.1 hA
    obtain ⟨A1, hrx, hA1n, hA1⟩ : ∃ A1, RepL (Rep w F te me) xs c1 A1 ∧ A1.Nodup ∧ ∀ c ∈ A1, c ∈ Af := by
      rcases hold with ⟨rfl, rfl⟩ | ⟨b0, o0, hxs, rfl, rfl⟩
      · exact ⟨[], ⟨rfl, rfl⟩, List.nodup_nil, fun c hc => by simp at hc⟩
      · simp only [Rep] at hf
        obtain ⟨h0, a', cap', e1, hor⟩ := hf
        simp only [List.cons.injEq, Value.slice.injEq, true_and, and_true] at e1
        obtain ⟨rfl, rfl⟩ := e1
        rcases hor with ⟨h1, _⟩ | ⟨b1, o1, c1, e1, fr1, A1, hba, rfl, hb1, hfree, hcap, hsz, hrx⟩
        · exact absurd h1 hxs
        simp only [Option.some.injEq, Addr.mk.injEq, and_true] at hba
        obtain ⟨rfl, rfl⟩ := hba
        rw [rdCells_of hb1]
        exact ⟨A1, hrx, (List.nodup_cons.1 hfn).2, fun c hc => by simp [hc]⟩
    refine ⟨b :: (A1 ++ A2), ?_, List.nodup_cons.2 ⟨fun hm => ?_, List.nodup_append.2 ⟨hA1n, m2, fun x hx y hy e => hd x (hA1 x hx) (by simp [e, hy])⟩⟩, fun c hc => ?_⟩
    · simp only [Rep]
      refine ⟨by rw [hsum]; exact hn, _, cap2, by rw [hsum], .inr ⟨b, 0, c, e, fr, A1 ++ A2, rfl, rfl, hb, hfree, by rw [hsum]; exact hcp, by omega, ?_⟩⟩
      rw [hsum, List.drop_zero, htake]
      exact repL_append hrx hrl
    · rcases List.mem_append.1 hm with hm | hm
      · exact hd b (hA1 b hm) (by simp)
      · exact m1 hm
    · simp only [List.mem_cons, List.mem_append] at hc ⊢
      rcases hc with hc | hc | hc
      · exact .inl (.inl hc)
      · exact .inr (hA1 c hc)
      · exact .inl (.inr hc)

/-! ### The store -/
def pathObs : List Stp → List Stp → Option (List Prop)
  | [], [] => some []
  | .f i :: p, .f j :: q => if Nat.beq i j then pathObs p q else none
  | .i k :: p, .i k' :: q => match pathObs p q with
    | some l => some ((k = k') :: l)
    | none => none
  | .e k :: p, .e k' :: q => match pathObs p q with
    | some l => some ((k = k') :: l)
    | none => none
  | .d :: p, .d :: q => pathObs p q
  | _, _ => none
theorem pathObs_out : ∀ {p q : List Stp} {l : List Prop}, pathObs p q = some l → obsAll l → p = q
  | [], [], _, _, _ => rfl
  | .f i :: p, .f j :: q, l, h, ho => by
    simp only [pathObs] at h
    split at h
    · rename_i hb
      rw [Nat.eq_of_beq_eq_true hb, pathObs_out h ho]
    · cases h
  | .i k :: p, .i k' :: q, l, h, ho => by
    simp only [pathObs] at h
    split at h
    · rename_i l' hl
      obtain rfl := Option.some.inj h
      rw [ho (k = k') (by simp), pathObs_out hl (fun r hr => ho r (by simp [hr]))]
    · cases h
  | .e k :: p, .e k' :: q, l, h, ho => by
    simp only [pathObs] at h
    split at h
    · rename_i l' hl
      obtain rfl := Option.some.inj h
      rw [ho (k = k') (by simp), pathObs_out hl (fun r hr => ho r (by simp [hr]))]
    · cases h
  | .d :: p, .d :: q, l, h, ho => by
    simp only [pathObs] at h
    rw [pathObs_out h ho]
  | [], .f _ :: _, _, h, _ => by simp [pathObs] at h
  | [], .i _ :: _, _, h, _ => by simp [pathObs] at h
  | [], .e _ :: _, _, h, _ => by simp [pathObs] at h
  | [], .d :: _, _, h, _ => by simp [pathObs] at h
  | .f _ :: _, [], _, h, _ => by simp [pathObs] at h
  | .i _ :: _, [], _, h, _ => by simp [pathObs] at h
  | .e _ :: _, [], _, h, _ => by simp [pathObs] at h
  | .d :: _, [], _, h, _ => by simp [pathObs] at h
  | .f _ :: _, .i _ :: _, _, h, _ => by simp [pathObs] at h
  | .f _ :: _, .e _ :: _, _, h, _ => by simp [pathObs] at h
  | .f _ :: _, .d :: _, _, h, _ => by simp [pathObs] at h
  | .i _ :: _, .f _ :: _, _, h, _ => by simp [pathObs] at h
  | .i _ :: _, .e _ :: _, _, h, _ => by simp [pathObs] at h
  | .i _ :: _, .d :: _, _, h, _ => by simp [pathObs] at h
  | .e _ :: _, .f _ :: _, _, h, _ => by simp [pathObs] at h
  | .e _ :: _, .i _ :: _, _, h, _ => by simp [pathObs] at h
  | .e _ :: _, .d :: _, _, h, _ => by simp [pathObs] at h
  | .d :: _, .f _ :: _, _, h, _ => by simp [pathObs] at h
  | .d :: _, .i _ :: _, _, h, _ => by simp [pathObs] at h
  | .d :: _, .e _ :: _, _, h, _ => by simp [pathObs] at h

def aStoreApp (A : Alg) (tab : Tab) (T : TypeId) (σ : List Slot) (x y : Operand) : Option (List Prop × List Slot) :=
  match y with
  | .tmp j => match lk σ j with
    | .app k p te ys => match opdOf tab 0 x with
      | some xo => match adrS (lk σ) xo (opd (lk σ) [] xo) with
        | .ref k' q => if Nat.beq k k' then (match pathObs p q with
          | some l => match lk σ k with
            | .val tk mk xk => match getP A tk mk xk p with
              | some ⟨.list tl, .l me, xl⟩ => match castT (.list tl) (.list te) xl with
                | some xs => match tyT tab T with
                  | some t => if PT.beq t (.list te) then (match setP A ⟨.list te, .l me, A.app te xs ys⟩ p tk mk xk with
                    | some (mN, xN) => some (l, setV (setS σ j .dead) k p (.val tk mN xN))
                    | none => none) else none
                  | none => none
                | none => none
              | _ => none
            | _ => none
          | none => none) else none
        | _ => none
      | none => none
    | _ => none
  | _ => none

theorem aStoreApp_sound {E : Env} {tab : Tab} (htab : TabOk E.P tab) {σ : List Slot} {a : Act} {w : World} (hst : RepState E σ a w) {o : Oper} {T : TypeId} {x y : Operand} (ho : o.op = .store T x y) {σ' : List Slot} {obs : List Prop}
    (h : aStoreApp real0 tab T σ x y = some (obs, σ')) (hobs : obsAll obs) : ∃ w', (execOp a.eval o).run E.P w = .ok .skip w' ∧ RepState E σ' a w' := by
  unfold aStoreApp at h
  split at h
  case h_2 => cases h
  rename_i j
  split at h
  case h_2 => cases h
  rename_i k p te ys hj
  split at h
  case h_2 => cases h
  rename_i xo hxo
  split at h
  case h_2 => cases h
  rename_i k' q hx
  split at h
  case isFalse => cases h
  rename_i hkk
  obtain rfl := Nat.eq_of_beq_eq_true hkk
  split at h
  case h_2 => cases h
  rename_i l hl
  split at h
  case h_2 => cases h
  rename_i tk mk xk hk
  split at h
  case h_2 => cases h
  rename_i tl me xl hg
  split at h
  case h_2 => cases h
  rename_i xs hcast
  split at h
  case h_2 => cases h
  rename_i t hT
  split at h
  case isFalse => cases h
  rename_i hbt
  split at h
  case h_2 => cases h
  rename_i mN xN hset
  simp only [Option.some.injEq, Prod.mk.injEq] at h
  obtain ⟨rfl, rfl⟩ := h
  have htt := PT.eq_of_beq hbt
  subst htt
  obtain ⟨e, rfl⟩ := castT_some hcast
  simp only [PT.list.injEq] at e
  subst e
  dsimp only at hset hg
  clear hcast
  have hpq := pathObs_out hl hobs
  subst hpq
  have hjl : j < σ.length := lk_lt (by rw [hj]; simp)
  have hjk : j ≠ k := fun e => by subst e; rw [hj] at hk; cases hk
  obtain ⟨A, hA1, hA2, _, hst1⟩ := free_state hst hjl
  rw [List.append_nil] at hA2 hst1
  rw [show σ.getD j .dead = .app k p tl ys from hj] at hA1
  obtain ⟨me', xs', cur, a1, cap, hroot, hn, halts⟩ := hA1
  obtain ⟨Ax, hxr⟩ := adr_rep hst (look := lk σ) (fun k => .inr rfl) (gl := []) (fun g hg => by simp at hg) (opdOf_ok hxo)
  rw [hx] at hxr
  obtain ⟨b, off, cs', hu, hroot2⟩ := ref_rooted_fl hst hxr hk hg
  -- the two are the same
  have hsame : me' = me ∧ HEq xs' xl ∧ cur = some (b, off) ∧ cs' = [.slice a1 (List.length xs') cap] := by
    obtain ⟨t0, m0, x0, cs0, e1, _, e3, e4, e5, e6⟩ := hroot
    obtain ⟨t1, m1, x1, cs1, f1, _, f3, f4, f5, f6⟩ := hroot2
    have e1' : lk σ k = .val t0 m0 x0 := e1
    have f1' : lk σ k = .val t1 m1 x1 := f1
    rw [hk] at e1' f1'
    simp only [Slot.val.injEq] at e1' f1'
    obtain ⟨rfl, rfl, e1'⟩ := e1'
    obtain ⟨rfl, rfl, f1'⟩ := f1'
    obtain rfl := eq_of_heq e1'
    obtain rfl := eq_of_heq f1'
    obtain rfl := wrapV_inj e4 f4 (e3.symm.trans f3)
    rw [e5] at f5
    rw [e6] at f6
    simp only [Option.some.injEq, TV.mk.injEq, true_and, Md.l.injEq, Prod.mk.injEq] at f5 f6
    exact ⟨f5.1, f5.2, f6.1, f6.2.symm⟩
  obtain ⟨rfl, hxx, rfl, rfl⟩ := hsame
  obtain rfl := eq_of_heq hxx
  have hk1 : lk (setS σ j .dead) k = .val tk mk xk := by
    show (setS σ j .dead).getD k .dead = _
    rw [setS_get _ _ _ _ hjl, if_neg (fun e => hjk e.symm), show σ.getD k .dead = .val tk mk xk from hk]
    rfl
  have hroot1 : Rooted w (lk (setS σ j .dead)) (vl a) k p ⟨.list tl, .l me', xs'⟩ (some (b, off)) [.slice a1 (List.length xs') cap] := by
    obtain ⟨t0, m0, x0, cs0, e1, e2, e3, e4, e5, e6⟩ := hroot
    have e1' : lk σ k = .val t0 m0 x0 := e1
    exact ⟨t0, m0, x0, cs0, by rw [hk1, ← hk]; exact e1', e2, e3, e4, e5, e6⟩
  obtain ⟨A', hA'n, hA'w, hrep, hlaid⟩ := root_rep hst1 hroot1
  obtain ⟨hbA', c, e, fr, hc, hfr, hsz, hcs⟩ := hlaid b off rfl
  -- what is stored is such a list
  have hTy := htab.ty _ _ hT
  have hrepv : ∃ m x An, Rep w E.F (.list tl) m x [a.eval (.tmp j)] An := by
    obtain ⟨ow, how, _, _, hsl⟩ := hst.slots
    -- blocks of the root and of the list behind it are apart
    obtain ⟨Bk, hBk1, hBk2, hBk3⟩ := hsl k
    obtain ⟨Bj, hBj1, hBj2, hBj3⟩ := hsl j
    obtain ⟨t0, m0, x0, cs0, f1, f2, f3, f4, f5⟩ := rooted_rep (look := lk σ) (vs := vl a) hBk3 hroot
    obtain ⟨Actx, Af, hp, hv', _, _⟩ := path_law w E.F p t0 m0 x0 cs0 none Bk _ (some (b, off)) _ f3 hBk1 (laid_none _ _ _ _) f4 f5
    have hBjr : RepSlot w E.F (lk σ) (vl a) (lk σ j) (vl a j) Bj := hBj3
    rw [hj] at hBjr
    obtain ⟨me2, xs2, cur2, a2, cap2, hroot3, hn2, halts2⟩ := hBjr
    have hsame2 : me2 = me' ∧ HEq xs2 xs' ∧ a2 = a1 ∧ cap2 = cap := by
      obtain ⟨t0, m0, x0, cs0, e1, _, e3, e4, e5, e6⟩ := hroot
      obtain ⟨t1, m1, x1, cs1, f1, _, f3, f4, f5, f6⟩ := hroot3
      have e1' : lk σ k = .val t0 m0 x0 := e1
      rw [e1'] at f1
      simp only [Slot.val.injEq] at f1
      obtain ⟨rfl, rfl, f1'⟩ := f1
      obtain rfl := eq_of_heq f1'
      obtain rfl := wrapV_inj e4 f4 (e3.symm.trans f3)
      rw [e5] at f5
      rw [e6] at f6
      simp only [Option.some.injEq, TV.mk.injEq, true_and, Md.l.injEq, Prod.mk.injEq, List.cons.injEq, Value.slice.injEq, and_true] at f5 f6
      exact ⟨f5.1.symm, f5.2.symm, f6.2.1.symm, f6.2.2.2.symm⟩
    obtain ⟨rfl, hxx, rfl, rfl⟩ := hsame2
    obtain rfl := eq_of_heq hxx
    have hAfn := (List.nodup_append.1 (hp.nodup_iff.1 hBk1)).2.1
    obtain ⟨An, g1, _, _⟩ := app_val hv' hAfn hBj1 (fun c hc hm => by
      have h1 := hBk2 c (hp.mem_iff.2 (by simp [hc]))
      rw [hBj2 c hm] at h1
      exact hjk (Option.some.inj h1)) hn2 halts2
    exact ⟨_, _, An, g1⟩
  obtain ⟨m1, x1, An1, hrv⟩ := hrepv
  obtain ⟨w', h1, h2, h3, h4⟩ := run_storeVar_at (P := E.P) hTy hc hfr hsz hrv
  have hval : wrapV (.list tl) [a.eval (.tmp j)] = a.eval (.tmp j) := rfl
  rw [hval] at h1
  refine ⟨w', ?_, ?_⟩
  · simp only [execOp, ho, hu, Sem.run_bind, h1, Result.andThen_ok]
    rfl
  · refine write_stateX hst1 (by rw [setS_length]; exact lk_lt (by rw [hk]; simp)) hroot1 hk1 (nv := ⟨.list tl, .l me', real0.app tl xs' ys⟩) rfl hset h2 h3 h4 ?_
    intro Af hAfn hAfd hAfs hv'
    obtain ⟨An, g1, g2, g3⟩ := app_val hv' hAfn (by simpa using repSt_nodup hst1) (fun c hc => (hAfd c hc).1) hn halts
    refine ⟨An, ?_, g2, g3⟩
    exact rep_frame (fun _ h => h) (fun c hc => hAfs c (.inl hc)) _ _ _ _ _ (fun c hc => hAfs c (.inr (g3 c hc))) g1
end Go.Proofs.Ytaachifkgcdeoaa.Sy

namespace Go.Proofs.Ytaachifkgcdeoaa.Sy
open Go.RowKit
set_option linter.unusedSimpArgs false
set_option linter.unusedVariables false

def noAppOn (k : Nat) (σ : List Slot) : Bool := σ.all fun s => !(s.isApp && s.deps.any fun j => Nat.beq j k)
theorem lk_all {f : Slot → Bool} {σ : List Slot} (h : σ.all f = true) (h0 : f .dead = true) (j : Nat) : f (lk σ j) = true := by
  by_cases hj : j < σ.length
  · have : lk σ j = σ[j] := by simp [lk, List.getD_eq_getElem?_getD, List.getElem?_eq_getElem hj]
    rw [this]
    exact List.all_eq_true.1 h _ (List.getElem_mem hj)
  · have : lk σ j = .dead := by simp [lk, List.getD_eq_getElem?_getD, List.getElem?_eq_none (Nat.le_of_not_lt hj)]
    rw [this]
    exact h0
theorem noAppOn_out {k : Nat} {σ : List Slot} (h : noAppOn k σ = true) : ∀ j, k ∈ (lk σ j).deps → (lk σ j).isApp = false := by
  intro j hm
  have := lk_all h (by rfl) j
  simp only [Bool.not_eq_true', Bool.and_eq_false_iff] at this
  rcases this with h | h
  · exact h
  · have := List.any_eq_false.1 h k hm
    simp at this

/-- The list at the end of a copy's path, and the way it is appended to: the variable, its value, the list. -/
def aAppPX (A : Alg) (tab : Tab) (σ : List Slot) (T T' : TypeId) (kx : Nat) (y : Operand) (d : Nat) : Option (List Prop × List Slot) :=
  if Nat.beq T T' then (match tyT tab T with
    | some (.list te) => match lk σ kx with
      | .bor k (.d :: p) => match takeO tab T σ y with
        | some (⟨.list ty, .l my, ys⟩, σ1) => match lk σ1 kx with
          | .bor k (.d :: p) => match lk σ1 k with
            | .val tk mk xk => match getP A tk mk xk (.d :: p) with
              | some ⟨.list tl, .l me, xl⟩ => match castT (.list ty) (.list te) ys, castT (.list tl) (.list te) xl with
                | some ys, some xs => if Md.beq me my then (match setP A ⟨.list te, .l me, xs⟩ (.d :: p) tk mk xk with
                  | some (mN, _) => if Md.beq mN mk && noAppOn k σ1 then (match σ1[d]? with
                    | some _ => some ([A.smL (A.pls (A.len te xs) (A.len te ys))], setS σ1 d (.app k (.d :: p) te ys))
                    | none => none) else none
                  | none => none) else none
                | _, _ => none
              | _ => none
            | _ => none
          | _ => none
        | _ => none
      | _ => none
    | _ => none) else none

theorem bor_rooted {E : Env} {σ : List Slot} {a : Act} {w : World} {fl : List Nat} (h : RepSt E σ a w fl) {kx k : Nat} {p : List Stp} (hx : lk σ kx = .bor k p) {tk : PT} {mk : Md} {xk : tk.den} (hk : lk σ k = .val tk mk xk) {v : TV} (hg : getP real0 tk mk xk p = some v) :
    ∃ cur cs', Rooted w (lk σ) (vl a) k p v cur cs' ∧ vl a kx = wrapV v.t cs' := by
  obtain ⟨ow, how, _, _, hsl⟩ := h.slots
  obtain ⟨B, _, _, hb⟩ := hsl kx
  rw [show σ.getD kx .dead = .bor k p from hx] at hb
  obtain ⟨_, v', cur, cs', hr, hu⟩ := hb
  have hv : v' = v := by
    obtain ⟨t0, m0, x0, cs0, e1, _, _, _, e5, _⟩ := hr
    have e1' : lk σ k = .val t0 m0 x0 := e1
    rw [hk] at e1'
    simp only [Slot.val.injEq] at e1'
    obtain ⟨rfl, rfl, e1'⟩ := e1'
    obtain rfl := eq_of_heq e1'
    rw [hg] at e5
    exact (Option.some.inj e5).symm
  subst hv
  exact ⟨cur, cs', hr, hu⟩

theorem aAppPX_sound {E : Env} {tab : Tab} (htab : TabOk E.P tab) {σ : List Slot} {a : Act} {w : World} (hst : RepState E σ a w) {o : Oper} {T T' : TypeId} {kx : Nat} {y : Operand} {d : Nat} (ho : o.op = .call ⟨.builtin .append, ⟨[.tmp kx, y]⟩, ⟨[T, T']⟩⟩) {σ' : List Slot} {obs : List Prop}
    (h : aAppPX real0 tab σ T T' kx y d = some (obs, σ')) (hobs : obsAll obs) : ∃ v w', (execOp a.eval o).run E.P w = .ok (.value v) w' ∧ RepState E σ' (a.put (some d) v) w' := by
  unfold aAppPX at h
  split at h
  case isFalse => cases h
  rename_i hTT
  obtain rfl : T = T' := Nat.eq_of_beq_eq_true hTT
  split at h
  case h_2 => cases h
  rename_i te hT
  split at h
  case h_2 => cases h
  split at h
  case h_2 => cases h
  rename_i ty my ys0 σ1 hty
  split at h
  case h_2 => cases h
  rename_i k p hkx
  split at h
  case h_2 => cases h
  rename_i tk mk xk hk
  split at h
  case h_2 => cases h
  rename_i tl me xl hg
  split at h
  case h_2 => cases h
  rename_i ys xs hcy hcx
  split at h
  case isFalse => cases h
  rename_i hmm
  obtain rfl := Md.eq_of_beq hmm
  split at h
  case h_2 => cases h
  rename_i mN xN hset
  split at h
  case isFalse => cases h
  rename_i hb
  simp only [Bool.and_eq_true] at hb
  obtain ⟨hmN, hna⟩ := hb
  obtain rfl := Md.eq_of_beq hmN
  split at h
  case h_2 => cases h
  rename_i hdl
  simp only [Option.some.injEq, Prod.mk.injEq] at h
  obtain ⟨rfl, rfl⟩ := h
  obtain ⟨e1, rfl⟩ := castT_some hcy
  obtain ⟨e2, rfl⟩ := castT_some hcx
  simp only [PT.list.injEq] at e1 e2
  subst e2
  subst e1
  dsimp only at hobs hset hg ⊢
  clear hcx hcy
  obtain ⟨cs, fl, h1, h2, h3, h4, h5⟩ := takeO_ok hst hty
  rw [List.append_nil] at h3 h4
  dsimp only at h1 h2
  simp only [Rep] at h1
  obtain ⟨hlen2, a2, cap2, rfl, hor2⟩ := h1
  obtain ⟨news, By, hL2, hR2, hBn, hBf⟩ : ∃ news By, Lies w a2 (List.length ys0) ty.size news ∧ RepL (Rep w E.F ty me) ys0 news By ∧ By.Nodup ∧ ∀ b ∈ By, b ∈ fl := by
    rcases hor2 with ⟨rfl, rfl, rfl⟩ | ⟨b, off, c, e, fr, A', rfl, rfl, hb, hfree, hcap, hsz, hr⟩
    · exact ⟨[], [], .inl ⟨rfl, rfl⟩, ⟨rfl, rfl⟩, List.nodup_nil, fun b hb => by simp at hb⟩
    · refine ⟨_, A', .inr ⟨b, off, c, e, fr, rfl, hb, ?_, rfl⟩, hr, (List.nodup_cons.1 h3).2, fun b' hb' => by simp [hb']⟩
      have := Nat.mul_le_mul_right ty.size hcap
      omega
  obtain ⟨cur, cs', hroot, hval⟩ := bor_rooted h4 hkx hk hg
  have hn : List.length xl + List.length ys0 ≤ 4294967296 := by
    have := hobs _ (List.mem_singleton.2 rfl)
    have this : ((List.length xl : Nat) : Int) + ((List.length ys0 : Nat) : Int) ≤ 4294967296 := this
    omega
  exact app_core htab h4 ho hT hk hroot hval hset h2 hL2 hR2 hBn hBf hn (List.getElem?_eq_some_iff.1 hdl).1 (noAppOn_out hna)

/-- The same, of flat parts that are looked at. -/
def aAppP (A : Alg) (tab : Tab) (look : Nat → Slot) (o : Oper) : Option (List Prop × Nat × Slot) :=
  match o.guard with
  | some _ => none
  | none => match o.op with
    | .call ⟨.builtin .append, ⟨[.tmp kx, y]⟩, ⟨[T, T']⟩⟩ => if Nat.beq T T' then (match tyT tab T with
      | some (.list te) => match look kx with
        | .bor k (.d :: p) => match look k with
          | .val tk mk xk => match getP A tk mk xk (.d :: p) with
            | some ⟨.list tl, .l me, xl⟩ => match castT (.list tl) (.list te) xl with
              | some xs => if Md.beq me .n && ownT te .n then (match setP A ⟨.list te, .l me, xs⟩ (.d :: p) tk mk xk with
                | some (mN, _) => if Md.beq mN mk then (match opdOf tab T y with
                  | some yo => match seen A look yo (.list te) (opd look [] yo) with
                    | some ys => some ([A.smL (A.pls (A.len te xs) (A.len te ys))], k, .app k (.d :: p) te ys)
                    | none => none
                  | none => none) else none
                | none => none) else none
              | none => none
            | _ => none
          | _ => none
        | _ => none
      | _ => none) else none
    | _ => none

theorem aAppP_sound {E : Env} {tab : Tab} (htab : TabOk E.P tab) {σ : List Slot} {a : Act} {w : World} (hst : RepState E σ a w) {look : Nat → Slot} (hlk : Looks look σ) {o : Oper} {k d : Nat} {s : Slot} {obs : List Prop}
    (h : aAppP real0 tab look o = some (obs, k, s)) (hobs : obsAll obs) (hd : d < σ.length) (hna : ∀ j, k ∈ (lk σ j).deps → (lk σ j).isApp = false) : o.guard = none ∧ ∃ v w', (execOp a.eval o).run E.P w = .ok (.value v) w' ∧ RepState E (setS σ d s) (a.put (some d) v) w' := by
  unfold aAppP at h
  split at h
  case h_1 => cases h
  rename_i hgd
  split at h
  case h_2 => cases h
  rename_i kx y T T' ho
  split at h
  case isFalse => cases h
  rename_i hTT
  obtain rfl : T = T' := Nat.eq_of_beq_eq_true hTT
  split at h
  case h_2 => cases h
  rename_i te hT
  split at h
  case h_2 => cases h
  rename_i k' p hkx
  split at h
  case h_2 => cases h
  rename_i tk mk xk hk
  split at h
  case h_2 => cases h
  rename_i tl me xl hg
  split at h
  case h_2 => cases h
  rename_i xs hcx
  split at h
  case isFalse => cases h
  rename_i hfl
  simp only [Bool.and_eq_true] at hfl
  obtain ⟨hme, hflat⟩ := hfl
  obtain rfl := Md.eq_of_beq hme
  split at h
  case h_2 => cases h
  rename_i mN xN hset
  split at h
  case isFalse => cases h
  rename_i hmN
  obtain rfl := Md.eq_of_beq hmN
  split at h
  case h_2 => cases h
  rename_i yo hyo
  split at h
  case h_2 => cases h
  rename_i ys hseen
  simp only [Option.some.injEq, Prod.mk.injEq] at h
  obtain ⟨rfl, rfl, rfl⟩ := h
  obtain ⟨e2, rfl⟩ := castT_some hcx
  simp only [PT.list.injEq] at e2
  subst e2
  dsimp only at hobs hset hg ⊢
  clear hcx
  have hsee : ∀ j u, look j = u → u ≠ .dead → lk σ j = u := fun j u e hne => by
    rcases hlk j with e' | e'
    · rw [e] at e'; exact absurd e' hne
    · exact e'.symm.trans e
  have hkx' := hsee kx _ hkx (by simp)
  have hk' := hsee k' _ hk (by simp)
  have hgn : holdsG (vl a) [] := fun g hg => by simp at hg
  obtain ⟨Ay, hAy, hAyw, hry⟩ := opd_rep hst hlk hgn (opdOf_ok hyo)
  obtain ⟨csy, hrepy, huy⟩ := seen_rep hst hlk hAy hAyw hry hseen
  simp only [Rep] at hrepy
  obtain ⟨_, hlen2, a2, cap2, rfl, _, hor2⟩ := hrepy
  obtain ⟨news, hL2, hR2⟩ : ∃ news, Lies w a2 (List.length ys) tl.size news ∧ RepL (Rep w E.F tl .n) ys news [] := by
    rcases hor2 with rfl | ⟨b, off, c, e, fr, rfl, _, hb, hsz, hr⟩
    · exact ⟨[], .inl ⟨rfl, rfl⟩, ⟨rfl, rfl⟩⟩
    · exact ⟨_, .inr ⟨b, off, c, e, fr, rfl, hb, hsz, rfl⟩, (flat_anyL hflat _ _ _ hr).2⟩
  obtain ⟨cur, cs', hroot, hval⟩ := bor_rooted hst hkx' hk' hg
  have hn : List.length xl + List.length ys ≤ 4294967296 := by
    have := hobs _ (List.mem_singleton.2 rfl)
    have this : ((List.length xl : Nat) : Int) + ((List.length ys : Nat) : Int) ≤ 4294967296 := this
    omega
  exact ⟨hgd, app_core htab hst ho hT hk' hroot hval hset huy hL2 hR2 List.nodup_nil (fun b hb => by simp at hb) hn hd hna⟩

/-- A list that is handed over to a variable of its own kind. -/
def aSteal (σ : List Slot) (k d : Nat) : Option (List Prop × List Slot) :=
  match lk σ d with
  | .val _ m0 _ => if m0.owned then (match lk σ k with
    | .bor r [] => if Nat.beq r d then none else match takeO [] 0 σ (.tmp k) with
      | some (⟨t, m, x⟩, σ1) => match σ1[d]? with
        | some _ => some ([], setS σ1 d (.val t m x))
        | none => none
      | none => none
    | _ => none) else none
  | _ => none
theorem aSteal_sound {E : Env} {σ : List Slot} {a : Act} {w : World} (hst : RepState E σ a w) {k d : Nat} {σ' : List Slot} {obs : List Prop} (h : aSteal σ k d = some (obs, σ')) : RepState E σ' (a.put (some d) (a.tmps.getD k undef)) w := by
  unfold aSteal at h
  split at h
  case h_2 => cases h
  split at h
  case isFalse => cases h
  split at h
  case h_2 => cases h
  split at h
  case isTrue => cases h
  split at h
  case h_2 => cases h
  rename_i t m x σ1 htk
  split at h
  case h_2 => cases h
  rename_i hdl
  simp only [Option.some.injEq, Prod.mk.injEq] at h
  obtain ⟨_, rfl⟩ := h
  obtain ⟨cs, fl, h1, h2, h3, h4, h5⟩ := takeO_ok hst htk
  rw [List.append_nil] at h3 h4
  obtain ⟨_, _, _, _, h6⟩ := set_state h4 (fun _ _ => rfl) h4.below (Nat.le_refl _) (List.getElem?_eq_some_iff.1 hdl).1 (A := fl) (s := .val t m x) (v := a.tmps.getD k undef) h3 (fun b hb => .inr hb) ⟨cs, h1, h2⟩
  exact h6 [] List.nodup_nil (fun b hb => by simp at hb)

/-- A store of what is handed over. -/
def aStoreX (A : Alg) (tab : Tab) (T : TypeId) (σ : List Slot) (x y : Operand) : Option (List Prop × List Slot) :=
  match tyT tab T with
  | some t => match takeO tab T σ y with
    | some (nv, σ1) => match opdOf tab 0 x with
      | some xo => match adrS (lk σ1) xo (opd (lk σ1) [] xo) with
        | .ref k p => match lk σ1 k with
          | .val tk mk xk => match getP A tk mk xk p with
            | some v => if PT.beq v.t t && PT.beq nv.t t then (match setP A nv p tk mk xk with
              | some (mN, xN) => some ([], setV σ1 k p (.val tk mN xN))
              | none => none) else none
            | none => none
          | _ => none
        | _ => none
      | none => none
    | none => none
  | none => none
theorem aStoreX_sound {E : Env} {tab : Tab} (htab : TabOk E.P tab) {σ : List Slot} {a : Act} {w : World} (hst : RepState E σ a w) {o : Oper} {T : TypeId} {x y : Operand} (ho : o.op = .store T x y) {σ' : List Slot} {obs : List Prop}
    (h : aStoreX real0 tab T σ x y = some (obs, σ')) : ∃ w', (execOp a.eval o).run E.P w = .ok .skip w' ∧ RepState E σ' a w' := by
  unfold aStoreX at h
  split at h
  case h_2 => cases h
  rename_i t hT
  split at h
  case h_2 => cases h
  rename_i nv σ1 hv
  split at h
  case h_2 => cases h
  rename_i xo hxo
  split at h
  case h_2 => cases h
  rename_i k p hx
  split at h
  case h_2 => cases h
  rename_i tk mk xk hk
  split at h
  case h_2 => cases h
  rename_i v hg
  split at h
  case isFalse => cases h
  rename_i hb
  split at h
  case h_2 => cases h
  rename_i mN xN hset
  simp only [Option.some.injEq, Prod.mk.injEq] at h
  obtain ⟨_, rfl⟩ := h
  simp only [Bool.and_eq_true] at hb
  have hvt := PT.eq_of_beq hb.1
  have hnt := PT.eq_of_beq hb.2
  obtain ⟨cs, fl, hrep, hval, hfl, hst1, _⟩ := takeO_ok hst hv
  rw [List.append_nil] at hfl hst1
  obtain ⟨A, hxr⟩ := adr_rep (repSt_nil hst1) (look := lk σ1) (fun k => .inr rfl) (gl := []) (fun g hg => by simp at hg) (opdOf_ok hxo)
  rw [hx] at hxr
  obtain ⟨b, off, cs', hu, hroot⟩ := ref_rooted_fl hst1 hxr hk hg
  obtain ⟨A', hn, hA', hrep', hlaid⟩ := root_rep hst1 hroot
  obtain ⟨_, c, e, fr, hc, hfr, hsz, hcs⟩ := hlaid b off rfl
  have hTy := htab.ty _ _ hT
  obtain ⟨nt, nm, nx⟩ := nv
  dsimp only at hnt hrep hval
  subst hnt
  obtain ⟨w', h1, h2, h3, h4⟩ := run_storeVar_at (P := E.P) hTy hc hfr (by rw [← hvt]; exact hsz) hrep
  refine ⟨w', ?_, ?_⟩
  · simp only [execOp, ho, hu, hval, Sem.run_bind, h1, Result.andThen_ok]
    rfl
  · refine write_stateX hst1 (lk_lt (by rw [hk]; simp)) hroot hk (nv := ⟨nt, nm, nx⟩) hvt.symm hset h2 h3 h4 ?_
    intro Af hAfn hAfd hAfs hv'
    exact ⟨fl, rep_frame (fun _ h => h) (fun c hc => hAfs c (.inl hc)) _ _ _ _ _ (fun c hc => hAfs c (.inr (.inl hc))) hrep, hfl, fun c hc => .inl hc⟩

def stepX1 (A : Alg) (tab : Tab) (σ : List Slot) (o : Oper) : Option (List Prop × List Slot) :=
  match stepX0 A tab σ o with
  | some r => some r
  | none => match o.guard with
    | some _ => none
    | none => match o.op with
      | .call ⟨.builtin .append, ⟨[.tmp kx, y]⟩, ⟨[T, T']⟩⟩ => match o.dst with
        | some d => match aAppX A tab σ T T' (.tmp kx) y d with
          | some r => some r
          | none => match aAppPX A tab σ T T' kx y d with
            | some r => some r
            | none => match aAppP A tab (lk σ) o with
              | some (obs, k, s) => if noAppOn k σ then (match σ[d]? with
                | some _ => some (obs, setS σ d s)
                | none => none) else none
              | none => none
        | none => none
      | .assign (.tmp k) => match o.dst with
        | some d => aSteal σ k d
        | none => none
      | .build T ⟨ps⟩ => match o.dst with
        | some d => aBuildX A tab σ T ps d
        | none => none
      | .buildSlice T n ⟨ps⟩ => match o.dst with
        | some d => aBuildSX A tab σ T n ps d
        | none => none
      | .store T x y => match o.dst with
        | none => match aStoreApp A tab T σ x y with
          | some r => some r
          | none => aStoreX A tab T σ x y
        | some _ => none
      | _ => none

theorem stepX1_of0 {A : Alg} {tab : Tab} {σ : List Slot} {o : Oper} {r : List Prop × List Slot} (h : stepX0 A tab σ o = some r) : stepX1 A tab σ o = some r := by simp only [stepX1, h]

theorem stepX1_sound {E : Env} {tab : Tab} (htab : TabOk E.P tab) {ops : Array Oper} {σ : List Slot} {a : Act} {w : World} (hst : RepState E σ a w) {i : Nat} {o : Oper} (hi : ops[i]? = some o) {σ' : List Slot} {obs : List Prop}
    (h : stepX1 real0 tab σ o = some (obs, σ')) (hobs : obsAll obs) {next : Act → World → Prop} {Q : Exit → Act → World → Prop} (hK : ∀ a' w', RepState E σ' a' w' → next a' w') : wpOp E.P ops Q i next a w := by
  unfold stepX1 at h
  split at h
  · rename_i r hr
    obtain rfl := Option.some.inj h
    exact stepX0_sound htab hst hi hr hobs hK
  split at h
  · cases h
  rename_i hg
  have key : ∀ {d : Nat}, o.dst = some d → (∃ v w', (execOp a.eval o).run E.P w = .ok (.value v) w' ∧ RepState E σ' (a.put (some d) v) w') → wpOp E.P ops Q i next a w := by
    rintro d hd ⟨v, w', h1, h2⟩
    unfold wpOp
    rw [hi]
    dsimp only
    rw [if_pos (by simp [Region.wanted, hg])]
    refine .inl ?_
    unfold Oper.wp
    rw [h1]
    show next (a.put o.dst v) w'
    rw [hd]
    exact hK _ _ h2
  split at h
  · rename_i kx y T T' ho
    split at h
    case h_2 => cases h
    rename_i d hd
    split at h
    · rename_i r hr
      obtain rfl := Option.some.inj h
      exact key hd (aAppX_sound htab hst ho hr hobs)
    split at h
    · rename_i r hr
      obtain rfl := Option.some.inj h
      exact key hd (aAppPX_sound htab hst ho hr hobs)
    split at h
    case h_2 => cases h
    rename_i obs' k s hp
    split at h
    case isFalse => cases h
    rename_i hna
    split at h
    case h_2 => cases h
    rename_i hdl
    simp only [Option.some.injEq, Prod.mk.injEq] at h
    obtain ⟨rfl, rfl⟩ := h
    exact key hd (aAppP_sound htab hst (fun k => .inr rfl) hp hobs (List.getElem?_eq_some_iff.1 hdl).1 (noAppOn_out hna)).2
  · rename_i k ho
    split at h
    case h_2 => cases h
    rename_i d hd
    exact key hd ⟨_, w, by simp [execOp, ho, Act.eval], aSteal_sound hst h⟩
  · rename_i T ps ho
    split at h
    case h_2 => cases h
    rename_i d hd
    obtain ⟨v, h1, h2⟩ := aBuildX_sound htab hst ho h
    exact key hd ⟨v, w, h1, h2⟩
  · rename_i T n ps ho
    split at h
    case h_2 => cases h
    rename_i d hd
    exact key hd (aBuildSX_sound htab hst ho h)
  · rename_i T x y ho
    split at h
    case h_2 => cases h
    rename_i hd
    obtain ⟨w', h1, h2⟩ : ∃ w', (execOp a.eval o).run E.P w = .ok .skip w' ∧ RepState E σ' a w' := by
      split at h
      · rename_i r hr
        obtain rfl := Option.some.inj h
        exact aStoreApp_sound htab hst ho hr hobs
      · exact aStoreX_sound htab hst ho h
    unfold wpOp
    rw [hi]
    dsimp only
    rw [if_pos (by simp [Region.wanted, hg])]
    refine .inl ?_
    unfold Oper.wp
    rw [h1]
    show next (a.put o.dst undef) w'
    rw [hd]
    exact hK _ _ h2
  · cases h

/-! ### As many slots as before -/
theorem takeO_len {tab : Tab} {T : TypeId} {σ σ1 : List Slot} {o : Operand} {v : TV} (h : takeO tab T σ o = some (v, σ1)) : σ1.length = σ.length := by
  unfold takeO at h
  split at h
  · simp only [Option.some.injEq, Prod.mk.injEq] at h
    rw [h.2]
  · split at h
    · split at h
      · simp only [Option.some.injEq, Prod.mk.injEq] at h
        rw [← h.2, setS_length]
      · split at h
        · simp only [Option.some.injEq, Prod.mk.injEq] at h
          rw [h.2]
        · cases h
    · split at h
      case h_2 => cases h
      split at h
      · simp only [Option.some.injEq, Prod.mk.injEq] at h
        rw [← h.2, setS_length]
      · cases h
    · split at h
      case h_2 => cases h
      simp only [Option.some.injEq, Prod.mk.injEq] at h
      rw [← h.2, setS_length]
    · cases h
  · cases h
theorem takeP_len {tab : Tab} : ∀ {ps : List (Nat × Operand)} {σ σ1 : List Slot} {vs : List (Nat × TV)}, takeP tab ps σ = some (vs, σ1) → σ1.length = σ.length
  | [], σ, σ1, vs, h => by
    simp only [takeP, Option.some.injEq, Prod.mk.injEq] at h
    rw [h.2]
  | (i, o) :: ps, σ, σ1, vs, h => by
    simp only [takeP] at h
    split at h
    case h_2 => cases h
    rename_i v σ2 ht
    split at h
    case h_2 => cases h
    rename_i vs' σ3 hp
    simp only [Option.some.injEq, Prod.mk.injEq] at h
    rw [← h.2, takeP_len hp, takeO_len ht]
theorem stepX1_len' {A : Alg} {tab : Tab} {σ σ' : List Slot} {o : Oper} {obs : List Prop} (h0 : ∀ {σ' obs}, stepX0 A tab σ o = some (obs, σ') → σ'.length = σ.length) (h : stepX1 A tab σ o = some (obs, σ')) : σ'.length = σ.length := by
  unfold stepX1 at h
  split at h
  · rename_i r hr
    obtain rfl := Option.some.inj h
    exact h0 hr
  split at h
  · cases h
  split at h
  · split at h
    case h_2 => cases h
    split at h
    · rename_i r hr
      obtain rfl := Option.some.inj h
      unfold aAppX at hr
      split at hr
      case isFalse => cases hr
      split at hr
      case h_2 => cases hr
      split at hr
      case h_2 => cases hr
      rename_i h1
      split at hr
      case h_2 => cases hr
      rename_i h2
      split at hr
      case h_2 => cases hr
      split at hr
      case isFalse => cases hr
      split at hr
      case h_2 => cases hr
      simp only [Option.some.injEq, Prod.mk.injEq] at hr
      rw [← hr.2, setS_length, takeO_len h2, takeO_len h1]
    split at h
    · rename_i r hr
      obtain rfl := Option.some.inj h
      unfold aAppPX at hr
      split at hr
      case isFalse => cases hr
      split at hr
      case h_2 => cases hr
      split at hr
      case h_2 => cases hr
      split at hr
      case h_2 => cases hr
      rename_i h1
      split at hr
      case h_2 => cases hr
      split at hr
      case h_2 => cases hr
      split at hr
      case h_2 => cases hr
      split at hr
      case h_2 => cases hr
      split at hr
      case isFalse => cases hr
      split at hr
      case h_2 => cases hr
      split at hr
      case isFalse => cases hr
      split at hr
      case h_2 => cases hr
      simp only [Option.some.injEq, Prod.mk.injEq] at hr
      rw [← hr.2, setS_length, takeO_len h1]
    split at h
    case h_2 => cases h
    split at h
    case isFalse => cases h
    split at h
    case h_2 => cases h
    simp only [Option.some.injEq, Prod.mk.injEq] at h
    rw [← h.2, setS_length]
  · split at h
    case h_2 => cases h
    unfold aSteal at h
    split at h
    case h_2 => cases h
    split at h
    case isFalse => cases h
    split at h
    case h_2 => cases h
    split at h
    case isTrue => cases h
    split at h
    case h_2 => cases h
    rename_i h1
    split at h
    case h_2 => cases h
    simp only [Option.some.injEq, Prod.mk.injEq] at h
    rw [← h.2, setS_length, takeO_len h1]
  · split at h
    case h_2 => cases h
    unfold aBuildX at h
    split at h
    case h_2 => cases h
    split at h
    case h_2 => cases h
    rename_i h1
    split at h
    case h_2 => cases h
    split at h
    case isFalse => cases h
    split at h
    case h_2 => cases h
    simp only [Option.some.injEq, Prod.mk.injEq] at h
    rw [← h.2, setS_length, takeP_len h1]
  · split at h
    case h_2 => cases h
    unfold aBuildSX at h
    split at h
    case h_2 => cases h
    split at h
    case h_2 => cases h
    rename_i h1
    split at h
    case isFalse => cases h
    split at h
    case h_2 => cases h
    split at h
    case h_2 => cases h
    simp only [Option.some.injEq, Prod.mk.injEq] at h
    rw [← h.2, setS_length, takeP_len h1]
  · split at h
    case h_2 => cases h
    split at h
    · rename_i r hr
      obtain rfl := Option.some.inj h
      unfold aStoreApp at hr
      split at hr
      case h_2 => cases hr
      split at hr
      case h_2 => cases hr
      split at hr
      case h_2 => cases hr
      split at hr
      case h_2 => cases hr
      split at hr
      case isFalse => cases hr
      split at hr
      case h_2 => cases hr
      split at hr
      case h_2 => cases hr
      split at hr
      case h_2 => cases hr
      split at hr
      case h_2 => cases hr
      split at hr
      case h_2 => cases hr
      split at hr
      case isFalse => cases hr
      split at hr
      case h_2 => cases hr
      simp only [Option.some.injEq, Prod.mk.injEq] at hr
      rw [← hr.2]
      simp [setV, setS_length]
    · unfold aStoreX at h
      split at h
      case h_2 => cases h
      split at h
      case h_2 => cases h
      rename_i h1
      split at h
      case h_2 => cases h
      split at h
      case h_2 => cases h
      split at h
      case h_2 => cases h
      split at h
      case h_2 => cases h
      split at h
      case isFalse => cases h
      split at h
      case h_2 => cases h
      simp only [Option.some.injEq, Prod.mk.injEq] at h
      rw [← h.2]
      simp [setV, takeO_len h1]
  · cases h
end Go.Proofs.Ytaachifkgcdeoaa.Sy

namespace Go.Proofs.Ytaachifkgcdeoaa.Sy
open Go.RowKit
set_option linter.unusedSimpArgs false
set_option linter.unusedVariables false

/-- A plain value. -/
def plainAt (s : Slot) (t : PT) : Option t.den := match s with
  | .val t' .n x => castT t' t x
  | _ => none
theorem plainAt_rep {w : World} {F : Nat → Prop} {look : Nat → Slot} {vs : Nat → Value} {s : Slot} {t : PT} {x : t.den} {u : Value} {A : List Nat} (h : plainAt s t = some x) (hr : RepSlot w F look vs s u A) : ∃ cs, Rep w F t .n x cs A ∧ u = wrapV t cs := by
  unfold plainAt at h
  split at h
  · obtain ⟨e, rfl⟩ := castT_some h
    subst e
    exact hr
  · cases h

/-- An update of a map of one's own. -/
def aUpd (A : Alg) (tab : Tab) (σ : List Slot) (T : TypeId) (x k v : Operand) : Option (List Prop × List Slot) :=
  match mapT tab T with
  | some (kt, vt) => if keyT kt && scalT vt then (match opdOf tab T x, opdOf tab 0 k, opdOf tab 0 v with
    | some xo, some ko, some vo => match opd (lk σ) [] xo with
      | .mal km => match mapAt (lk σ) kt vt (.mal km) with
        | some m => match plainAt (opd (lk σ) [] ko) kt with
          | some key => match plainAt (opd (lk σ) [] vo) vt with
            | some val => some ([], setS (setS σ km .dead) km (.mp kt vt (A.mset kt vt m key val)))
            | none => none
          | none => none
        | none => none
      | _ => none
    | _, _, _ => none) else none
  | none => none

theorem aUpd_sound {E : Env} {tab : Tab} (htab : TabOk E.P tab) {σ : List Slot} {a : Act} {w : World} (hst : RepState E σ a w) {o : Oper} {T : TypeId} {x k v : Operand} (ho : o.op = .mapUpdate T x k v) {σ' : List Slot} {obs : List Prop}
    (h : aUpd real0 tab σ T x k v = some (obs, σ')) : ∃ w', (execOp a.eval o).run E.P w = .ok .skip w' ∧ RepState E σ' a w' := by
  unfold aUpd at h
  split at h
  case h_2 => cases h
  rename_i kt vt hT
  split at h
  case isFalse => cases h
  rename_i hkv
  simp only [Bool.and_eq_true] at hkv
  split at h
  case h_2 => cases h
  rename_i xo ko vo hx hk hv
  split at h
  case h_2 => cases h
  rename_i km ex
  split at h
  case h_2 => cases h
  rename_i m hm
  split at h
  case h_2 => cases h
  rename_i key ek
  split at h
  case h_2 => cases h
  rename_i val ev
  simp only [Option.some.injEq, Prod.mk.injEq] at h
  obtain ⟨_, rfl⟩ := h
  have hlk : Looks (lk σ) σ := fun k => .inr rfl
  have hgn : holdsG (vl a) [] := fun g hg => by simp at hg
  obtain ⟨B1, _, _, r1⟩ := opd_rep hst hlk hgn (opdOf_ok hx)
  obtain ⟨B2, _, _, r2⟩ := opd_rep hst hlk hgn (opdOf_ok hk)
  obtain ⟨B3, _, _, r3⟩ := opd_rep hst hlk hgn (opdOf_ok hv)
  rw [ex] at r1
  obtain ⟨km', r, es, clk, e1, hkm, hu1, hvk, hb, hrep⟩ := mapAt_rep hst hlk r1 hm
  simp only [Slot.mal.injEq] at e1
  subst e1
  obtain ⟨ck, hck, hu2⟩ := plainAt_rep ek r2
  obtain ⟨cv, hcv, hu3⟩ := plainAt_rep ev r3
  obtain ⟨K, V, hTu, hK, hV, hE, hd⟩ := htab.map _ _ _ hT
  obtain ⟨es', clk', g1, g2⟩ := run_updateM (P := E.P) hTu hK hE hd hkv.1 (key_any hkv.1 hck) (scal_any hkv.2 hcv) hb hrep
  refine ⟨{ w with heap := w.heap.setIfInBounds r (.map es' clk') }, ?_, ?_⟩
  · simp only [execOp, ho, hu1, hu2, hu3, Sem.run_bind, g1, Result.andThen_ok]
    rfl
  have hkl : km < σ.length := lk_lt (by rw [hkm]; simp)
  obtain ⟨Ak, h1, h2, h3, h4⟩ := free_state hst hkl
  simp only [List.append_nil] at h2 h4
  rw [show σ.getD km .dead = .mp kt vt m from hkm] at h1
  obtain ⟨r0, es0, clk0, q1, rfl, q3, q4⟩ := h1
  have q1' : vl a km = .map (some r0) := q1
  rw [hvk] at q1'
  simp only [Value.map.injEq, Option.some.injEq] at q1'
  subst q1'
  obtain ⟨s1, s2⟩ := MapKept.heap_set (o' := .map es' clk') hb
  have st2 := fl_change h4 (w' := { w with heap := w.heap.setIfInBounds r (.map es' clk') }) (fun b hb' => s2 b (by simpa using hb')) (by simp) ⟨rfl, rfl, rfl⟩
  obtain ⟨_, _, _, _, h6⟩ := set_state st2 (fun _ _ => rfl) st2.below (Nat.le_refl _) (d := km) (by rw [setS_length]; exact hkl) (s := .mp kt vt (real0.mset kt vt m key val)) (v := a.tmps.getD km undef) (A := [r]) (by simp) (fun b hb => .inr hb) ⟨r, es', clk', hvk, rfl, s1, g2⟩
  have := h6 [] List.nodup_nil (fun b hb => by simp at hb)
  rwa [put_same] at this

def stepW (A : Alg) (tab : Tab) (σ : List Slot) (o : Oper) : Option (List Prop × List Slot) :=
  match o.guard with
  | some _ => none
  | none => match o.op with
    | .assign (.tmp k) => match o.dst with
      | some d => match lk σ k with
        | .mp kt vt m => match giveS σ k d (.mp kt vt m) with
          | some σ' => some ([], σ')
          | none => none
        | _ => none
      | none => none
    | .mapUpdate T x k v => match o.dst with
      | none => aUpd A tab σ T x k v
      | some _ => none
    | _ => none

theorem stepW_sound {E : Env} {tab : Tab} (htab : TabOk E.P tab) {ops : Array Oper} {σ : List Slot} {a : Act} {w : World} (hst : RepState E σ a w) {i : Nat} {o : Oper} (hi : ops[i]? = some o) {σ' : List Slot} {obs : List Prop}
    (h : stepW real0 tab σ o = some (obs, σ')) (hobs : obsAll obs) {next : Act → World → Prop} {Q : Exit → Act → World → Prop} (hK : ∀ a' w', RepState E σ' a' w' → next a' w') : wpOp E.P ops Q i next a w := by
  unfold stepW at h
  split at h
  · cases h
  rename_i hg
  unfold wpOp
  rw [hi]
  dsimp only
  rw [if_pos (by simp [Region.wanted, hg])]
  refine .inl ?_
  unfold Oper.wp
  split at h
  · rename_i k ho
    split at h
    case h_2 => cases h
    rename_i d hd
    split at h
    case h_2 => cases h
    rename_i kt vt m hk
    split at h
    case h_2 => cases h
    rename_i σ2 hgive
    simp only [Option.some.injEq, Prod.mk.injEq] at h
    obtain ⟨_, rfl⟩ := h
    have : (execOp a.eval o).run E.P w = .ok (.value (a.tmps.getD k undef)) w := by simp [execOp, ho, Act.eval]
    rw [this]
    show next (a.put o.dst _) w
    rw [hd]
    exact hK _ _ (give_state hst hk (.inr (.inr ⟨_, _, _, rfl⟩)) hgive)
  · rename_i T x k v ho
    split at h
    case h_2 => cases h
    rename_i hd
    obtain ⟨w', h1, h2⟩ := aUpd_sound htab hst ho h
    rw [h1]
    show next (a.put o.dst undef) w'
    rw [hd]
    exact hK _ _ h2
  · cases h

theorem give_len' {σ σ' : List Slot} {k d : Nat} {s : Slot} (h : giveS σ k d s = some σ') : σ'.length = σ.length := by
  unfold giveS at h
  split at h
  · cases h
  split at h
  · obtain rfl := Option.some.inj h
    simp [setS_length]
  · cases h
theorem stepW_len {A : Alg} {tab : Tab} {σ σ' : List Slot} {o : Oper} {obs : List Prop} (h : stepW A tab σ o = some (obs, σ')) : σ'.length = σ.length := by
  unfold stepW at h
  split at h
  · cases h
  split at h
  · split at h
    case h_2 => cases h
    split at h
    case h_2 => cases h
    split at h
    case h_2 => cases h
    rename_i hg
    simp only [Option.some.injEq, Prod.mk.injEq] at h
    rw [← h.2, give_len' hg]
  · split at h
    case h_2 => cases h
    unfold aUpd at h
    split at h
    case h_2 => cases h
    split at h
    case isFalse => cases h
    split at h
    case h_2 => cases h
    split at h
    case h_2 => cases h
    split at h
    case h_2 => cases h
    split at h
    case h_2 => cases h
    split at h
    case h_2 => cases h
    simp only [Option.some.injEq, Prod.mk.injEq] at h
    rw [← h.2]
    simp [setS_length]
  · cases h

def stepX (A : Alg) (tab : Tab) (σ : List Slot) (o : Oper) : Option (List Prop × List Slot) :=
  match stepX1 A tab σ o with
  | some r => some r
  | none => stepW A tab σ o
theorem stepX_of0 {A : Alg} {tab : Tab} {σ : List Slot} {o : Oper} {r : List Prop × List Slot} (h : stepX0 A tab σ o = some r) : stepX A tab σ o = some r := by simp only [stepX, stepX1_of0 h]
theorem stepX_sound {E : Env} {tab : Tab} (htab : TabOk E.P tab) {ops : Array Oper} {σ : List Slot} {a : Act} {w : World} (hst : RepState E σ a w) {i : Nat} {o : Oper} (hi : ops[i]? = some o) {σ' : List Slot} {obs : List Prop}
    (h : stepX real0 tab σ o = some (obs, σ')) (hobs : obsAll obs) {next : Act → World → Prop} {Q : Exit → Act → World → Prop} (hK : ∀ a' w', RepState E σ' a' w' → next a' w') : wpOp E.P ops Q i next a w := by
  unfold stepX at h
  split at h
  · rename_i r hr
    obtain rfl := Option.some.inj h
    exact stepX1_sound htab hst hi hr hobs hK
  · exact stepW_sound htab hst hi h hobs hK
theorem stepX_len' {A : Alg} {tab : Tab} {σ σ' : List Slot} {o : Oper} {obs : List Prop} (h0 : ∀ {σ' obs}, stepX0 A tab σ o = some (obs, σ') → σ'.length = σ.length) (h : stepX A tab σ o = some (obs, σ')) : σ'.length = σ.length := by
  unfold stepX at h
  split at h
  · rename_i r hr
    obtain rfl := Option.some.inj h
    exact stepX1_len' h0 hr
  · exact stepW_len h

end Go.Proofs.Ytaachifkgcdeoaa.Sy

namespace Go.Proofs.Ytaachifkgcdeoaa.Sy
open Go.RowKit
set_option linter.unusedSimpArgs false
set_option linter.unusedVariables false

def aAppM (A : Alg) (tab : Tab) (look : Nat → Slot) (T T' : TypeId) (x y : Operand) : Option (List Prop × Nat × Slot) :=
  if Nat.beq T T' then (match tyT tab T with
    | some (.list te) => match opdOf tab T x with
      | some xo => match opdOf tab T y with
        | some yo => match ownL A look xo (opd look [] xo) with
          | some (k, [], L) => match castT (.list L.te) (.list te) L.xs with
            | some xs => if Md.beq L.m .n && ownT te .n then (match seen A look yo (.list te) (opd look [] yo) with
              | some ys => some ([A.smL (A.pls (A.len te xs) (A.len te ys))], k, .val (.list te) (.l .n) (A.app te xs ys))
              | none => none) else none
            | none => none
          | _ => none
        | none => none
      | none => none
    | _ => none) else none

theorem aAppM_sound {E : Env} {tab : Tab} (htab : TabOk E.P tab) {σ : List Slot} {a : Act} {w : World} (hst : RepState E σ a w) {look : Nat → Slot} (hlk : Looks look σ) {o : Oper} {T T' : TypeId} {x y : Operand} {d : Nat} (ho : o.op = .call ⟨.builtin .append, ⟨[x, y]⟩, ⟨[T, T']⟩⟩) {obs : List Prop} {k : Nat} {s : Slot}
    (h : aAppM real0 tab look T T' x y = some (obs, k, s)) (hobs : obsAll obs) (hdl0 : d < σ.length) : ∃ v w', (execOp a.eval o).run E.P w = .ok (.value v) w' ∧ RepState E (setS (setS σ k .dead) d s) (a.put (some d) v) w' := by
  unfold aAppM at h
  split at h
  case isFalse => cases h
  rename_i hTT
  obtain rfl : T = T' := Nat.eq_of_beq_eq_true hTT
  split at h
  case h_2 => cases h
  rename_i te hT
  split at h
  case h_2 => cases h
  rename_i xo hxo
  split at h
  case h_2 => cases h
  rename_i yo hyo
  split at h
  case h_2 => cases h
  rename_i k0 L hown
  obtain ⟨lte, lm, lxs⟩ := L
  split at h
  case h_2 => cases h
  rename_i xs hcast
  split at h
  case isFalse => cases h
  rename_i hfl
  simp only [Bool.and_eq_true] at hfl
  obtain ⟨hlm, hflat⟩ := hfl
  split at h
  case h_2 => cases h
  rename_i ys hseen
  simp only [Option.some.injEq, Prod.mk.injEq] at h
  obtain ⟨rfl, rfl, rfl⟩ := h
  obtain ⟨e, rfl⟩ := castT_some hcast
  dsimp only at e hlm hcast hobs ⊢
  simp only [PT.list.injEq] at e
  subst e
  obtain rfl := Md.eq_of_beq hlm
  have hgn : holdsG (vl a) [] := fun g hg => by simp at hg
  obtain ⟨cur, al, cap, A0, hroot, hxv, _, _⟩ := ownL_rep hst hlk hgn (opdOf_ok hxo) hown
  obtain ⟨t0, m0, x0, cs0, e1, _, e3, e4, e5, e6⟩ := hroot
  simp only [getP, Option.some.injEq] at e5
  simp only [loc, Option.some.injEq, Prod.mk.injEq] at e6
  obtain ⟨_, rfl⟩ := e6
  cases e5
  obtain ⟨Ak, g1, g2, g3, g4⟩ := free_state hst (lk_lt (k := k0) (by rw [e1]; simp))
  rw [show σ.getD k0 .dead = .val (.list lte) (.l .n) lxs from e1] at g1
  obtain ⟨cs, hrepk, huk⟩ := g1
  obtain rfl := wrapV_inj (t := .list lte) (rep_length _ _ _ _ _ hrepk) e4 (huk.symm.trans e3)
  simp only [List.append_nil] at g2 g4
  obtain ⟨Ay, hAy, hAyw, hry⟩ := opd_rep hst hlk hgn (opdOf_ok hyo)
  obtain ⟨csy, hrepy, huy⟩ := seen_rep hst hlk hAy hAyw hry hseen
  simp only [Rep] at hrepk hrepy
  obtain ⟨hlen1, a1, cap1, hcs1, hor1⟩ := hrepk
  simp only [List.cons.injEq, Value.slice.injEq, and_true] at hcs1
  obtain ⟨rfl, _, rfl⟩ := hcs1
  obtain ⟨_, hlen2, a2, cap2, rfl, _, hor2⟩ := hrepy
  have hyv : a.eval y = .slice a2 (List.length ys) cap2 := huy
  have htT := htab.ty _ _ hT
  unfold TyOk at htT
  obtain ⟨_, el, hu, hel⟩ := htT
  obtain ⟨i, i1, i2, i3, i4⟩ := hel.ti.out
  have hpos := hel.ti.pos
  have hone : ∀ (zs : List lte.den) (cs : List Value), RepL (Rep w noF lte .n) zs cs [] → ∀ v ∈ cs, v.oneCell' = true := fun zs cs hr => repL_all (fun x c A h => rep_one lte .n x c A h) _ _ _ hr
  have hlen : ∀ (w0 : World) (zs : List lte.den) (cs : List Value), RepL (Rep w0 noF lte .n) zs cs [] → cs.length = zs.length * lte.size := fun w0 zs cs hr => repL_length (fun x c A h => rep_length lte .n x c A h) _ _ _ hr
  -- the elements that are appended
  obtain ⟨news, hL2, hR2⟩ : ∃ news, Lies w a2 (List.length ys) i.size news ∧ RepL (Rep w noF lte .n) ys news [] := by
    rcases hor2 with rfl | ⟨b, off, c, e, fr, rfl, _, hb, hsz, hr⟩
    · exact ⟨[], .inl ⟨rfl, rfl⟩, ⟨rfl, rfl⟩⟩
    · exact ⟨_, .inr ⟨b, off, c, e, fr, rfl, hb, by rw [i2]; exact hsz, rfl⟩, by rw [i2]; exact (flat_anyL hflat _ _ _ hr).2⟩
  -- the elements that are there
  obtain ⟨olds, hL1, hR1, hA1⟩ : ∃ olds, ((List.length lxs = 0 ∧ cap = 0 ∧ olds = []) ∨ ∃ b off c e' fr, al = some ⟨b, off, none⟩ ∧ w.heap[b]? = some (.cells c e' fr) ∧ Free c fr ∧ List.length lxs ≤ cap ∧ off + cap * i.size ≤ c.size ∧ olds = (c.toList.drop off).take (List.length lxs * i.size)) ∧
      RepL (Rep w noF lte .n) lxs olds [] ∧ ((lxs = [] ∧ cap = 0 ∧ Ak = []) ∨ ∃ b off, al = some ⟨b, off, none⟩ ∧ Ak = [b]) := by
    rcases hor1 with ⟨rfl, rfl, rfl⟩ | ⟨b, off, c, e, fr, A', rfl, rfl, hb, hfree, hcap, hsz, hr⟩
    · exact ⟨[], .inl ⟨rfl, rfl, rfl⟩, ⟨rfl, rfl⟩, .inl ⟨rfl, rfl, rfl⟩⟩
    · obtain ⟨rfl, hr'⟩ := flat_anyL (w' := w) (F' := noF) hflat _ _ _ hr
      exact ⟨_, .inr ⟨b, off, c, e, fr, rfl, hb, hfree, hcap, by rw [i2]; exact hsz, rfl⟩, by rw [i2]; exact hr', .inr ⟨b, off, rfl, rfl⟩⟩
  have hn : List.length lxs + List.length ys ≤ 4294967296 := by
    have := hobs _ (List.mem_singleton.2 rfl)
    have this : ((List.length lxs : Nat) : Int) + ((List.length ys : Nat) : Int) ≤ 4294967296 := this
    omega
  have hzs : (wrapV lte (zeroC lte)).cells.size = i.size := by
    rw [wrapV_cells (zero_rep (w := w) (F := noF) lte), i2]
    simpa using rep_length lte _ _ _ _ (zero_rep (w := w) (F := noF) lte)
  obtain ⟨v', w', hrun, ho1, ho2, ho3, hcases⟩ := run_append_any (P := E.P) (w := w) (ty := o.type) hu i1 i3 hzs (by omega) i4 hL1 hL2 (hone _ _ hR2) hn
  refine ⟨v', w', ?_, ?_⟩
  · simp only [execOp, ho, resolve, invoke, builtin, Sem.run_bind, Sem.run_pure, Result.andThen_ok, List.map_toArray, List.map_cons, List.map_nil, hxv, hyv]
    exact Eq.trans (congrArg (fun r => Result.andThen r fun a w' => Result.ok (Next.value a) w') hrun) rfl
  have hdl' : d < (setS σ k0 .dead).length := by rw [setS_length]; exact hdl0
  have hsum : List.length (real0.app lte lxs ys) = List.length lxs + List.length ys := List.length_append
  have hol := hlen w _ _ hR1
  have hnl := hlen w _ _ hR2
  rcases hcases with ⟨hn2, rfl, rfl⟩ | ⟨b, off, rfl, hroom, rfl, hsz, hwr⟩ | ⟨capn, c, rfl, hcap, hcsz, htake, hheap⟩
  · -- nothing is appended
    have hys : ys = [] := List.eq_nil_of_length_eq_zero hn2
    subst hys
    obtain ⟨_, _, _, _, h6⟩ := set_state g4 (fun _ _ => rfl) g4.below (Nat.le_refl _) hdl' (A := Ak) (s := .val (.list lte) (.l .n) (real0.app lte lxs [])) (v := .slice al (List.length lxs) cap) g2 (fun b hb => .inr hb) ⟨[.slice al (List.length lxs) cap], by
      have : real0.app lte lxs [] = lxs := List.append_nil lxs
      rw [this]
      simp only [Rep]
      exact ⟨hlen1, al, cap, rfl, hor1⟩, rfl⟩
    exact h6 [] List.nodup_nil (fun b hb => by simp at hb)
  · -- there is room
    rcases hor1 with ⟨rfl, rfl, rfl⟩ | ⟨b0, off0, c, e, fr, A', hb0, rfl, hb, hfree, hcap, hsz1, hr⟩
    · simp only [List.length_nil, Nat.zero_add, Nat.le_zero] at hroom
      have hys : ys = [] := List.eq_nil_of_length_eq_zero hroom
      subst hys
      rcases hL1 with ⟨_, _, _⟩ | ⟨b0, off0, c, e, fr, _, hb, hfree, _, _, _⟩
      all_goals
        have hww : ∀ b', b' < w.heap.size → w'.heap[b']? = w.heap[b']? := by
          intro b' _
          have hnews : news = [] := List.eq_nil_of_length_eq_zero (by rw [hnl]; simp)
          subst hnews
          by_cases hbb : b' = b
          · subst hbb
            obtain ⟨⟨c0, c0', e0, fr0, f1, f2, f3, f4⟩, _⟩ := hwr
            rw [f1, f2]
            simp only [List.length_nil, Nat.add_zero, List.nil_append, List.take_append_drop] at f4
            rw [Array.toList_inj.1 f4]
          · exact hwr.2 b' hbb
        obtain ⟨_, _, _, _, h6⟩ := set_state g4 hww (g4.below.trans ⟨ho1, ho2, ho3, by omega, fun b' hb' => hww b' (Nat.lt_of_lt_of_le (E.hF b' hb') g4.below.size)⟩) (by omega) hdl' (A := []) (s := .val (.list lte) (.l .n) (real0.app lte [] [])) (v := .slice (some ⟨b, off, none⟩) 0 0) List.nodup_nil (fun b hb => by simp at hb) ⟨[.slice (some ⟨b, off, none⟩) 0 0], by
          simp only [Rep]
          exact ⟨by simp [real0], some ⟨b, off, none⟩, 0, by simp [real0], .inl ⟨rfl, by trivial, by trivial⟩⟩, rfl⟩
        exact h6 [] List.nodup_nil (fun b hb => by simp at hb)
    · simp only [Option.some.injEq, Addr.mk.injEq, and_true] at hb0
      obtain ⟨rfl, rfl⟩ := hb0
      obtain ⟨rfl, hr'⟩ := flat_anyL (w' := w') (F' := E.F) hflat _ _ _ hr
      have st2 := fl_change g4 (w' := w') (fun b' hb' => hwr.2 b' fun e => hb' (by simp [e])) hsz ⟨ho1, ho2, ho3⟩
      obtain ⟨⟨c0, c0', e0, fr0, f1, f2, f3, f4⟩, _⟩ := hwr
      rw [hb] at f1
      simp only [Option.some.injEq, Obj.cells.injEq] at f1
      obtain ⟨rfl, rfl, rfl⟩ := f1
      have hcsz : c0'.size = c.size := by
        have := congrArg List.length f4
        simp at this
        omega
      obtain ⟨_, _, _, _, h6⟩ := set_state st2 (fun _ _ => rfl) st2.below (Nat.le_refl _) hdl' (A := [b]) (s := .val (.list lte) (.l .n) (real0.app lte lxs ys)) (v := .slice (some ⟨b, off, none⟩) (List.length lxs + List.length ys) cap) (by simp) (fun b' hb' => .inr hb') ⟨[.slice (some ⟨b, off, none⟩) (List.length lxs + List.length ys) cap], by
        simp only [Rep]
        refine ⟨by rw [hsum]; exact hn, some ⟨b, off, none⟩, cap, by rw [hsum], .inr ⟨b, off, c0', e, fr, [], rfl, rfl, f2, ?_, by rw [hsum]; exact hroom, by rw [hcsz]; exact hsz1, ?_⟩⟩
        · intro j hj
          exact hfree j (by omega)
        · rw [hsum, f4, Nat.add_mul, ← hnl, i2] at *
          rw [write_tail (by simpa using f3)]
          exact repL_append hr' (flat_anyL (w' := w') (F' := E.F) hflat _ _ _ hR2).2, rfl⟩
      exact h6 [] List.nodup_nil (fun b hb => by simp at hb)
  · -- new memory
    have hww : ∀ b', b' < w.heap.size → w'.heap[b']? = w.heap[b']? := fun b' hb' => by
      rw [hheap, Array.getElem?_push, if_neg (by omega)]
    have hnew : w'.heap[w.heap.size]? = some (.cells c el) := by rw [hheap]; simp
    have hs1 : w'.heap.size = w.heap.size + 1 := by rw [hheap]; simp
    obtain ⟨_, _, _, _, h6⟩ := set_state g4 hww (g4.below.trans ⟨ho1, ho2, ho3, by omega, fun b' hb' => hww b' (Nat.lt_of_lt_of_le (E.hF b' hb') g4.below.size)⟩) (by omega) hdl' (A := [w.heap.size]) (s := .val (.list lte) (.l .n) (real0.app lte lxs ys)) (v := .slice (some ⟨w.heap.size, 0, none⟩) (List.length lxs + List.length ys) capn) (by simp) (fun b' hb' => .inl (by simp at hb'; omega)) ⟨[.slice (some ⟨w.heap.size, 0, none⟩) (List.length lxs + List.length ys) capn], by
      simp only [Rep]
      refine ⟨by rw [hsum]; exact hn, some ⟨w.heap.size, 0, none⟩, capn, by rw [hsum], .inr ⟨w.heap.size, 0, c, el, (0, 0), [], rfl, rfl, hnew, free0 c, by rw [hsum]; exact hcap, by rw [hcsz, i2]; omega, ?_⟩⟩
      rw [hsum, List.drop_zero, ← i2, htake]
      exact repL_append (flat_anyL (w' := w') (F' := E.F) hflat _ _ _ hR1).2 (flat_anyL (w' := w') (F' := E.F) hflat _ _ _ hR2).2, rfl⟩
    exact h6 [] List.nodup_nil (fun b hb => by simp at hb)

/-- That append, as an operation. -/
def gvD (A : Alg) (tab : Tab) (look : Nat → Slot) (o : Oper) : Option (List Prop × Nat × Slot) :=
  match o.guard with
  | some _ => none
  | none => match o.op with
    | .call ⟨.builtin .append, ⟨[.tmp j, y]⟩, ⟨[T, T']⟩⟩ => match aAppM A tab look T T' (.tmp j) y with
      | some (obs, k, s) => if Nat.beq k j && !s.isApp && Nat.beq s.deps.length 0 then some (obs, k, s) else none
      | none => none
    | _ => none
theorem gvD_inv {A : Alg} {tab : Tab} {look : Nat → Slot} {o : Oper} {obs : List Prop} {k : Nat} {s : Slot} (h : gvD A tab look o = some (obs, k, s)) : o.guard = none ∧ s.isApp = false ∧ s.deps = [] ∧ ∃ y T T', o.op = .call ⟨.builtin .append, ⟨[.tmp k, y]⟩, ⟨[T, T']⟩⟩ ∧ aAppM A tab look T T' (.tmp k) y = some (obs, k, s) := by
  unfold gvD at h
  split at h
  case h_1 => cases h
  rename_i hg
  split at h
  case h_2 => cases h
  rename_i j y T T' ho
  split at h
  case h_2 => cases h
  rename_i obs' k' s' hm
  split at h
  case isFalse => cases h
  rename_i hc
  simp only [Option.some.injEq, Prod.mk.injEq] at h
  obtain ⟨rfl, rfl, rfl⟩ := h
  simp only [Bool.and_eq_true, Bool.not_eq_true'] at hc
  obtain rfl := Nat.eq_of_beq_eq_true hc.1.1
  exact ⟨hg, hc.1.2, List.eq_nil_of_length_eq_zero (Nat.eq_of_beq_eq_true hc.2), y, T, T', ho, hm⟩

end Go.Proofs.Ytaachifkgcdeoaa.Sy
