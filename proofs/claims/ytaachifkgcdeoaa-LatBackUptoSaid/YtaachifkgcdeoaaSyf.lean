/- A symbolic run of a function's code: typed values in memory, what each operation does to them, and why that is so (part f). Each theorem bears its conditions itself. -/
import Derived.Test.YtaachifkgcdeoaaSye
import Derived.JoinedCond
import Derived.ChangeSlices
import Derived.WideShapes
import Derived.RowKit
import Derived.OpenShut
import Derived.Carry
import Derived.ChangeOld
import Derived.ProofKit
namespace Go.Proofs.Ytaachifkgcdeoaa.Sy
open Go.RowKit
set_option linter.unusedSimpArgs false
set_option linter.unusedVariables false

mutual
/-- How many values and letters a reading holds. -/
def ub {H : Type} : DataW H → Nat
  | .lit (.string bytes) => bytes.length + 1
  | .lit _ => 1
  | .nil => 1
  | .ptr d => ub d + 1
  | .slice elems spare => ubL elems + ubL spare + 1
  | .agg parts => ubL parts + 1
  | .iface _ d => ub d + 1
  | .map entries => ubE entries + 1
  | .held _ => 1
def ubL {H : Type} : List (DataW H) → Nat
  | [] => 0
  | d :: r => ub d + ubL r
def ubE {H : Type} : List (Lit × DataW H) → Nat
  | [] => 0
  | x :: r => ubX x + ubE r
def ubX {H : Type} : Lit × DataW H → Nat
  | (.string bytes, d) => bytes.length + ub d + 1
  | (_, d) => ub d + 1
end

def sumBy {α : Type} (f : α → Nat) : List α → Nat
  | [] => 0
  | x :: xs => f x + sumBy f xs
mutual
/-- The same of a typed value. -/
def bulk : (t : PT) → t.den → Nat
  | .int _, _ => 1
  | .bool, _ => 1
  | .str, s => (show ByteArray from s).size + 1
  | .list t, xs => sumBy (bulk t) xs + 1
  | .arr _ t, xs => sumBy (bulk t) xs + 1
  | .st ts, x => bulkL ts x + 1
  | .box t, x => bulk t x + 1
def bulkL : (ts : List PT) → PT.denL ts → Nat
  | [], _ => 0
  | t :: ts, x => bulk t x.1 + bulkL ts x.2
end
mutual
/-- All its numbers are numbers of their kinds, its arrays as long as they are. -/
def okT : (t : PT) → t.den → Prop
  | .int k, n => k.min ≤ (show Int from n) ∧ (show Int from n) ≤ k.max
  | .bool, _ => True
  | .str, _ => True
  | .list t, xs => ∀ x ∈ (show List t.den from xs), okT t x
  | .arr n t, xs => List.length xs = n ∧ ∀ x ∈ (show List t.den from xs), okT t x
  | .st ts, x => okL ts x
  | .box t, x => okT t x
def okL : (ts : List PT) → PT.denL ts → Prop
  | [], _ => True
  | t :: ts, x => okT t x.1 ∧ okL ts x.2
end
mutual
def noBox : PT → Bool
  | .box _ => false
  | .list t => noBox t
  | .arr _ t => noBox t
  | .st ts => noBoxL ts
  | _ => true
def noBoxL : List PT → Bool
  | [] => true
  | t :: ts => noBox t && noBoxL ts
end

theorem TyOk.cells {P : Program} {t : PT} {T : TypeId} (h : TyOk P t T) : P.cellsOf T = t.size := by
  obtain ⟨i, h1, h2, _⟩ := h.ti.out
  simp [Program.cellsOf, h1, h2]

theorem mapM_at {α β : Type} {f : α → Option β} : ∀ {l : List α} {r : List β}, l.mapM f = some r → r.length = l.length ∧ ∀ i (hi : i < l.length) (hj : i < r.length), f l[i] = some r[i]
  | [], r, h => by
    simp at h
    subst h
    exact ⟨rfl, fun i hi => by simp at hi⟩
  | x :: l, r, h => by
    simp only [List.mapM_cons, Option.bind_eq_bind, Option.bind_eq_some_iff, Option.pure_def, Option.some.injEq] at h
    obtain ⟨y, hy, ys, hys, rfl⟩ := h
    obtain ⟨h1, h2⟩ := mapM_at hys
    refine ⟨by simp [h1], fun i hi hj => ?_⟩
    cases i with
    | zero => exact hy
    | succ i => exact h2 i (by simpa using hi) (by simpa using hj)

theorem repL_segs {α Y : Type} {R : α → List Value → List Nat → Prop} {Q : α → Y → Prop} {s : Nat} : ∀ (ys : List Y) (l : List Value), ys.length * s ≤ l.length → (∀ j (hj : j < ys.length), ∃ x, R x ((l.drop (j * s)).take s) [] ∧ Q x ys[j]) →
    ∃ xs : List α, xs.length = ys.length ∧ RepL R xs (l.take (ys.length * s)) [] ∧ ∀ j (hj : j < ys.length) (hx : j < xs.length), Q xs[j] ys[j]
  | [], l, _, _ => ⟨[], rfl, ⟨by simp, rfl⟩, fun j hj => by simp at hj⟩
  | y :: ys, l, hl, h => by
    obtain ⟨x, hx, hq⟩ := h 0 (by simp)
    have hl' : s + ys.length * s ≤ l.length := by simpa [Nat.succ_mul, Nat.add_comm] using hl
    obtain ⟨xs, e1, e2, e3⟩ := repL_segs (R := R) (Q := Q) (s := s) ys (l.drop s) (by rw [List.length_drop]; omega) (fun j hj => by
      obtain ⟨x, h1, h2⟩ := h (j + 1) (by simpa using hj)
      refine ⟨x, ?_, by simpa using h2⟩
      rw [List.drop_drop, show s + j * s = (j + 1) * s by rw [Nat.succ_mul]; omega]
      exact h1)
    refine ⟨x :: xs, by simp [e1], ⟨l.take s, (l.drop s).take (ys.length * s), [], [], ?_, rfl, by simpa using hx, e2⟩, fun j hj hx' => ?_⟩
    · rw [List.length_cons, Nat.succ_mul, Nat.add_comm, List.take_add]
    · cases j with
      | zero => exact hq
      | succ j => exact e3 j (by simpa using hj) (by simpa using hx')

theorem sumBy_le {α : Type} {H : Type} {f : α → Nat} : ∀ {xs : List α} {ds : List (DataW H)}, xs.length = ds.length → (∀ j (hj : j < ds.length) (hx : j < xs.length), f xs[j] ≤ ub ds[j]) → sumBy f xs ≤ ubL ds
  | [], [], _, _ => Nat.le_refl _
  | x :: xs, d :: ds, hl, h => by
    have h0 := h 0 (by simp) (by simp)
    have := sumBy_le (f := f) (xs := xs) (ds := ds) (by simpa using hl) (fun j hj hx => h (j + 1) (Nat.succ_lt_succ hj) (Nat.succ_lt_succ hx))
    simp only [List.getElem_cons_zero] at h0
    simp only [sumBy, ubL]
    omega

theorem ub_pos {H : Type} (d : DataW H) : 1 ≤ ub d := by
  cases d
  case lit l => cases l <;> unfold ub <;> omega
  all_goals
    unfold ub
    omega

theorem ubL_len {H : Type} : ∀ (ds : List (DataW H)), ds.length ≤ ubL ds
  | [] => Nat.le_refl _
  | d :: ds => by
    have := ub_pos d
    have := ubL_len ds
    simp only [List.length_cons, ubL]
    omega

theorem ubL_at {H : Type} : ∀ (ds : List (DataW H)) (j : Nat) (hj : j < ds.length), ub ds[j] ≤ ubL ds
  | d :: ds, 0, _ => by simp only [List.getElem_cons_zero, ubL]; omega
  | d :: ds, j + 1, hj => by
    have := ubL_at ds j (by simpa using hj)
    simp only [List.getElem_cons_succ, ubL]
    omega

theorem cells_at {w : World} {a : Addr} {n : Nat} {cs : List Value} (h : w.cells? 0 a n = some cs) (hn : 0 < n) : a.spot = none ∧ ∃ c e fr, w.heap[a.block]? = some (.cells c e fr) ∧ a.off + n ≤ c.size ∧ cs = (c.toList.drop a.off).take n := by
  unfold World.cells? at h
  rw [if_pos (Nat.zero_le _)] at h
  obtain ⟨hl, hat⟩ := mapM_at h
  rw [List.length_range] at hl
  have hcell : ∀ i (hi : i < n), w.cell? (a.add i) = some (cs[i]'(by omega)) := fun i hi => by
    have := hat i (by simpa using hi) (by omega)
    simpa using this
  have h0 := hcell 0 hn
  have hsp : a.spot = none := by
    unfold World.cell? at h0
    split at h0
    · split at h0
      · cases h0
      · rename_i hs
        have : (a.add 0) = a := by simp [Addr.add]
        rw [this] at hs
        simpa using hs
    · cases h0
  obtain ⟨c, e, fr, hb⟩ : ∃ c e fr, w.heap[a.block]? = some (.cells c e fr) := by
    unfold World.cell? at h0
    split at h0
    · rename_i c e fr hb
      have : (a.add 0) = a := by simp [Addr.add]
      rw [this] at hb
      exact ⟨c, e, fr, hb⟩
    · cases h0
  have hget : ∀ i (hi : i < n), c[a.off + i]? = some (cs[i]'(by omega)) := fun i hi => by
    have := hcell i hi
    have hbl : (a.add i).block = a.block := by unfold Addr.add; split <;> rfl
    have hof : (a.add i).off = a.off + i := by unfold Addr.add; split <;> simp_all
    have hspi : (a.add i).spot = none := by unfold Addr.add; split <;> simp_all
    unfold World.cell? at this
    rw [hbl, hb] at this
    simpa [hspi, hof] using this
  refine ⟨hsp, c, e, fr, hb, ?_, ?_⟩
  · have := hget (n - 1) (by omega)
    have := (Array.getElem?_eq_some_iff.1 this).1
    omega
  · apply List.ext_getElem?
    intro i
    by_cases hi : i < n
    · rw [List.getElem?_take, if_pos hi, List.getElem?_drop, List.getElem?_eq_getElem (by omega)]
      have := hget i hi
      simp only [Array.getElem?_toList]
      exact this.symm
    · rw [List.getElem?_eq_none (by omega), List.getElem?_eq_none]
      rw [List.length_take]
      omega

theorem wf_range {k : IntKind} {n : Int} (h : (Lit.int k n).wf = true) : k.min ≤ n ∧ n ≤ k.max := by
  simpa [Lit.wf] using h

theorem cell_rep_or {w : World} {F : Nat → Prop} {t : PT} {l : List Value} {s : Nat} : True := trivial

mutual
theorem open_rep {H : Type} {enc : TypeId × Value → H} {P : Program} {w : World} {sp : Nat → Bool} : ∀ (t : PT) (fuel : Nat) (T : TypeId) (cs : List Value) (d : DataW H) (ps : List MemPlace), TyOk P t T → noBox t = true → DataW.trod enc P w 0 sp true fuel T cs = some (d, ps) → ub d ≤ 1048576 →
    ∃ x : t.den, Rep w (fun b => b < w.heap.size) t .n x cs [] ∧ bulk t x ≤ ub d ∧ okT t x
  | t, 0, T, cs, d, ps, _, _, h, _ => by simp [DataW.trod] at h
  | .int k, fuel + 1, T, cs, d, ps, hT, _, h, hb => by
    have hu := hT.int_u
    simp only [DataW.trod, hu] at h
    split at h
    case h_2 kk k' n heq =>
      simp only [Option.some.injEq, TypeDesc.int.injEq] at heq
      subst heq
      split at h
      case isFalse => cases h
      rename_i hc
      obtain ⟨rfl, hwf⟩ := hc
      simp only [Option.some.injEq, Prod.mk.injEq] at h
      obtain ⟨rfl, rfl⟩ := h
      have hr := wf_range hwf
      exact ⟨n, by simp only [Rep]; exact ⟨trivial, by trivial, hr⟩, by simp only [bulk, ub]; exact Nat.le_refl _, by simp only [okT]; exact hr⟩
    all_goals (exfalso; simp_all; done)
  | .bool, fuel + 1, T, cs, d, ps, hT, _, h, hb => by
    have hu : P.underlying T = some .bool := by unfold TyOk at hT; exact hT.2
    simp only [DataW.trod, hu] at h
    split at h
    case h_1 b heq =>
      simp only [Option.some.injEq, Prod.mk.injEq] at h
      obtain ⟨rfl, rfl⟩ := h
      exact ⟨b, by simp [Rep], by simp only [bulk, ub]; exact Nat.le_refl _, by simp only [okT]⟩
    all_goals (exfalso; simp_all; done)
  | .str, fuel + 1, T, cs, d, ps, hT, _, h, hb => by
    have hu := hT.str_u
    simp only [DataW.trod, hu] at h
    split at h
    case h_4 s heq =>
      split at h
      case isFalse => cases h
      simp only [Option.some.injEq, Prod.mk.injEq] at h
      obtain ⟨rfl, rfl⟩ := h
      have hs : s.data.toList.length = s.size := Array.length_toList
      simp only [ub, hs] at hb
      refine ⟨s, ?_, ?_, by simp only [okT]⟩
      · simp only [Rep]
        exact ⟨trivial, by trivial, by show s.size ≤ _; omega⟩
      · simp only [bulk, ub, hs]
        exact Nat.le_refl _
    all_goals (exfalso; simp_all; done)
  | .list t, fuel + 1, T, cs, d, ps, hT, hn, h, hb => by
    unfold TyOk at hT
    obtain ⟨_, e, hu, hE⟩ := hT
    have hc := hE.cells
    have hpos := hE.ti.pos
    simp only [DataW.trod, hu] at h
    split at h
    case h_7 =>
      simp only [Option.some.injEq, Prod.mk.injEq] at h
      obtain ⟨rfl, rfl⟩ := h
      refine ⟨[], ?_, by simp [bulk, ub, sumBy], by simp [okT]⟩
      simp only [Rep]
      exact ⟨trivial, by simp, none, 0, rfl, by simp, .inl (by trivial)⟩
    case h_8 e' a len cap heq1 =>
      simp only [Option.some.injEq, TypeDesc.slice.injEq] at heq1
      subst heq1
      split at h
      case isFalse => cases h
      rename_i hcap
      simp only [Option.bind_eq_some_iff] at h
      obtain ⟨elems, hel, h⟩ := h
      simp only [Option.map_eq_some_iff] at h
      obtain ⟨rest, _, h⟩ := h
      simp only [Prod.mk.injEq] at h
      obtain ⟨rfl, rfl⟩ := h
      obtain ⟨hl, hat⟩ := mapM_at hel
      rw [List.length_range] at hl
      have hub : ubL (elems.map (·.1)) ≤ 1048576 := by simp only [ub] at hb; omega
      have hlen : elems.length ≤ 1048576 := by
        have := ubL_len (elems.map (·.1))
        simp only [List.length_map] at this
        omega
      by_cases hz : len = 0
      · subst hz
        refine ⟨[], ?_, by simp only [bulk, sumBy, ub]; omega, by simp [okT]⟩
        simp only [Rep]
        exact ⟨trivial, by simp, some a, cap, rfl, by simp, .inl (by trivial)⟩
      · -- each element
        have hel' : ∀ i (hi : i < len), ∃ ci, w.cells? 0 (a.add (i * t.size)) t.size = some ci ∧ DataW.trod enc P w 0 sp true fuel e ci = some (elems[i]'(by omega)) := fun i hi => by
          have := hat i (by simpa using hi) (by omega)
          simp only [List.getElem_range, hc, Option.bind_eq_some_iff] at this
          exact this
        obtain ⟨c0, h0, _⟩ := hel' 0 (by omega)
        obtain ⟨hsp, c, el, fr, hblk, _, _⟩ := cells_at h0 hpos
        have ha0 : a.add (0 * t.size) = a := by simp [Addr.add]
        rw [ha0] at hsp hblk
        have hseg : ∀ i (hi : i < len), a.off + i * t.size + t.size ≤ c.size ∧ DataW.trod enc P w 0 sp true fuel e ((c.toList.drop (a.off + i * t.size)).take t.size) = some (elems[i]'(by omega)) := fun i hi => by
          obtain ⟨ci, h1, h2⟩ := hel' i hi
          obtain ⟨_, c', _, _, h3, h4, h5⟩ := cells_at h1 hpos
          have hbl : (a.add (i * t.size)).block = a.block := by unfold Addr.add; split <;> rfl
          have hof : (a.add (i * t.size)).off = a.off + i * t.size := by unfold Addr.add; split <;> simp_all
          rw [hbl, hblk] at h3
          simp only [Option.some.injEq, Obj.cells.injEq] at h3
          obtain ⟨rfl, _⟩ := h3
          rw [hof] at h4 h5
          rw [h5] at h2
          exact ⟨h4, h2⟩
        have hsz : a.off + len * t.size ≤ c.size := by
          have := (hseg (len - 1) (by omega)).1
          have e2 : (len - 1) * t.size + t.size = len * t.size := by
            rw [← Nat.succ_mul]; congr 1; omega
          omega
        obtain ⟨xs, e1, e2, e3⟩ := repL_segs (R := Rep w (fun b => b < w.heap.size) t .n) (Q := fun x (y : DataW H × List MemPlace) => bulk t x ≤ ub y.1 ∧ okT t x) (s := t.size) elems (c.toList.drop a.off) (by
            rw [List.length_drop, Array.length_toList (xs := c), hl]; omega) (fun j hj => by
          have hjl : j < len := by omega
          obtain ⟨_, h2⟩ := hseg j hjl
          have hbj : ub elems[j].1 ≤ 1048576 := by
            have := ubL_at (elems.map (·.1)) j (by simpa using hj)
            rw [List.getElem_map] at this
            omega
          obtain ⟨x, g1, g2, g3⟩ := open_rep t fuel e _ _ _ hE (by simpa [noBox] using hn) h2 hbj
          refine ⟨x, ?_, g2, g3⟩
          rw [List.drop_drop]
          exact g1)
        have exl : xs.length = len := by rw [e1, hl]
        refine ⟨xs, ?_, ?_, ?_⟩
        · simp only [Rep]
          refine ⟨trivial, by show xs.length ≤ _; omega, some a, cap, by rw [show List.length xs = len from exl], by show xs.length ≤ _; omega, .inr ⟨a.block, a.off, c, el, fr, ?_, ?_, hblk, ?_, ?_⟩⟩
          · cases a; simp_all
          · by_cases hb : a.block < w.heap.size
            · exact hb
            · simp [Array.getElem?_eq_none (Nat.le_of_not_lt hb)] at hblk
          · rw [show List.length xs = len from exl]; exact hsz
          · rw [show List.length xs = elems.length from e1]; exact e2
        · simp only [bulk, ub]
          have := sumBy_le (f := bulk t) (xs := xs) (ds := elems.map (·.1)) (by simp [e1]) (fun j hj hx => by
            rw [List.getElem_map]
            exact (e3 j (by simpa using hj) hx).1)
          omega
        · simp only [okT]
          intro x hx
          obtain ⟨j, hj, rfl⟩ := List.mem_iff_getElem.1 hx
          exact (e3 j (by omega) hj).2
    all_goals (exfalso; simp_all; done)
  | .arr n t, fuel + 1, T, cs, d, ps, hT, hn, h, hb => by
    have hcT := hT.cells
    unfold TyOk at hT
    obtain ⟨_, e, hu, hE⟩ := hT
    have hc := hE.cells
    simp only [DataW.trod, hu] at h
    split at h
    case isFalse => cases h
    rename_i hlen
    rw [hcT] at hlen
    simp only [PT.size] at hlen
    simp only [Option.map_eq_some_iff] at h
    obtain ⟨elems, hel, h⟩ := h
    simp only [Prod.mk.injEq] at h
    obtain ⟨rfl, rfl⟩ := h
    obtain ⟨hl, hat⟩ := mapM_at hel
    rw [List.length_range] at hl
    have hub : ubL (elems.map (·.1)) ≤ 1048576 := by simp only [ub] at hb; omega
    obtain ⟨xs, e1, e2, e3⟩ := repL_segs (R := Rep w (fun b => b < w.heap.size) t .n) (Q := fun x (y : DataW H × List MemPlace) => bulk t x ≤ ub y.1 ∧ okT t x) (s := t.size) elems cs (by rw [hl, hlen]; exact Nat.le_refl _) (fun j hj => by
      have := hat j (by simpa using (by omega : j < n)) hj
      simp only [List.getElem_range, hc] at this
      have hbj : ub elems[j].1 ≤ 1048576 := by
        have := ubL_at (elems.map (·.1)) j (by simpa using hj)
        rw [List.getElem_map] at this
        omega
      exact open_rep t fuel e _ _ _ hE (by simpa [noBox] using hn) this hbj)
    rw [hl, ← hlen, List.take_length] at e2
    refine ⟨xs, ?_, ?_, ?_⟩
    · simp only [Rep]
      exact ⟨by show xs.length = n; omega, e2⟩
    · simp only [bulk, ub]
      have := sumBy_le (f := bulk t) (xs := xs) (ds := elems.map (·.1)) (by simp [e1]) (fun j hj hx => by
        rw [List.getElem_map]
        exact (e3 j (by simpa using hj) hx).1)
      omega
    · simp only [okT]
      refine ⟨by show xs.length = n; omega, fun x hx => ?_⟩
      obtain ⟨j, hj, rfl⟩ := List.mem_iff_getElem.1 hx
      exact (e3 j (by omega) hj).2
  | .st ts, fuel + 1, T, cs, d, ps, hT, hn, h, hb => by
    have hcT := hT.cells
    unfold TyOk at hT
    obtain ⟨_, fs, hu, hE⟩ := hT
    simp only [DataW.trod, hu] at h
    split at h
    case isFalse => cases h
    rename_i hlen
    rw [hcT] at hlen
    simp only [PT.size] at hlen
    simp only [Option.map_eq_some_iff] at h
    obtain ⟨elems, hel, h⟩ := h
    simp only [Prod.mk.injEq] at h
    obtain ⟨rfl, rfl⟩ := h
    have hub : ubL (elems.map (·.1)) ≤ 1048576 := by simp only [ub] at hb; omega
    obtain ⟨x, g1, g2, g3⟩ := open_repS (w := w) ts fuel 0 0 fs.toList cs elems hE (by simpa [noBox] using hn) hel (by simpa using hlen) hub
    refine ⟨x, ?_, by simp only [bulk, ub]; omega, by simpa [okT] using g3⟩
    simp only [Rep]
    simpa using g1
  | .box t, fuel + 1, T, cs, d, ps, hT, hn, h, hb => by simp [noBox] at hn
theorem open_repS {H : Type} {enc : TypeId × Value → H} {P : Program} {w : World} {sp : Nat → Bool} : ∀ (ts : List PT) (fuel : Nat) (off i : Nat) (fs : List Field) (cs : List Value) (elems : List (DataW H × List MemPlace)), TyOkL P ts off fs → noBoxL ts = true →
    (fs.mapM fun f => DataW.trod enc P w 0 sp true fuel f.type ((cs.drop f.offset).take (P.cellsOf f.type))) = some elems → cs.length = off + PT.sizeL ts → ubL (elems.map (·.1)) ≤ 1048576 →
    ∃ x : PT.denL ts, RepS w (fun b => b < w.heap.size) ts .n i x (cs.drop off) [] ∧ bulkL ts x ≤ ubL (elems.map (·.1)) ∧ okL ts x
  | [], fuel, off, i, fs, cs, elems, hT, _, h, hlen, hub => by
    refine ⟨(), ?_, by simp [bulkL], by simp [okL]⟩
    simp only [RepS]
    exact ⟨List.drop_eq_nil_of_le (by simp [PT.sizeL] at hlen; omega), trivial⟩
  | t :: ts, fuel, off, i, [], cs, elems, hT, _, h, hlen, hub => by simp [TyOkL] at hT
  | t :: ts, fuel, off, i, f :: fs, cs, elems, hT, hn, h, hlen, hub => by
    simp only [TyOkL] at hT
    obtain ⟨hoff, hf, hTs⟩ := hT
    simp only [noBoxL, Bool.and_eq_true] at hn
    simp only [List.mapM_cons, Option.bind_eq_bind, Option.bind_eq_some_iff, Option.pure_def, Option.some.injEq] at h
    obtain ⟨y, hy, ys, hys, rfl⟩ := h
    simp only [List.map_cons, ubL] at hub
    simp only [PT.sizeL] at hlen
    rw [hf.cells, hoff] at hy
    obtain ⟨x, g1, g2, g3⟩ := open_rep t fuel f.type _ y.1 y.2 hf hn.1 hy (by omega)
    obtain ⟨xs, k1, k2, k3⟩ := open_repS ts fuel (off + t.size) (i + 1) fs cs ys hTs hn.2 hys (by omega) (by omega)
    refine ⟨(x, xs), ?_, by simp only [bulkL, List.map_cons, ubL]; omega, ⟨g3, k3⟩⟩
    simp only [RepS]
    refine ⟨(cs.drop off).take t.size, (cs.drop off).drop t.size, [], [], (List.take_append_drop _ _).symm, rfl, by simpa [Md.fld] using g1, ?_⟩
    rw [List.drop_drop]
    exact k1
end

end Go.Proofs.Ytaachifkgcdeoaa.Sy

namespace Go.Proofs.Ytaachifkgcdeoaa.Sy
open Go.RowKit Go.WideShapes Go.ChangeShapes
set_option linter.unusedSimpArgs false
set_option linter.unusedVariables false

theorem okWide_wrap {P : Program} {w : World} {r : Reach} {base : Nat} {t : PT} {T : TypeId} {v : Value} (hT : TyOk P t T) (hn : noBox t = true) (h : Value.okWide P w r base T v) : v = wrapV t v.cells.toList := by
  cases t with
  | int k =>
    obtain ⟨n, rfl⟩ := okWide_int hT.int_u h
    rfl
  | bool =>
    obtain ⟨b, rfl⟩ := okWide_bool (by unfold TyOk at hT; exact hT.2) h
    rfl
  | str =>
    obtain ⟨s, rfl⟩ := okWide_string hT.str_u h
    rfl
  | list t =>
    obtain ⟨e, hu⟩ := hT.list_u
    obtain ⟨a, len, cap, rfl⟩ := okWide_slice hu h
    rfl
  | arr n t =>
    unfold TyOk at hT
    obtain ⟨_, e, hu, _⟩ := hT
    simp only [Value.okWide, hu] at h
    obtain ⟨cs, rfl, _⟩ := h
    simp [wrapV, PT.isAgg, Value.cells]
  | st ts =>
    unfold TyOk at hT
    obtain ⟨_, fs, hu, _⟩ := hT
    simp only [Value.okWide, hu] at h
    obtain ⟨cs, rfl, _⟩ := h
    simp [wrapV, PT.isAgg, Value.cells]
  | box t => simp [noBox] at hn

def TysOk (P : Program) : List PT → List TypeId → Prop
  | [], [] => True
  | t :: ts, T :: Ts => TyOk P t T ∧ TysOk P ts Ts
  | _, _ => False

theorem open_args {H : Type} {enc : TypeId × Value → H} {P : Program} {w : World} {sp : Nat → Bool} {r : Reach} {base : Nat} : ∀ (ts : List PT) (Ts : List TypeId) (vs : List Value) (ds : List (DataW H)) (p : List MemPlace), TysOk P ts Ts → noBoxL ts = true →
    (∀ (j : Nat) t v, Ts[j]? = some t → vs[j]? = some v → Value.okWide P w r base t v) → DataW.TrodAll enc P w 0 sp true Ts vs ds p → ubL ds ≤ 1048576 →
    ∃ x : PT.denL ts, ArgsRep w (fun b => b < w.heap.size) ts (ts.map fun _ => AM.v) x vs [] ∧ bulkL ts x ≤ ubL ds ∧ okL ts x
  | [], [], vs, ds, p, _, _, _, h, _ => by
    cases vs <;> cases ds <;> simp only [DataW.TrodAll] at h
    exact ⟨(), ⟨rfl, rfl⟩, by simp [bulkL], by simp [okL]⟩
  | [], T :: Ts, vs, ds, p, hT, _, _, _, _ => by simp [TysOk] at hT
  | t :: ts, [], vs, ds, p, hT, _, _, _, _ => by simp [TysOk] at hT
  | t :: ts, T :: Ts, vs, ds, p, hT, hn, hv, h, hb => by
    cases vs with
    | nil => cases ds <;> simp [DataW.TrodAll] at h
    | cons v vs =>
      cases ds with
      | nil => simp [DataW.TrodAll] at h
      | cons d ds =>
        obtain ⟨p1, q1, ⟨fuel, h1⟩, h2, _⟩ := h
        simp only [noBoxL, Bool.and_eq_true] at hn
        simp only [ubL] at hb
        obtain ⟨x, g1, g2, g3⟩ := open_rep t fuel T _ d p1 hT.1 hn.1 h1 (by omega)
        obtain ⟨xs, k1, k2, k3⟩ := open_args ts Ts vs ds q1 hT.2 hn.2 (fun j t v h1 h2 => hv (j + 1) t v (by simpa using h1) (by simpa using h2)) h2 (by omega)
        refine ⟨(x, xs), ⟨.v, ts.map fun _ => AM.v, v, vs, [], [], rfl, rfl, rfl, ⟨_, g1, okWide_wrap hT.1 hn.1 (hv 0 T v rfl rfl)⟩, k1⟩, by simp only [bulkL, ubL]; omega, ⟨g3, k3⟩⟩

/-- A law as a promise: for arguments that are not too bulky it returns true. -/
def lawSpec (ts : List PT) : FSpec := ⟨ts, ts.map fun _ => AM.v, [.bool], [.n], fun x => okL ts x ∧ bulkL ts x ≤ 1048576, fun _ => (true, ())⟩

theorem law_calls {H : Type} {enc : TypeId × Value → H} {P : Program} {f : FuncId} {ts : List PT} (hrun : SpecRuns P f (lawSpec ts)) {Ts : List TypeId} (hT : TysOk P ts Ts) (hn : noBoxL ts = true) {W : World} {sp : Nat → Bool} {r : Reach} {base : Nat} {args : Array Value} {ds : List (DataW H)} {p : List MemPlace}
    (hv : ∀ (j : Nat) t v, Ts[j]? = some t → args[j]? = some v → Value.okWide P W r base t v) (hA : DataW.TrodAll enc P W 0 sp true Ts args.toList ds p) (hb : ubL ds ≤ 1048576) :
    Calls P f args W fun e W' => e = .returned (.bool true) ∧ Below W.heap.size W W' := by
  obtain ⟨x, h1, h2, h3⟩ := open_args ts Ts args.toList ds p hT hn (fun j t v a b => hv j t v a (by simpa using b)) hA hb
  have := hrun W x args [] List.nodup_nil (fun b hb => by simp at hb) (by
    have e : (fun b => b < W.heap.size ∧ b ∉ ([] : List Nat)) = fun b => b < W.heap.size := by funext b; simp
    rw [e]
    exact h1) ⟨h3, Nat.le_trans h2 hb⟩
  refine Calls.mono this fun e W' he => ?_
  cases e with
  | returned v =>
    obtain ⟨hk, A, _, _, h5⟩ := he
    have hbl : ∀ b, b < W.heap.size → W'.heap[b]? = W.heap[b]? := fun b hb => hk.block b ⟨hb, by simp⟩
    refine ⟨?_, hk.os, hk.tape, hk.output, hk.size, hbl⟩
    have hr : RepSlot W' noF nolook noval (.val .bool .n true) v A := h5
    obtain ⟨e1, _⟩ := rep_bool hr
    rw [e1]
  | panicked c => exact he.elim
  | outgrown => exact he.elim

/-! ### The types, checked -/
/-- A zero value, compared. -/
def vEq : Value → Value → Bool
  | .int k n, .int k' n' => decide (k = k') && decide (n = n')
  | .bool b, .bool b' => b == b'
  | .string s, .string s' => s.data.toList.isEmpty && s'.data.toList.isEmpty
  | .slice none m n, .slice none m' n' => Nat.beq m m' && Nat.beq n n'
  | .pointer none, .pointer none => true
  | _, _ => false
def vEqL : List Value → List Value → Bool
  | [], [] => true
  | v :: vs, u :: us => vEq v u && vEqL vs us
  | _, _ => false
theorem vEq_eq : ∀ {v u : Value}, vEq v u = true → v = u := by
  intro v u h
  unfold vEq at h
  split at h
  · simp only [Bool.and_eq_true, decide_eq_true_eq] at h
    rw [h.1, h.2]
  · simp only [beq_iff_eq] at h
    rw [h]
  · rename_i s s'
    simp only [Bool.and_eq_true, List.isEmpty_iff] at h
    have : s = s' := by
      cases s; cases s'
      rename_i a b
      congr
      exact Array.toList_inj.1 (h.1.trans h.2.symm)
    rw [this]
  · simp only [Bool.and_eq_true] at h
    rw [Nat.eq_of_beq_eq_true h.1, Nat.eq_of_beq_eq_true h.2]
  · rfl
  · cases h
theorem vEqL_eq : ∀ {vs us : List Value}, vEqL vs us = true → vs = us
  | [], [], _ => rfl
  | v :: vs, u :: us, h => by
    simp only [vEqL, Bool.and_eq_true] at h
    rw [vEq_eq h.1, vEqL_eq h.2]
  | [], _ :: _, h => by simp [vEqL] at h
  | _ :: _, [], h => by simp [vEqL] at h

def wEq (t : PT) (v : Value) : Bool := match v, t.isAgg with
  | .agg cs, true => vEqL cs.toList (zeroC t)
  | _, true => false
  | v, false => match zeroC t with
    | [u] => vEq v u
    | _ => false
theorem wEq_eq {t : PT} {v : Value} (h : wEq t v = true) : v = wrapV t (zeroC t) := by
  unfold wEq at h
  unfold wrapV
  split at h
  · rename_i cs ha
    rw [if_pos ha]
    have := vEqL_eq h
    rw [← this]
  · cases h
  · rename_i ha
    rw [if_neg (by rw [ha]; simp)]
    split at h
    · rename_i u hz
      rw [hz, vEq_eq h]
      rfl
    · cases h

def tiB (P : Program) (t : PT) (T : TypeId) : Bool := match P.info? T with
  | some i => Nat.beq i.size t.size && (match i.zero with
    | some z => wEq t z
    | none => false) && Nat.ble i.bytes 4096 && Nat.blt 0 t.size
  | none => false
theorem tiB_ok {P : Program} {t : PT} {T : TypeId} (h : tiB P t T = true) : TI P T t := by
  unfold tiB at h
  split at h
  case h_2 => cases h
  rename_i i hi
  simp only [Bool.and_eq_true] at h
  obtain ⟨⟨⟨h1, h2⟩, h3⟩, h4⟩ := h
  split at h2
  case h_2 => cases h2
  rename_i z hz
  exact ⟨⟨i, hi, Nat.eq_of_beq_eq_true h1, by rw [hz, wEq_eq h2], Nat.le_of_ble_eq_true h3⟩, Nat.lt_of_succ_le (Nat.le_of_ble_eq_true h4)⟩

mutual
def tyB (P : Program) : PT → TypeId → Bool
  | .int k, T => tiB P (.int k) T && (match P.underlying T with | some (.int k') => decide (k' = k) | _ => false)
  | .bool, T => tiB P .bool T && (match P.underlying T with | some .bool => true | _ => false)
  | .str, T => tiB P .str T && (match P.underlying T with | some .string => true | _ => false)
  | .list t, T => tiB P (.list t) T && (match P.underlying T with | some (.slice e) => tyB P t e | _ => false)
  | .arr n t, T => tiB P (.arr n t) T && (match P.underlying T with | some (.array m e) => Nat.beq m n && tyB P t e | _ => false)
  | .st ts, T => tiB P (.st ts) T && (match P.underlying T with | some (.struct fs) => tyBL P ts 0 fs.toList | _ => false)
  | .box t, T => tiB P (.box t) T && (match P.underlying T with | some (.pointer e) => tyB P t e | _ => false)
def tyBL (P : Program) : List PT → Nat → List Field → Bool
  | [], _, [] => true
  | t :: ts, off, f :: fs => Nat.beq f.offset off && tyB P t f.type && tyBL P ts (off + t.size) fs
  | _, _, _ => false
end
mutual
theorem tyB_ok {P : Program} : ∀ {t : PT} {T : TypeId}, tyB P t T = true → TyOk P t T
  | .int k, T, h => by
    simp only [tyB, Bool.and_eq_true] at h
    unfold TyOk
    refine ⟨tiB_ok h.1, ?_⟩
    have h2 := h.2
    split at h2 <;> try (cases h2; done)
    rename_i hu
    rw [hu, of_decide_eq_true h2]
  | .bool, T, h => by
    simp only [tyB, Bool.and_eq_true] at h
    unfold TyOk
    refine ⟨tiB_ok h.1, ?_⟩
    have h2 := h.2
    split at h2 <;> try (cases h2; done)
    assumption
  | .str, T, h => by
    simp only [tyB, Bool.and_eq_true] at h
    unfold TyOk
    refine ⟨tiB_ok h.1, ?_⟩
    have h2 := h.2
    split at h2 <;> try (cases h2; done)
    assumption
  | .list t, T, h => by
    simp only [tyB, Bool.and_eq_true] at h
    unfold TyOk
    refine ⟨tiB_ok h.1, ?_⟩
    have h2 := h.2
    split at h2 <;> try (cases h2; done)
    exact ⟨_, by assumption, tyB_ok h2⟩
  | .arr n t, T, h => by
    simp only [tyB, Bool.and_eq_true] at h
    unfold TyOk
    refine ⟨tiB_ok h.1, ?_⟩
    have h2 := h.2
    split at h2 <;> try (cases h2; done)
    rename_i m e hu
    simp only [Bool.and_eq_true] at h2
    exact ⟨e, by rw [hu, Nat.eq_of_beq_eq_true h2.1], tyB_ok h2.2⟩
  | .st ts, T, h => by
    simp only [tyB, Bool.and_eq_true] at h
    unfold TyOk
    refine ⟨tiB_ok h.1, ?_⟩
    have h2 := h.2
    split at h2 <;> try (cases h2; done)
    exact ⟨_, by assumption, tyBL_ok h2⟩
  | .box t, T, h => by
    simp only [tyB, Bool.and_eq_true] at h
    unfold TyOk
    refine ⟨tiB_ok h.1, ?_⟩
    have h2 := h.2
    split at h2 <;> try (cases h2; done)
    exact ⟨_, by assumption, tyB_ok h2⟩
theorem tyBL_ok {P : Program} : ∀ {ts : List PT} {off : Nat} {fs : List Field}, tyBL P ts off fs = true → TyOkL P ts off fs
  | [], off, [], _ => by simp [TyOkL]
  | [], off, f :: fs, h => by simp [tyBL] at h
  | t :: ts, off, [], h => by simp [tyBL] at h
  | t :: ts, off, f :: fs, h => by
    simp only [tyBL, Bool.and_eq_true] at h
    simp only [TyOkL]
    exact ⟨Nat.eq_of_beq_eq_true h.1.1, tyB_ok h.1.2, tyBL_ok h.2⟩
end

mutual
def eqB (P : Program) : PT → TypeId → Bool
  | .int k, T => (match P.underlying T with | some (.int k') => decide (k' = k) | _ => false)
  | .bool, T => (match P.underlying T with | some .bool => true | _ => false)
  | .str, T => (match P.underlying T with | some .string => true | _ => false)
  | .arr n t, T => (match P.underlying T with | some (.array m e) => Nat.beq m n && (match P.info? e with | some i => Nat.beq i.size t.size | none => false) && tyB P t e && eqB P t e | _ => false)
  | .st ts, T => (match P.underlying T with | some (.struct fs) => !(P.stoodInHeld T) && eqBL P ts 0 fs.toList | _ => false)
  | _, _ => false
def eqBL (P : Program) : List PT → Nat → List Field → Bool
  | [], _, [] => true
  | t :: ts, off, f :: fs => !(f.name == "_") && Nat.beq f.offset off && tyB P t f.type && eqB P t f.type && eqBL P ts (off + t.size) fs
  | _, _, _ => false
end
mutual
theorem eqB_ok {P : Program} : ∀ {t : PT} {T : TypeId}, eqB P t T = true → EqOk P t T
  | .int k, T, h => by
    simp only [eqB] at h
    unfold EqOk
    split at h <;> try (cases h; done)
    rename_i hu
    rw [hu, of_decide_eq_true h]
  | .bool, T, h => by
    simp only [eqB] at h
    unfold EqOk
    split at h <;> try (cases h; done)
    assumption
  | .str, T, h => by
    simp only [eqB] at h
    unfold EqOk
    split at h <;> try (cases h; done)
    assumption
  | .arr n t, T, h => by
    simp only [eqB] at h
    unfold EqOk
    split at h <;> try (cases h; done)
    rename_i m e hu
    simp only [Bool.and_eq_true] at h
    obtain ⟨⟨⟨h1, h2⟩, h3⟩, h4⟩ := h
    split at h2 <;> try (cases h2; done)
    rename_i i hi
    exact ⟨e, i, by rw [hu, Nat.eq_of_beq_eq_true h1], hi, Nat.eq_of_beq_eq_true h2, tyB_ok h3, eqB_ok h4⟩
  | .st ts, T, h => by
    simp only [eqB] at h
    unfold EqOk
    split at h <;> try (cases h; done)
    rename_i fs hu
    simp only [Bool.and_eq_true, Bool.not_eq_true'] at h
    exact ⟨fs, hu, h.1, eqBL_ok h.2⟩
  | .list t, T, h => by simp [eqB] at h
  | .box t, T, h => by simp [eqB] at h
theorem eqBL_ok {P : Program} : ∀ {ts : List PT} {off : Nat} {fs : List Field}, eqBL P ts off fs = true → EqOkL P ts off fs
  | [], off, [], _ => by simp [EqOkL]
  | [], off, f :: fs, h => by simp [eqBL] at h
  | t :: ts, off, [], h => by simp [eqBL] at h
  | t :: ts, off, f :: fs, h => by
    simp only [eqBL, Bool.and_eq_true, Bool.not_eq_true', beq_eq_false_iff_ne] at h
    simp only [EqOkL]
    exact ⟨h.1.1.1.1, Nat.eq_of_beq_eq_true h.1.1.1.2, tyB_ok h.1.1.2, eqB_ok h.1.2, eqBL_ok h.2⟩
end

def entryB (P : Program) (T : TypeId) : Option TE → Bool
  | none => true
  | some (.mp k v) => (match P.underlying T with
    | some (.map K V) => tyB P k K && tyB P v V && eqB P k K && Nat.ble k.depth 10000
    | _ => false)
  | some (.ty t b) => tyB P t T && (match b with
    | true => eqB P t T && Nat.ble t.depth 10000 && (match P.eqGuardType P.depth T, t with
      | false, _ => true
      | _, .bool => true
      | _, _ => false)
    | false => true)
def tabB (P : Program) : Nat → Tab → Bool
  | _, [] => true
  | T, e :: es => entryB P T e && tabB P (T + 1) es

theorem tabB_at {P : Program} : ∀ {es : Tab} {T0 : Nat}, tabB P T0 es = true → ∀ i e, es[i]? = some e → entryB P (T0 + i) e = true
  | [], T0, _, i, e, h => by simp at h
  | e0 :: es, T0, hb, i, e, h => by
    simp only [tabB, Bool.and_eq_true] at hb
    cases i with
    | zero =>
      simp only [List.getElem?_cons_zero, Option.some.injEq] at h
      subst h
      exact hb.1
    | succ i =>
      have := tabB_at hb.2 i e (by simpa using h)
      rw [show T0 + (i + 1) = T0 + 1 + i by omega]
      exact this

theorem tabOk_of {P : Program} {tab : Tab} (h : tabB P 0 tab = true) (hm : P.follows .mixedOrders = true) : TabOk P tab := by
  refine ⟨fun T t ht => ?_, hm, fun T t ht => ?_, fun T k v ht => ?_⟩
  · unfold tyT at ht
    split at ht
    · rename_i t' b he
      obtain rfl := Option.some.inj ht
      have := tabB_at h T _ he
      simp only [entryB, Bool.and_eq_true, Nat.zero_add] at this
      exact tyB_ok this.1
    · cases ht
  · unfold eqT at ht
    split at ht
    · rename_i t' he
      obtain rfl := Option.some.inj ht
      have := tabB_at h T _ he
      simp only [entryB, Bool.and_eq_true, Nat.zero_add] at this
      obtain ⟨_, ⟨h1, h2⟩, h3⟩ := this
      refine ⟨eqB_ok h1, Nat.le_of_ble_eq_true h2, ?_⟩
      split at h3
      · exact .inl (by assumption)
      · exact .inr rfl
      · cases h3
    · cases ht
  · unfold mapT at ht
    split at ht
    · rename_i k' v' he
      simp only [Option.some.injEq, Prod.mk.injEq] at ht
      obtain ⟨rfl, rfl⟩ := ht
      have := tabB_at h T _ he
      simp only [entryB, Nat.zero_add] at this
      split at this
      · rename_i K V hu
        simp only [Bool.and_eq_true] at this
        obtain ⟨⟨⟨h1, h2⟩, h3⟩, h4⟩ := this
        exact ⟨K, V, hu, tyB_ok h1, tyB_ok h2, eqB_ok h3, Nat.le_of_ble_eq_true h4⟩
      · cases this
    · cases ht

end Go.Proofs.Ytaachifkgcdeoaa.Sy

namespace Go.Proofs.Ytaachifkgcdeoaa.Sy
open Go.RowKit Go.WideShapes Go.ChangeShapes Go.ChangeAt
set_option linter.unusedSimpArgs false
set_option linter.unusedVariables false

theorem args_stay {H : Type} {enc : TypeId × Value → H} {P : Program} (hl : laidOutB P = true) {W W' : World} (hb : Below W.heap.size W W') : ∀ (Ts : List TypeId) (vs : List Value) (ds : List (DataW H)) (p : List MemPlace), (Ts.all fun T => P.readableRec T && decide (T < P.types.size)) = true →
    DataW.TrodAll enc P W 0 (fun _ => true) true Ts vs ds p → DataW.TrodAll enc P W' 0 (fun b => decide (b < W.heap.size)) true Ts vs ds p
  | [], [], [], p, _, h => h
  | [], [], d :: ds, p, _, h => by simp [DataW.TrodAll] at h
  | [], v :: vs, ds, p, _, h => by cases ds <;> simp [DataW.TrodAll] at h
  | T :: Ts, [], ds, p, _, h => by cases ds <;> simp [DataW.TrodAll] at h
  | T :: Ts, v :: vs, [], p, _, h => by simp [DataW.TrodAll] at h
  | T :: Ts, v :: vs, d :: ds, p, ha, h => by
    obtain ⟨p1, q1, h1, h2, e⟩ := h
    simp only [List.all_cons, Bool.and_eq_true, decide_eq_true_eq] at ha
    have hlt : ∀ x ∈ p1, x.block < W.heap.size := by
      obtain ⟨m, hm⟩ := h1
      exact DataW.trod_lt m _ _ _ hm
    exact ⟨p1, q1, Below.trod hl ha.1.1 ha.1.2 h1 hb hlt, args_stay hl hb Ts vs ds q1 ha.2 h2, e⟩

/-- The row's word, where the law returned true and wrote nothing that was there. -/
theorem law_post {H : Type} {enc : TypeId × Value → H} {P : Program} (hl : laidOutB P = true) {fn : Func} {s : ChangeSpec} {W W' : World} {args : Array Value} {ds : List (DataW H)} {p q : List MemPlace} (hw : DataW.Whole enc P fn.params.toList s.vars false W args.toList ds [] p)
    (hA : DataW.TrodAll enc P W 0 (fun _ => true) true fn.params.toList args.toList ds q) (hb : Below W.heap.size W W') (ha : (fn.params.toList.all fun T => P.readableRec T && decide (T < P.types.size)) = true) {T : TypeId} (hr : fn.resultTypes = #[T]) (hT : P.underlying T = some .bool)
    (hs : (s.fn H (ds ++ [])).results = [.lit (.bool true)]) (hs2 : (s.fn H (ds ++ [])).args = ds) (hs3 : (s.fn H (ds ++ [])).vars = []) (hv : s.vars = []) : s.post enc P fn false true false false W args (.bool true) W' := by
  refine ⟨ds, [], p, [], q, [], hw, ?_, ?_, ?_, hb.frame _, fun h => by cases h⟩
  · rw [hs, hr]
    exact trodAll_mk1 (shut_bool hT _)
  · rw [hs2]
    exact args_stay hl hb _ _ _ _ ha hA
  · rw [hs3, hv]
    rfl

end Go.Proofs.Ytaachifkgcdeoaa.Sy

namespace Go.Proofs.Ytaachifkgcdeoaa.Sy
open Go.RowKit
set_option linter.unusedSimpArgs false
set_option linter.unusedVariables false

mutual
/-- What is known of every value: its numbers are of their kinds, its arrays as long as they are, its texts and lists not too long. -/
def Wf : (t : PT) → t.den → Prop
  | .int k, n => k.min ≤ (show Int from n) ∧ (show Int from n) ≤ k.max
  | .bool, _ => True
  | .str, s => (show ByteArray from s).size ≤ 1099511627776
  | .list t, xs => List.length xs ≤ 4294967296 ∧ ∀ x ∈ (show List t.den from xs), Wf t x
  | .arr n t, xs => List.length xs = n ∧ ∀ x ∈ (show List t.den from xs), Wf t x
  | .st ts, x => WfL ts x
  | .box t, x => Wf t x
def WfL : (ts : List PT) → PT.denL ts → Prop
  | [], _ => True
  | t :: ts, x => Wf t x.1 ∧ WfL ts x.2
end

theorem repL_wf {α : Type} {R : α → List Value → List Nat → Prop} {Q : α → Prop} (hR : ∀ x c A, R x c A → Q x) : ∀ (xs : List α) (cs : List Value) (A : List Nat), RepL R xs cs A → ∀ x ∈ xs, Q x
  | [], _, _, _ => by simp
  | x :: xs, cs, A, h => by
    obtain ⟨c1, c2, A1, A2, rfl, rfl, h1, h2⟩ := h
    intro y hy
    rcases List.mem_cons.1 hy with rfl | hy
    · exact hR _ _ _ h1
    · exact repL_wf hR xs c2 A2 h2 y hy
mutual
theorem rep_wf {w : World} {F : Nat → Prop} : ∀ (t : PT) (m : Md) (x : t.den) (cs : List Value) (A : List Nat), seeT t m = true → Rep w F t m x cs A → Wf t x
  | .int k, m, x, cs, A, hs, h => by
    cases m <;> simp only [seeT, Bool.false_eq_true] at hs
    simp only [Rep] at h
    exact h.2.2
  | .bool, m, x, cs, A, _, h => by simp only [Wf]
  | .str, m, x, cs, A, hs, h => by
    cases m <;> simp only [seeT, Bool.false_eq_true] at hs
    simp only [Rep] at h
    exact h.2.2
  | .list t, m, x, cs, A, hs, h => by
    cases m <;> simp only [seeT, Bool.false_eq_true] at hs <;> simp only [Rep] at h <;> simp only [Wf]
    · obtain ⟨_, h0, a, cap, _, _, h3⟩ := h
      refine ⟨h0, ?_⟩
      rcases h3 with rfl | ⟨b, off, c, e, fr, _, _, _, _, hr⟩
      · intro x hx; exact absurd hx (by simp)
      · exact repL_wf (fun x c A => rep_wf t .n x c A (by cases t <;> rfl)) _ _ _ hr
    · obtain ⟨h0, a, cap, _, h3⟩ := h
      refine ⟨h0, ?_⟩
      rcases h3 with ⟨rfl, _⟩ | ⟨b, off, c, e, fr, A', _, _, _, _, _, _, hr⟩
      · intro x hx; exact absurd hx (by simp)
      · exact repL_wf (fun x c A => rep_wf t _ x c A hs) _ _ _ hr
  | .arr n t, m, x, cs, A, hs, h => by
    cases m <;> simp only [seeT, Bool.false_eq_true] at hs <;> simp only [Rep] at h <;> simp only [Wf]
    · exact ⟨h.1, repL_wf (fun x c A => rep_wf t .n x c A (by cases t <;> rfl)) _ _ _ h.2⟩
    · exact ⟨h.1, repL_wf (fun x c A => rep_wf t _ x c A hs) _ _ _ h.2⟩
  | .st ts, m, x, cs, A, hs, h => by
    cases m <;> simp only [seeT, Bool.false_eq_true] at hs <;> simp only [Rep] at h <;> simp only [Wf]
    · exact repS_wf ts _ 0 x cs A (fun j hj => by simp only [Md.fld]; cases ts[j] <;> rfl) h
    · rename_i ms
      exact repS_wf ts _ 0 x cs A (fun j hj => by
        simp only [Md.fld, Nat.zero_add]
        exact seeTL_at ts ms j hj hs) h
  | .box t, m, x, cs, A, hs, h => by
    cases m <;> simp only [seeT, Bool.false_eq_true] at hs <;> simp only [Rep] at h <;> simp only [Wf]
    · obtain ⟨_, b, c, e, fr, _, _, _, h5⟩ := h
      exact rep_wf t .n x _ _ (by cases t <;> rfl) h5
    · obtain ⟨b, c, e, fr, A', _, _, _, _, h5⟩ := h
      exact rep_wf t _ x _ _ hs h5
theorem repS_wf {w : World} {F : Nat → Prop} : ∀ (ts : List PT) (m : Md) (i : Nat) (x : PT.denL ts) (cs : List Value) (A : List Nat), (∀ j (hj : j < ts.length), seeT ts[j] (m.fld (i + j)) = true) → RepS w F ts m i x cs A → WfL ts x
  | [], _, _, _, cs, A, _, _ => by simp only [WfL]
  | t :: ts, m, i, x, cs, A, hs, h => by
    simp only [RepS] at h
    obtain ⟨c1, c2, A1, A2, rfl, rfl, h1, h2⟩ := h
    simp only [WfL]
    refine ⟨rep_wf t _ _ c1 A1 (by have h0 := hs 0 (Nat.zero_lt_succ _); simpa only [List.getElem_cons_zero, Nat.add_zero] using h0) h1, repS_wf ts m (i + 1) x.2 c2 A2 (fun j hj => ?_) h2⟩
    have := hs (j + 1) (by simp; omega)
    simpa [Nat.add_assoc, Nat.add_comm 1 j] using this
theorem seeTL_at : ∀ (ts : List PT) (ms : List Md) (j : Nat) (hj : j < ts.length), seeTL ts ms = true → seeT ts[j] (ms.getD j .j) = true
  | [], _, j, hj, _ => by simp at hj
  | t :: ts, [], j, hj, h => by simp [seeTL] at h
  | t :: ts, m :: ms, 0, hj, h => by
    simp only [seeTL, Bool.and_eq_true] at h
    simpa using h.1
  | t :: ts, m :: ms, j + 1, hj, h => by
    simp only [seeTL, Bool.and_eq_true] at h
    simpa using seeTL_at ts ms j (by simpa using hj) h.2
end

def WfA : (ts : List PT) → List AM → PT.denL ts → Prop
  | [], _, _ => True
  | t :: ts, .v :: ms, x => Wf t x.1 ∧ WfA ts ms x.2
  | t :: ts, .p :: ms, x => Wf t x.1 ∧ WfA ts ms x.2
  | t :: ts, .o m :: ms, x => (seeT t m = true → Wf t x.1) ∧ WfA ts ms x.2
  | t :: ts, .c _ _ :: ms, x => WfA ts ms x.2
  | _ :: _, [], _ => True

theorem args_wf {w : World} {F : Nat → Prop} : ∀ (ts : List PT) (ms : List AM) (x : PT.denL ts) (us : List Value) (A : List Nat), ArgsRep w F ts ms x us A → WfA ts ms x
  | [], _, _, _, _, _ => by cases ‹List AM› <;> trivial
  | t :: ts, [], x, us, A, h => by
    obtain ⟨m, ms', u, us', A1, A2, h1, _⟩ := h
    cases h1
  | t :: ts, m :: ms, x, us, A, h => by
    obtain ⟨m', ms', u, us', A1, A2, h1, rfl, rfl, h2, h3⟩ := h
    obtain ⟨rfl, rfl⟩ := List.cons.inj h1
    have hn : ∀ t : PT, seeT t .n = true := fun t => by cases t <;> rfl
    cases m with
    | v =>
      obtain ⟨cs, h4, _⟩ := h2
      exact ⟨rep_wf t .n _ _ _ (hn t) h4, args_wf ts ms x.2 us' A2 h3⟩
    | p =>
      obtain ⟨_, b, off, c, e, fr, _, _, _, _, h4⟩ := h2
      exact ⟨rep_wf t .n _ _ _ (hn t) h4, args_wf ts ms x.2 us' A2 h3⟩
    | o m =>
      obtain ⟨cs, h4, _⟩ := h2
      exact ⟨fun hs => rep_wf t m _ _ _ hs h4, args_wf ts ms x.2 us' A2 h3⟩
    | c f cms => exact args_wf ts ms x.2 us' A2 h3

abbrev LpT := Code → List Slot → (Ex → List Slot → Prop) → Prop
structure Walk (A : Alg) (tab : Tab) (specs : Specs) (Lp : LpT) (c : Code) (σ : List Slot) (K : Ex → List Slot → Prop) : Prop where
  out : pw A tab specs Lp c σ K

theorem runs_of_walk {P : Program} {tab : Tab} (htab : TabOk P tab) {specs : Specs} (hsp : SpecsOk P specs) {f : FuncId} {fn : Func} {c : Code} {s : FSpec} (hf : P.funcs[f]? = some fn) (hb : fn.body = some c) (hn : s.ts.length ≤ fn.ntmps) (hr : s.rm.length = s.rs.length)
    (h : ∀ (E : Env) (x : PT.denL s.ts) (A : Alg) (L : LpT), E.P = P → s.pre x → WfA s.ts s.ms x → A = real0 → L = LpR E → Walk A tab specs L c (sig0 s fn.ntmps x) (atEnd tab s fn.results.toList fun y => y = s.fn x)) : SpecRuns P f s := by
  intro w x us B h1 h2 h3 h4
  have hw := args_wf s.ts s.ms x us.toList B h3
  obtain ⟨ts, ms, rs, rm, pre, f0⟩ := s
  refine specRuns_of_pw (s := ⟨ts, ms, rs, rm, fun x => pre x ∧ WfA ts ms x, f0⟩) htab hsp hf hb hn hr (fun E x hP hpre => ?_) w x us B h1 h2 h3 ⟨h4, hw⟩
  have key := (h E x real0 (LpR E) hP hpre.1 hpre.2 rfl rfl).out
  have e : atEnd tab ⟨ts, ms, rs, rm, pre, f0⟩ fn.results.toList (fun y => y = f0 x) = atEnd tab ⟨ts, ms, rs, rm, fun x => pre x ∧ WfA ts ms x, f0⟩ fn.results.toList (fun y => y = f0 x) := by
    funext e σ
    cases e with
    | exit i => rfl
    | _ =>
      simp only [atEnd]
      cases retL tab σ rs rm fn.results.toList with
      | none => rfl
      | some p =>
        obtain ⟨y, ks⟩ := p
        cases hks : nodupB ks <;> simp only [hks]
  dsimp only at key
  rw [e] at key
  exact key

theorem loop_w {E : Env} {P : Program} {A0 : Alg} {L : LpT} {tab : Tab} (hP : E.P = P) (hA0 : A0 = real0) (hL : L = LpR E) (htab : TabOk P tab) {specs : Specs} (hsp : SpecsOk P specs) {c : Code} {σ : List Slot} {K : Ex → List Slot → Prop} {X : Type} (fs ks : List Nat) (us : X → List (Nat × Slot)) (D : X → Prop) (μ : X → Nat) (x0 : X)
    {ds : List Nat} (hds : wo ks (fs ++ dstOf c) = ds) (h0 : D x0) (hσ : headS ds (us x0) σ = wk ds σ)
    (round : ∀ x, D x → ∀ A : Alg, A = real0 → ∀ R : List Slot → Prop, (∀ σ' x', D x' → μ x' < μ x → σ' = headS ds (us x') σ → R σ') → Walk A tab specs L c (headS ds (us x) σ) fun e σ' => match e with
      | .nrm => R (wk ds σ')
      | .exit i => K (.exit i) σ'
      | .ret => K .ret σ') : L c σ K := by
  subst hA0 hL hP hds
  exact loop_atF htab hsp fs ks us D μ x0 h0 hσ fun x hx R hR => (round x hx real0 rfl R hR).out

theorem conjL_mono {p q : Prop} (h : p → q) : ∀ {qs : List Prop}, conjL qs p → conjL qs q
  | [], hp => h hp
  | _ :: qs, hp => ⟨hp.1, conjL_mono h hp.2⟩
theorem evS_mono {tab : Tab} {specs : Specs} {ops : List Oper} {K K' : List Slot → Prop} (h : ∀ σ, K σ → K' σ) : ∀ (os : List Oper) (σ : List Slot), evS real0 tab specs ops os σ K → evS real0 tab specs ops os σ K'
  | [], σ, hp => h σ hp
  | o :: os, σ, hp => by
    simp only [evS] at hp ⊢
    split
    · rename_i obs σ' hs
      rw [hs] at hp
      exact conjL_mono (evS_mono h os σ') hp
    · rename_i hs
      rw [hs] at hp
      dsimp only at hp
      split
      · rename_i obs s hl
        rw [hl] at hp
        dsimp only at hp
        split
        · rename_i d hd
          rw [hd] at hp
          dsimp only at hp
          split
          · rename_i hx
            rw [hx] at hp
            exact conjL_mono (evS_mono h os _) hp
          · rename_i hx
            rw [hx] at hp
            exact hp
        · rename_i hd
          rw [hd] at hp
          exact conjL_mono (evS_mono h os _) hp
      · rename_i hl
        rw [hl] at hp
        dsimp only at hp
        split
        · rename_i d n neg hn
          rw [hn] at hp
          dsimp only at hp
          split
          · rename_i hx
            rw [hx] at hp
            exact fun b hb => evS_mono h os _ (hp b hb)
          · rename_i hx
            rw [hx] at hp
            exact hp
        · rename_i hn
          rw [hn] at hp
          exact hp
theorem evD_mono {tab : Tab} {specs : Specs} {ops : List Oper} {ms : List Nat} {K K' : List Slot → Prop} (h : ∀ σ, K σ → K' σ) : ∀ (os : List Oper) (na : Bool) (i : Nat) (σ : List Slot), evD real0 tab specs ops ms na i os σ K → evD real0 tab specs ops ms na i os σ K'
  | [], _, _, σ, hp => h σ hp
  | o :: os, na, i, σ, hp => by
    simp only [evD] at hp ⊢
    generalize (if allCmp ms i 0 ops = true then stepX real0 tab σ o else none) = r1 at hp ⊢
    cases r1 with
    | some r => exact conjL_mono (evD_mono h os _ _ _) hp
    | none =>
      dsimp only at hp ⊢
      generalize stoD real0 tab (maskS (hidL ms i ops 0 ops) σ) o = r2 at hp ⊢
      cases r2 with
      | some r =>
        obtain ⟨k, s⟩ := r
        dsimp only at hp ⊢
        generalize σ[k]? = r3 at hp ⊢
        cases r3 with
        | none => exact hp
        | some _ =>
          dsimp only at hp ⊢
          split
          · rename_i hx; rw [if_pos hx] at hp; exact hp
          · rename_i hx; rw [if_neg hx] at hp; exact evD_mono h os _ _ _ hp
      | none =>
        dsimp only at hp ⊢
        generalize mvD real0 tab (maskS (hidL ms i ops 0 ops) σ) o = r7 at hp ⊢
        cases r7 with
        | some r =>
          obtain ⟨r, k, s⟩ := r
          dsimp only at hp ⊢
          generalize σ[k]? = r3 at hp ⊢
          cases r3 with
          | none => exact hp
          | some _ =>
            dsimp only at hp ⊢
            generalize σ[r]? = r8 at hp ⊢
            cases r8 with
            | none => exact hp
            | some _ =>
              dsimp only at hp ⊢
              split
              · rename_i hx; rw [if_pos hx] at hp; exact hp
              · rename_i hx; rw [if_neg hx] at hp; exact evD_mono h os _ _ _ hp
        | none =>
        dsimp only at hp ⊢
        generalize gvD real0 tab (maskS (hidL ms i ops 0 ops) σ) o = r9 at hp ⊢
        cases r9 with
        | some r =>
          obtain ⟨obs, r, s⟩ := r
          dsimp only at hp ⊢
          generalize o.dst = r4 at hp ⊢
          cases r4 with
          | none => exact hp
          | some d =>
            dsimp only at hp ⊢
            generalize σ[d]? = r5 at hp ⊢
            cases r5 with
            | none => exact hp
            | some _ =>
              dsimp only at hp ⊢
              generalize σ[r]? = r8 at hp ⊢
              cases r8 with
              | none => exact hp
              | some _ =>
                dsimp only at hp ⊢
                split
                · rename_i hx; rw [if_pos hx] at hp; exact hp
                · rename_i hx; rw [if_neg hx] at hp; exact conjL_mono (evD_mono h os _ _ _) hp
        | none =>
        dsimp only at hp ⊢
        generalize aAppP real0 tab (maskS (hidL ms i ops 0 ops) σ) o = r6 at hp ⊢
        cases r6 with
        | some r =>
          obtain ⟨obs, k, s⟩ := r
          dsimp only at hp ⊢
          generalize o.dst = r4 at hp ⊢
          cases r4 with
          | none => exact hp
          | some d =>
            dsimp only at hp ⊢
            generalize σ[d]? = r5 at hp ⊢
            cases r5 with
            | none => exact hp
            | some _ =>
              dsimp only at hp ⊢
              split
              · rename_i hx; rw [if_pos hx] at hp; exact hp
              · rename_i hx
                rw [if_neg hx] at hp
                cases na with
                | false => exact hp
                | true => exact conjL_mono (evD_mono h os _ _ _) hp
        | none =>
        dsimp only at hp ⊢
        generalize evL real0 tab specs ops (maskS (hidL ms i ops 0 ops) σ) o = r3 at hp ⊢
        cases r3 with
        | none => exact hp
        | some r =>
          obtain ⟨obs, s⟩ := r
          dsimp only at hp ⊢
          split
          · rename_i hx; rw [if_pos hx] at hp; exact hp
          rename_i hx
          rw [if_neg hx] at hp
          generalize o.dst = r4 at hp ⊢
          cases r4 with
          | none => exact conjL_mono (evD_mono h os _ _ _) hp
          | some d =>
            dsimp only at hp ⊢
            generalize σ[d]? = r5 at hp ⊢
            cases r5 with
            | none => exact hp
            | some _ =>
              dsimp only at hp ⊢
              split
              · rename_i hx; rw [if_pos hx] at hp; exact hp
              · rename_i hx; rw [if_neg hx] at hp; exact conjL_mono (evD_mono h os _ _ _) hp
theorem pw_monoR {E : Env} {tab : Tab} {specs : Specs} : ∀ (c : Code) (σ : List Slot) (K K' : Ex → List Slot → Prop), (∀ e σ, K e σ → K' e σ) → pw real0 tab specs (LpR E) c σ K → pw real0 tab specs (LpR E) c σ K'
  | .skip, σ, K, K', h, hp => h _ _ hp
  | .region _ ops false, σ, K, K', h, hp => evS_mono (h .nrm) _ _ hp
  | .region _ ops true, σ, K, K', h, hp => by
    simp only [pw] at hp ⊢
    split
    · rename_i ms hm
      rw [hm] at hp
      exact evD_mono (h .nrm) _ _ _ _ hp
    · rename_i hm
      rw [hm] at hp
      exact hp
  | .seq a b, σ, K, K', h, hp => by
    simp only [pw] at hp ⊢
    refine pw_monoR a σ _ _ (fun e σ' hh => ?_) hp
    cases e with
    | nrm => exact pw_monoR b σ' K K' h hh
    | exit i => exact h _ _ hh
    | ret => exact h _ _ hh
  | .cond (.tmp k) a b, σ, K, K', h, hp => by
    simp only [pw] at hp ⊢
    generalize lk σ k = s at hp ⊢
    cases s with
    | val t m x =>
      cases t <;> cases m <;> try exact hp
      exact ⟨fun hx => pw_monoR a σ K K' h (hp.1 hx), fun hx => pw_monoR b σ K K' h (hp.2 hx)⟩
    | _ => exact hp
  | .block id b, σ, K, K', h, hp => by
    simp only [pw] at hp ⊢
    refine pw_monoR b σ _ _ (fun e σ' hh => ?_) hp
    cases e with
    | nrm => exact h _ _ hh
    | exit i =>
      dsimp only at hh ⊢
      split
      · rename_i hx; rw [if_pos hx] at hh; exact h _ _ hh
      · rename_i hx; rw [if_neg hx] at hh; exact h _ _ hh
    | ret => exact h _ _ hh
  | .loop b, σ, K, K', h, hp => fun a w hst => wp_mono (hp a w hst) (fun e a w hh => postOf_mono h e a w hh)
  | .exit id, σ, K, K', h, hp => h _ _ hp
  | .ret, σ, K, K', h, hp => h _ _ hp
  | .cond (.const _) a b, σ, K, K', h, hp => hp
  | .cond (.func _) a b, σ, K, K', h, hp => hp
  | .cond (.global _) a b, σ, K, K', h, hp => hp
  | .rangeFunc .., σ, K, K', h, hp => hp
  | .scope b, σ, K, K', h, hp => hp
  | .label l, σ, K, K', h, hp => hp
  | .goto l, σ, K, K', h, hp => hp
  | .refuse s, σ, K, K', h, hp => hp
/-- A wall between two pieces of code. -/
theorem walk_seq {E : Env} {A : Alg} {tab : Tab} {specs : Specs} {Lp : LpT} (hA : A = real0) (hL : Lp = LpR E) {a b : Code} {σ : List Slot} {K : Ex → List Slot → Prop}
    (h : ∀ M : List Slot → Prop, (∀ σ', Walk A tab specs Lp b σ' K → M σ') → Walk A tab specs Lp a σ fun e σ' => match e with
      | .nrm => M σ'
      | .exit i => K (.exit i) σ'
      | .ret => K .ret σ') : Walk A tab specs Lp (.seq a b) σ K := by
  subst hA hL
  refine ⟨?_⟩
  have h := (h (fun σ' => Walk real0 tab specs (LpR E) b σ' K) fun _ h => h).out
  simp only [pw]
  refine pw_monoR a σ _ _ (fun e σ' hh => ?_) h
  cases e with
  | nrm => exact hh.out
  | exit i => exact hh
  | ret => exact hh

theorem walk_block {A : Alg} {tab : Tab} {specs : Specs} {Lp : LpT} {id : Nat} {b : Code} {σ : List Slot} {K : Ex → List Slot → Prop} (h : Walk A tab specs Lp b σ fun e σ' => match e with
    | .nrm => K .nrm σ'
    | .exit i => if Nat.beq i id then K .nrm σ' else K (.exit i) σ'
    | .ret => K .ret σ') : Walk A tab specs Lp (.block id b) σ K := ⟨h.out⟩

/-- The specs of a list, each with its function. -/
theorem specsOk_nil {P : Program} : SpecsOk P [] := by intro f s h; cases h
theorem specsOk_cons {P : Program} {g : Nat} {s : FSpec} {specs : Specs} {fn : Func} (hf : P.funcs[g]? = some fn) (hn : (fn.name == "runtime.NumGoroutine") = false) (hb : fn.body.isNone = false) (hr : SpecRuns P g s) (h : SpecsOk P specs) : SpecsOk P ((g, s) :: specs) := by
  intro f s' h'
  rcases List.mem_cons.1 h' with e | h'
  · cases e
    exact ⟨⟨fn, hf, hn, hb⟩, hr⟩
  · exact h f s' h'
/-- A promise under a narrower premise. -/
theorem runs_pre {P : Program} {f : FuncId} {s : FSpec} (h : SpecRuns P f s) {pre : PT.denL s.ts → Prop} (hp : ∀ x, pre x → s.pre x) : SpecRuns P f { s with pre := pre } :=
  fun w x us B h1 h2 h3 h4 => h w x us B h1 h2 h3 (hp x h4)
/-- The result, by another name. -/
theorem runs_fn {P : Program} {f : FuncId} {s : FSpec} (h : SpecRuns P f s) {fn : PT.denL s.ts → PT.denL s.rs} (hp : ∀ x, s.pre x → WfA s.ts s.ms x → s.fn x = fn x) : SpecRuns P f { s with fn := fn } := by
  intro w x us B h1 h2 h3 h4
  have hw := args_wf s.ts s.ms x us.toList B h3
  have := h w x us B h1 h2 h3 h4
  rw [hp x h4 hw] at this
  exact this

/-- A condition, split. -/
theorem ite_intro {A : Alg} (hA : A = real0) {b : Bool} {p q : Prop} (h1 : b = true → p) (h2 : b = false → q) : A.ite b p q := by
  subst hA; exact ⟨h1, h2⟩
theorem imp_intro {A : Alg} (hA : A = real0) {b : Bool} {p : Prop} (h1 : b = true → p) : A.imp b p := by
  subst hA; exact h1
end Go.Proofs.Ytaachifkgcdeoaa.Sy

namespace Go.Proofs.Ytaachifkgcdeoaa.Sy
open Go.RowKit
set_option linter.unusedSimpArgs false
set_option linter.unusedVariables false

theorem wrap_id {k : IntKind} {n : Int} (h : k.min ≤ n ∧ n ≤ k.max) : k.wrap n = n := by
  cases k <;> simp [IntKind.wrap, IntKind.bits, IntKind.signed, IntKind.min, IntKind.max] at h ⊢ <;> omega
theorem wrap_i64_id {n : Int} (h : -9223372036854775808 ≤ n ∧ n ≤ 9223372036854775807) : IntKind.wrap .i64 n = n := by
  rw [IntKind.wrap_i64]; omega
theorem add_i64 {x y : Int} (h : -9223372036854775808 ≤ x + y ∧ x + y ≤ 9223372036854775807) : arR .add .i64 x y = x + y := wrap_i64_id h
theorem sub_i64 {x y : Int} (h : -9223372036854775808 ≤ x - y ∧ x - y ≤ 9223372036854775807) : arR .sub .i64 x y = x - y := wrap_i64_id h
theorem mul_i64 {x y : Int} (h : -9223372036854775808 ≤ x * y ∧ x * y ≤ 9223372036854775807) : arR .mul .i64 x y = x * y := wrap_i64_id h

theorem bv_nat (n a : Nat) : BitVec.ofInt n (a : Int) = BitVec.ofNat n a := by
  apply BitVec.eq_of_toNat_eq
  simp
theorem max_lt (k : IntKind) : k.max < 2 ^ k.bits := by cases k <;> decide
theorem nat_lt {k : IntKind} {a : Nat} (h : (a : Int) ≤ k.max) : a < 2 ^ k.bits := by
  have := max_lt k
  have e : ((2 ^ k.bits : Nat) : Int) = 2 ^ k.bits := by simp
  omega
theorem min_le0 (k : IntKind) : k.min ≤ 0 := by cases k <;> decide
theorem and_N {k : IntKind} {a b : Nat} (ha : (a : Int) ≤ k.max) (hb : (b : Int) ≤ k.max) : arR .and k a b = ((a &&& b : Nat) : Int) := by
  show k.wrap ((BitVec.ofInt k.bits (a : Int) &&& BitVec.ofInt k.bits (b : Int)).toNat) = _
  rw [bv_nat, bv_nat, BitVec.toNat_and, BitVec.toNat_ofNat, BitVec.toNat_ofNat, Nat.mod_eq_of_lt (nat_lt ha), Nat.mod_eq_of_lt (nat_lt hb)]
  refine wrap_id ⟨Int.le_trans (min_le0 k) (by omega), ?_⟩
  have : a &&& b ≤ a := Nat.and_le_left
  omega
theorem or_lt {k : IntKind} {a b : Nat} (ha : (a : Int) ≤ k.max) (hb : (b : Int) ≤ k.max) : ((a ||| b : Nat) : Int) ≤ k.max := by
  obtain ⟨m, hm⟩ : ∃ m : Nat, k.max = 2 ^ m - 1 := by
    cases k
    · exact ⟨7, rfl⟩
    · exact ⟨15, rfl⟩
    · exact ⟨31, rfl⟩
    · exact ⟨63, rfl⟩
    · exact ⟨8, rfl⟩
    · exact ⟨16, rfl⟩
    · exact ⟨32, rfl⟩
    · exact ⟨64, rfl⟩
  have e : ((2 ^ m : Nat) : Int) = (2 : Int) ^ m := by simp
  have h1 : a ||| b < 2 ^ m := Nat.or_lt_two_pow (by omega) (by omega)
  omega
theorem xor_lt {k : IntKind} {a b : Nat} (ha : (a : Int) ≤ k.max) (hb : (b : Int) ≤ k.max) : ((a ^^^ b : Nat) : Int) ≤ k.max := by
  obtain ⟨m, hm⟩ : ∃ m : Nat, k.max = 2 ^ m - 1 := by
    cases k
    · exact ⟨7, rfl⟩
    · exact ⟨15, rfl⟩
    · exact ⟨31, rfl⟩
    · exact ⟨63, rfl⟩
    · exact ⟨8, rfl⟩
    · exact ⟨16, rfl⟩
    · exact ⟨32, rfl⟩
    · exact ⟨64, rfl⟩
  have e : ((2 ^ m : Nat) : Int) = (2 : Int) ^ m := by simp
  have h1 : a ^^^ b < 2 ^ m := Nat.xor_lt_two_pow (by omega) (by omega)
  omega
theorem or_N {k : IntKind} {a b : Nat} (ha : (a : Int) ≤ k.max) (hb : (b : Int) ≤ k.max) : arR .or k a b = ((a ||| b : Nat) : Int) := by
  show k.wrap ((BitVec.ofInt k.bits (a : Int) ||| BitVec.ofInt k.bits (b : Int)).toNat) = _
  rw [bv_nat, bv_nat, BitVec.toNat_or, BitVec.toNat_ofNat, BitVec.toNat_ofNat, Nat.mod_eq_of_lt (nat_lt ha), Nat.mod_eq_of_lt (nat_lt hb)]
  exact wrap_id ⟨Int.le_trans (min_le0 k) (by omega), or_lt ha hb⟩
theorem xor_N {k : IntKind} {a b : Nat} (ha : (a : Int) ≤ k.max) (hb : (b : Int) ≤ k.max) : arR .xor k a b = ((a ^^^ b : Nat) : Int) := by
  show k.wrap ((BitVec.ofInt k.bits (a : Int) ^^^ BitVec.ofInt k.bits (b : Int)).toNat) = _
  rw [bv_nat, bv_nat, BitVec.toNat_xor, BitVec.toNat_ofNat, BitVec.toNat_ofNat, Nat.mod_eq_of_lt (nat_lt ha), Nat.mod_eq_of_lt (nat_lt hb)]
  exact wrap_id ⟨Int.le_trans (min_le0 k) (by omega), xor_lt ha hb⟩
theorem andNot_N {k : IntKind} {a b : Nat} (ha : (a : Int) ≤ k.max) (hb : (b : Int) ≤ k.max) : arR .andNot k a b = ((a &&& (2 ^ k.bits - 1 - b) : Nat) : Int) := by
  show k.wrap ((BitVec.ofInt k.bits (a : Int) &&& ~~~ BitVec.ofInt k.bits (b : Int)).toNat) = _
  rw [bv_nat, bv_nat, BitVec.toNat_and, BitVec.toNat_not, BitVec.toNat_ofNat, BitVec.toNat_ofNat, Nat.mod_eq_of_lt (nat_lt ha), Nat.mod_eq_of_lt (nat_lt hb)]
  refine wrap_id ⟨Int.le_trans (min_le0 k) (by omega), ?_⟩
  have : a &&& (2 ^ k.bits - 1 - b) ≤ a := Nat.and_le_left
  omega
theorem shr_N {k : IntKind} {a n : Nat} (hn : n ≤ k.bits) : arR .shr k a n = ((a / 2 ^ n : Nat) : Int) := by
  show ((a : Nat) : Int).fdiv (2 ^ (min ((n : Nat) : Int).toNat k.bits)) = _
  rw [Int.toNat_natCast, Nat.min_eq_left hn, Int.fdiv_eq_ediv_of_nonneg _ (Int.le_of_lt (Int.pow_pos (by decide)))]
  simp
theorem shl_N {k : IntKind} {a n : Nat} (hn : n ≤ k.bits) (h : ((a * 2 ^ n : Nat) : Int) ≤ k.max) : arR .shl k a n = ((a * 2 ^ n : Nat) : Int) := by
  show k.wrap (((a : Nat) : Int) * 2 ^ (min ((n : Nat) : Int).toNat k.bits)) = _
  rw [Int.toNat_natCast, Nat.min_eq_left hn]
  have e : ((a : Nat) : Int) * 2 ^ n = ((a * 2 ^ n : Nat) : Int) := by simp
  rw [e]
  exact wrap_id ⟨Int.le_trans (min_le0 k) (by omega), h⟩
theorem conv_N {k : IntKind} {n : Int} (h : k.min ≤ n ∧ n ≤ k.max) : real0.conv k n = n := wrap_id h
end Go.Proofs.Ytaachifkgcdeoaa.Sy

namespace Go.Proofs.Ytaachifkgcdeoaa.Sy
open Go.RowKit
set_option linter.unusedSimpArgs false
set_option linter.unusedVariables false

/-! ### Functions that may fail -/
open Classical in
/-- What is behind a check. -/
noncomputable def ck {Z : Type} (p : Prop) (m : Option Z) : Option Z := if p then m else none
theorem map_isSome {Y Z : Type} {m : Option Y} {f : Y → Z} (h : m.isSome = true) : (m.map f).isSome = true := by cases m <;> first | exact h | rfl
theorem ck_out {Z : Type} {p : Prop} {m : Option Z} {z : Z} (h : ck p m = some z) : p ∧ m = some z := by
  unfold ck at h
  split at h
  · exact ⟨by assumption, h⟩
  · cases h
theorem ck_in {Z : Type} {p : Prop} {m : Option Z} (h : p) : ck p m = m := if_pos h
theorem bind_out {Y Z : Type} {m : Option Y} {f : Y → Option Z} {z : Z} (h : m.bind f = some z) : ∃ y, m = some y ∧ f y = some z := by
  cases m with
  | none => cases h
  | some y => exact ⟨y, rfl, h⟩
theorem map_out {Y Z : Type} {m : Option Y} {f : Y → Z} {z : Z} (h : m.map f = some z) : ∃ y, m = some y ∧ f y = z := by
  cases m with
  | none => cases h
  | some y => exact ⟨y, rfl, Option.some.inj h⟩
theorem if_t {Z : Type} {c : Bool} {m n : Option Z} {z : Z} (h : (if c = true then m else n) = some z) (hc : c = true) : m = some z := by rw [if_pos hc] at h; exact h
theorem if_f {Z : Type} {c : Bool} {m n : Option Z} {z : Z} (h : (if c = true then m else n) = some z) (hc : c = false) : n = some z := by rw [if_neg (by rw [hc]; decide)] at h; exact h

def iterO {X Z : Type} (B : X → Option (X ⊕ Z)) : Nat → X → Option Z
  | 0, _ => none
  | n + 1, x => match B x with
    | none => none
    | some (.inl x') => iterO B n x'
    | some (.inr z) => some z
theorem iterO_s {X Z : Type} {B : X → Option (X ⊕ Z)} {n : Nat} {x : X} : iterO B (n + 1) x = match B x with
    | none => none
    | some (.inl x') => iterO B n x'
    | some (.inr z) => some z := rfl
theorem iterO_succ {X Z : Type} {B : X → Option (X ⊕ Z)} : ∀ (n : Nat) (x : X) (z : Z), iterO B n x = some z → iterO B (n + 1) x = some z
  | 0, x, z, h => by cases h
  | n + 1, x, z, h => by
    rw [iterO_s] at h ⊢
    cases hB : B x with
    | none => rw [hB] at h; cases h
    | some r =>
      rw [hB] at h
      cases r with
      | inl x' => exact iterO_succ n x' z h
      | inr z' => exact h
theorem iterO_le {X Z : Type} {B : X → Option (X ⊕ Z)} {n m : Nat} (hnm : n ≤ m) {x : X} {z : Z} (h : iterO B n x = some z) : iterO B m x = some z := by
  induction hnm with
  | refl => exact h
  | step _ ih => exact iterO_succ _ _ _ ih
open Classical in
/-- A loop: rounds until one ends it; nothing, if none does. -/
noncomputable def loopO {X Z : Type} (B : X → Option (X ⊕ Z)) (x : X) : Option Z :=
  if h : ∃ z n, iterO B n x = some z then some (Classical.choose h) else none
theorem loopO_iff {X Z : Type} {B : X → Option (X ⊕ Z)} {x : X} {z : Z} : loopO B x = some z ↔ ∃ n, iterO B n x = some z := by
  unfold loopO
  constructor
  · intro h
    split at h
    · rename_i hh
      obtain rfl := Option.some.inj h
      exact Classical.choose_spec hh
    · cases h
  · rintro ⟨n, h⟩
    have hh : ∃ z n, iterO B n x = some z := ⟨z, n, h⟩
    rw [dif_pos hh]
    obtain ⟨m, hm⟩ := Classical.choose_spec hh
    congr 1
    have h1 := iterO_le (Nat.le_max_left n m) h
    have h2 := iterO_le (Nat.le_max_right n m) hm
    rw [h1] at h2
    exact (Option.some.inj h2).symm
theorem loopO_eq {X Z : Type} (B : X → Option (X ⊕ Z)) (x : X) : loopO B x = match B x with
    | none => none
    | some (.inl x') => loopO B x'
    | some (.inr z) => some z := by
  cases hB : B x with
  | none =>
    cases hl : loopO B x with
    | none => rfl
    | some z =>
      obtain ⟨n, h⟩ := loopO_iff.1 hl
      cases n with
      | zero => cases h
      | succ n => rw [iterO_s, hB] at h; cases h
  | some r =>
    cases r with
    | inr z => exact loopO_iff.2 ⟨1, by rw [iterO_s, hB]⟩
    | inl x' =>
      apply Option.ext
      intro z
      rw [loopO_iff]
      constructor
      · rintro ⟨n, h⟩
        cases n with
        | zero => cases h
        | succ n => rw [iterO_s, hB] at h; exact loopO_iff.2 ⟨n, h⟩
      · intro h
        obtain ⟨n, hn⟩ := loopO_iff.1 h
        exact ⟨n + 1, by rw [iterO_s, hB]; exact hn⟩
theorem loopO_next {X Z : Type} {B : X → Option (X ⊕ Z)} {x x' : X} (h : B x = some (.inl x')) : loopO B x = loopO B x' := by rw [loopO_eq, h]
theorem loopO_done {X Z : Type} {B : X → Option (X ⊕ Z)} {x : X} {z : Z} (h : B x = some (.inr z)) : loopO B x = some z := by rw [loopO_eq, h]
theorem loopO_fuel {X Z : Type} {B : X → Option (X ⊕ Z)} (n : Nat) {x : X} {z : Z} (h : iterO B n x = some z) : loopO B x = some z := loopO_iff.2 ⟨n, h⟩
/-- A loop's law: what holds at each round's start, what decreases, what it ends in. -/
theorem loopO_law {X Z : Type} {B : X → Option (X ⊕ Z)} (I : X → Prop) (μ : X → Nat) (Q : Z → Prop) (h : ∀ x, I x → (∃ x', B x = some (.inl x') ∧ I x' ∧ μ x' < μ x) ∨ ∃ z, B x = some (.inr z) ∧ Q z) {x : X} (hx : I x) : ∃ z, loopO B x = some z ∧ Q z := by
  generalize hn : μ x = n
  induction n using Nat.strongRecOn generalizing x with
  | _ n ih =>
    rcases h x hx with ⟨x', h1, h2, h3⟩ | ⟨z, h1, h2⟩
    · rw [loopO_next h1]
      exact ih (μ x') (by omega) h2 rfl
    · exact ⟨z, loopO_done h1, h2⟩
/-- The same, for one that is known to end. -/
theorem loopO_inv {X Z : Type} {B : X → Option (X ⊕ Z)} (I : X → Prop) (Q : Z → Prop) (hn : ∀ x x', I x → B x = some (.inl x') → I x') (hd : ∀ x z, I x → B x = some (.inr z) → Q z) {x : X} {z : Z} (hx : I x) (h : loopO B x = some z) : Q z := by
  obtain ⟨n, h'⟩ := loopO_iff.1 h
  clear h
  induction n generalizing x with
  | zero => cases h'
  | succ n ih =>
    rw [iterO] at h'
    split at h'
    · cases h'
    · rename_i hb; exact ih (hn _ _ hx hb) h'
    · rename_i hb; obtain rfl := Option.some.inj h'; exact hd _ _ hx hb

/-! ### Equality of values, as Go compares -/
theorem listEqb_iff {α : Type} {f : α → α → Bool} (hf : ∀ x y, f x y = true ↔ x = y) : ∀ {x y : List α}, listEqb f x y = true ↔ x = y
  | [], [] => by simp [listEqb]
  | [], _ :: _ => by simp [listEqb]
  | _ :: _, [] => by simp [listEqb]
  | a :: x, b :: y => by simp only [listEqb, Bool.and_eq_true, hf, listEqb_iff hf, List.cons.injEq]
theorem ba_loop (s : ByteArray) : ∀ (n i : Nat) (r : List UInt8), n = s.size - i → ByteArray.toList.loop s i r = r.reverse ++ s.data.toList.drop i
  | 0, i, r, h => by
    unfold ByteArray.toList.loop
    have hs : s.data.toList.length = s.size := rfl
    rw [if_neg (by omega), List.drop_eq_nil_of_le (by omega), List.append_nil]
  | n + 1, i, r, h => by
    unfold ByteArray.toList.loop
    have hs : s.data.toList.length = s.size := rfl
    have hi : i < s.data.toList.length := by omega
    rw [if_pos (by omega), ba_loop s n (i + 1) _ (by omega), List.reverse_cons, List.append_assoc]
    congr 1
    rw [List.drop_eq_getElem_cons hi]
    have : s.get! i = s.data.toList[i] := by
      cases s with
      | mk d =>
        show d[i]! = d.toList[i]
        have hi' : i < d.size := by simpa using hi
        simp [getElem!_pos, hi']
    rw [this]
    rfl
theorem ba_toList (s : ByteArray) : s.toList = s.data.toList := by
  show ByteArray.toList.loop s 0 [] = _
  rw [ba_loop s s.size 0 [] rfl]
  rfl
theorem ba_eq {x y : ByteArray} (h : x.toList = y.toList) : x = y := by
  rw [ba_toList, ba_toList] at h
  cases x; cases y
  congr
  exact Array.toList_inj.1 h
mutual
def eqOk : PT → Bool
  | .int _ | .bool | .str => true
  | .list _ | .box _ => false
  | .arr _ t => eqOk t
  | .st ts => eqOkL ts
def eqOkL : List PT → Bool
  | [] => true
  | t :: ts => eqOk t && eqOkL ts
end
mutual
theorem eqb_iff : ∀ (t : PT), eqOk t = true → ∀ x y : t.den, PT.eqb t x y = true ↔ x = y
  | .int k, _, x, y => by
    simp only [PT.eqb]
    exact @decide_eq_true_iff ((show Int from x) = (show Int from y)) _
  | .bool, _, x, y => by
    simp only [PT.eqb]
    exact @beq_iff_eq Bool _ _ (show Bool from x) (show Bool from y)
  | .str, _, x, y => by
    simp only [PT.eqb]
    constructor
    · intro h; exact ba_eq (beq_iff_eq.1 h)
    · intro h; subst h; exact beq_iff_eq.2 rfl
  | .list t, h, _, _ => by simp [eqOk] at h
  | .box t, h, _, _ => by simp [eqOk] at h
  | .arr n t, h, x, y => by
    simp only [eqOk] at h
    simp only [PT.eqb]
    exact listEqb_iff (fun a b => eqb_iff t h a b)
  | .st ts, h, x, y => by
    simp only [eqOk] at h
    simp only [PT.eqb]
    exact eqbL_iff ts h x y
theorem eqbL_iff : ∀ (ts : List PT), eqOkL ts = true → ∀ x y : PT.denL ts, PT.eqbL ts x y = true ↔ x = y
  | [], _, x, y => by simp only [PT.eqbL]; exact ⟨fun _ => rfl, fun _ => trivial⟩
  | t :: ts, h, x, y => by
    simp only [eqOkL, Bool.and_eq_true] at h
    simp only [PT.eqbL, Bool.and_eq_true]
    rw [eqb_iff t h.1, eqbL_iff ts h.2]
    obtain ⟨x1, x2⟩ := x
    obtain ⟨y1, y2⟩ := y
    exact ⟨fun h => Prod.ext h.1 h.2, fun h => ⟨congrArg Prod.fst h, congrArg Prod.snd h⟩⟩
end
open Classical in
/-- What does not depend on how a comparison with nil comes out. -/
noncomputable def nilO {Z : Type} (n : Int) (f : Bool → Option Z) : Option Z := if n = 0 then (if f true = f false then f false else none) else f false
theorem nilO_out {Z : Type} {n : Int} {f : Bool → Option Z} {z : Z} (h : nilO n f = some z) : ∀ b : Bool, (b = true → n = 0) → f b = some z := by
  intro b hb
  unfold nilO at h
  split at h
  · split at h
    · rename_i e
      cases b
      · exact h
      · rw [e]; exact h
    · cases h
  · rename_i hn
    cases b
    · exact h
    · exact absurd (hb rfl) hn
theorem nilO_in {Z : Type} {n : Int} {f : Bool → Option Z} {z : Z} (h : ∀ b : Bool, (b = true → n = 0) → f b = some z) : nilO n f = some z := by
  unfold nilO
  split
  · rename_i hn
    rw [if_pos (by rw [h true (fun _ => hn), h false (fun e => by cases e)])]
    exact h false (fun e => by cases e)
  · exact h false (fun e => by cases e)
theorem nilq_in {A : Alg} (hA : A = real0) {n : Int} {f : Bool → Prop} (h : ∀ b : Bool, (b = true → n = 0) → f b) : A.nilq n f := hA ▸ h
def maxL : Int := 4294967296
def maxS : Int := 1099511627776
/-! ### Slots kept, all others forgotten -/
def inB (k : Nat) : List Nat → Bool
  | [] => false
  | j :: js => Nat.beq j k || inB k js
def keepS (ks : List Nat) : Nat → List Slot → List Slot
  | _, [] => []
  | i, s :: σ => (match inB i ks && s.deps.all (fun d => inB d ks) with
    | true => s
    | false => .dead) :: keepS ks (i + 1) σ
theorem keepS_length (ks : List Nat) : ∀ (i : Nat) (σ : List Slot), (keepS ks i σ).length = σ.length
  | _, [] => rfl
  | i, s :: σ => by simp [keepS, keepS_length ks (i + 1) σ]
theorem keepS_get (ks : List Nat) : ∀ (σ : List Slot) (i k : Nat), (keepS ks i σ).getD k .dead = if inB (i + k) ks && (σ.getD k .dead).deps.all (fun d => inB d ks) then σ.getD k .dead else .dead
  | [], i, k => by simp [keepS]
  | s :: σ, i, 0 => by
    simp only [keepS, List.getD_cons_zero, Nat.add_zero]
    cases (inB i ks && s.deps.all fun d => inB d ks) <;> rfl
  | s :: σ, i, k + 1 => by
    have := keepS_get ks σ (i + 1) k
    simp only [keepS, List.getD_cons_succ]
    rw [this, show i + 1 + k = i + (k + 1) by omega]
theorem dead_deps : Slot.deps .dead = [] := rfl
theorem keep_state {E : Env} {σ : List Slot} {a : Act} {w : World} (ks : List Nat) (h : RepState E σ a w) : RepState E (keepS ks 0 σ) a w := by
  obtain ⟨h1, h2, h3, ow, how, hflN, hflo, hsl⟩ := h
  refine ⟨h1, by rw [keepS_length, h2], h3, ow, how, hflN, hflo, fun k => ?_⟩
  obtain ⟨B, hB1, hB2, hB3⟩ := hsl k
  have hg := keepS_get ks σ 0 k
  rw [Nat.zero_add] at hg
  by_cases hk : (inB k ks && (σ.getD k .dead).deps.all (fun d => inB d ks)) = true
  · rw [if_pos hk] at hg
    simp only [Bool.and_eq_true, List.all_eq_true] at hk
    refine ⟨B, hB1, hB2, ?_⟩
    rw [hg]
    refine repSlot_mono (fun _ _ => rfl) _ _ B (fun _ _ => rfl) (fun r hr => ?_) hB3
    have hri := hk.2 r hr
    obtain ⟨C, hC1, hC2, hC3⟩ := hsl r
    have hl : ∀ t m x, σ.getD r .dead = .val t m x → (keepS ks 0 σ).getD r .dead = σ.getD r .dead := by
      intro t m x e
      have hg2 := keepS_get ks σ 0 r
      rw [Nat.zero_add] at hg2
      rw [hg2, if_pos]
      rw [hri, e]
      rfl
    exact ⟨rfl, fun p v' cur cs' hr' => rooted_keep hC1 hC3 (fun _ _ => rfl) hl rfl hr', fun p b off hr' => rootedF_keep (fun t m x e => ⟨m, x, (hl t m x e).trans e, fun m1 e => ⟨m1, e⟩⟩) rfl hr'⟩
  · rw [if_neg hk] at hg
    exact ⟨[], List.nodup_nil, fun b hb => by simp at hb, by rw [hg]; rfl⟩

/-- Slots, given by those of which something is known. -/
def mkSl : Nat → Nat → List (Nat × Slot) → List Slot
  | 0, _, _ => []
  | n + 1, i, (k, s) :: l => if Nat.beq k i then s :: mkSl n (i + 1) l else .dead :: mkSl n (i + 1) ((k, s) :: l)
  | n + 1, i, [] => .dead :: mkSl n (i + 1) []

/-! ### Triples -/
structure Tr (E : Env) (c : Code) (σ : List Slot) (K : Ex → List Slot → Prop) : Prop where
  out : ∀ a w, RepState E σ a w → c.wp E.P (postOf E K) a w

theorem Tr.mono {E : Env} {c : Code} {σ : List Slot} {K K' : Ex → List Slot → Prop} (h : Tr E c σ K) (hk : ∀ e σ, K e σ → K' e σ) : Tr E c σ K' :=
  ⟨fun a w hst => wp_mono (h.out a w hst) (postOf_mono hk)⟩
theorem tr_keep {E : Env} {c : Code} {σ : List Slot} {K : Ex → List Slot → Prop} (ks : List Nat) {σ' : List Slot} (e : keepS ks 0 σ = σ') (h : Tr E c σ' K) : Tr E c σ K :=
  ⟨fun a w hst => h.out a w (e ▸ keep_state ks hst)⟩
def seqK (E : Env) (b : Code) (K : Ex → List Slot → Prop) : Ex → List Slot → Prop := fun e σ' => match e with
  | .nrm => Tr E b σ' K
  | .exit i => K (.exit i) σ'
  | .ret => K .ret σ'
def blockK (id : Nat) (K : Ex → List Slot → Prop) : Ex → List Slot → Prop := fun e σ' => match e with
  | .nrm => K .nrm σ'
  | .exit i => match Nat.beq i id with
    | true => K .nrm σ'
    | false => K (.exit i) σ'
  | .ret => K .ret σ'
def leafK (P : List Slot → Prop) : Ex → List Slot → Prop := fun e σ' => match e with
  | .nrm => P σ'
  | .exit _ => False
  | .ret => False
/-- A round of a loop that is left at one place. -/
def loopBK {X Y : Type} (id : Nat) (S : X → List Slot) (ks : List Nat) (S2 : Y → List Slot) (ks2 : List Nat) (r : X ⊕ Y) : Ex → List Slot → Prop := fun e σ' => match e with
  | .nrm => ∃ x', r = .inl x' ∧ keepS ks 0 σ' = S x'
  | .exit i => i = id ∧ ∃ y, r = .inr y ∧ keepS ks2 0 σ' = S2 y
  | .ret => False
def loopEK {X Y Z : Type} (id : Nat) (S : X → List Slot) (ks : List Nat) (S2 : Y → List Slot) (ks2 : List Nat) (z : Z) (K : Ex → List Slot → Prop) (r : X ⊕ (Y ⊕ Z)) : Ex → List Slot → Prop := fun e σ' => match e with
  | .nrm => ∃ x', r = .inl x' ∧ keepS ks 0 σ' = S x'
  | .exit i => i = id ∧ ∃ y, r = .inr (.inl y) ∧ keepS ks2 0 σ' = S2 y
  | .ret => ∃ w, r = .inr (.inr w) ∧ (w = z → K .ret σ')
def loopRK {X Z : Type} (S : X → List Slot) (ks : List Nat) (z : Z) (K : Ex → List Slot → Prop) (r : X ⊕ Z) : Ex → List Slot → Prop := fun e σ' => match e with
  | .nrm => ∃ x', r = .inl x' ∧ keepS ks 0 σ' = S x'
  | .exit _ => False
  | .ret => ∃ w, r = .inr w ∧ (w = z → K .ret σ')
theorem tr_seq {E : Env} {a b : Code} {σ : List Slot} {K : Ex → List Slot → Prop} (h : Tr E a σ (seqK E b K)) : Tr E (.seq a b) σ K := by
  unfold seqK at h
  refine ⟨fun x w hst => wp_seq (wp_mono (h.out x w hst) fun e a' w' hp => ?_)⟩
  cases e <;> simp only [postOf, Exit.then] at hp ⊢ <;> try exact hp
  obtain ⟨σ', h1, h2⟩ := hp
  exact h1.out a' w' h2
theorem tr_block {E : Env} {id : Nat} {b : Code} {σ : List Slot} {K : Ex → List Slot → Prop} (h : Tr E b σ (blockK id K)) : Tr E (.block id b) σ K := by
  unfold blockK at h
  refine ⟨fun x w hst => wp_block (wp_mono (h.out x w hst) fun e a' w' hp => ?_)⟩
  cases e <;> simp only [postOf, Exit.inBlock] at hp ⊢ <;> try exact hp
  rename_i i
  obtain ⟨σ', h1, h2⟩ := hp
  by_cases hid : i = id
  · subst hid
    have e : Nat.beq i i = true := by simp
    rw [e] at h1
    rw [if_pos rfl]
    exact ⟨σ', h1, h2⟩
  · have e : Nat.beq i id = false := by
      cases hb : Nat.beq i id with
      | false => rfl
      | true => exact absurd (Nat.eq_of_beq_eq_true hb) hid
    rw [e] at h1
    rw [if_neg hid]
    exact ⟨σ', h1, h2⟩
theorem tr_cond {E : Env} {k : Nat} {x y : Code} {σ : List Slot} {K : Ex → List Slot → Prop} {b : Bool} (hk : lk σ k = .val .bool .n b) (h1 : b = true → Tr E x σ K) (h2 : b = false → Tr E y σ K) : Tr E (.cond (.tmp k) x y) σ K := by
  refine ⟨fun a w hst => ?_⟩
  obtain ⟨ow, how, _, _, hsl⟩ := hst.slots
  obtain ⟨B, _, _, hr⟩ := hsl k
  rw [show σ.getD k .dead = .val .bool .n b from hk] at hr
  obtain ⟨e1, _⟩ := rep_bool hr
  refine wp_cond (t := b) e1 ?_
  cases b
  · exact (h2 rfl).out a w hst
  · exact (h1 rfl).out a w hst
theorem tr_skip {E : Env} {σ : List Slot} {K : Ex → List Slot → Prop} (h : K .nrm σ) : Tr E .skip σ K := ⟨fun a w hst => wp_skip ⟨σ, h, hst⟩⟩
theorem tr_exit {E : Env} {id : Nat} {σ : List Slot} {K : Ex → List Slot → Prop} (h : K (.exit id) σ) : Tr E (.exit id) σ K := ⟨fun a w hst => wp_exit ⟨σ, h, hst⟩⟩
theorem tr_ret {E : Env} {σ : List Slot} {K : Ex → List Slot → Prop} (h : K .ret σ) : Tr E .ret σ K := ⟨fun a w hst => wp_ret ⟨σ, h, hst⟩⟩
theorem tr_pw {E : Env} {P : Program} (hP : E.P = P) {tab : Tab} (htab : TabOk P tab) {specs : Specs} (hsp : SpecsOk P specs) {c : Code} {σ : List Slot} {K : Ex → List Slot → Prop} (h : pw real0 tab specs (LpR E) c σ K) : Tr E c σ K := by
  subst hP
  exact ⟨fun a w hst => pw_sound htab hsp c σ K h a w hst⟩
/-- A region, run: M is what comes behind it. -/
def regA (A : Alg) (tab : Tab) (specs : Specs) : Code → List Slot → (List Slot → Prop) → Prop
  | .region _ ops false, σ, M => evS A tab specs ops.toList ops.toList σ M
  | .region _ ops true, σ, M => match masksGo ops.toList 0 [] with
    | some ms => evD A tab specs ops.toList ms (noApps σ) 0 ops.toList σ M
    | none => False
  | _, _, _ => False
theorem regA_pw {E : Env} {tab : Tab} {specs : Specs} {c : Code} {σ : List Slot} {M : List Slot → Prop} {K : Ex → List Slot → Prop} (h : regA real0 tab specs c σ M) (hK : ∀ σ', M σ' → K .nrm σ') : pw real0 tab specs (LpR E) c σ K := by
  cases c <;> simp only [regA] at h
  rename_i id ops d
  cases d <;> simp only [regA, pw] at h ⊢
  · exact evS_mono hK _ _ h
  · split
    · rename_i ms hm
      rw [hm] at h
      exact evD_mono hK _ _ _ _ h
    · rename_i hm
      rw [hm] at h
      exact h
theorem tr_reg {E : Env} {P : Program} (hP : E.P = P) {A : Alg} (hA : A = real0) {tab : Tab} (htab : TabOk P tab) {specs : Specs} (hsp : SpecsOk P specs) {c : Code} {σ : List Slot} {K : Ex → List Slot → Prop}
    (h : ∀ M : List Slot → Prop, (∀ σ', K .nrm σ' → M σ') → regA A tab specs c σ M) : Tr E c σ K := by
  subst hA
  exact tr_pw hP htab hsp (regA_pw (h (K .nrm) fun _ h => h) fun _ h => h)
theorem tr_regS {E : Env} {P : Program} (hP : E.P = P) {A : Alg} (hA : A = real0) {tab : Tab} (htab : TabOk P tab) {specs : Specs} (hsp : SpecsOk P specs) {c b : Code} {σ : List Slot} {K : Ex → List Slot → Prop}
    (h : ∀ M : List Slot → Prop, (∀ σ', Tr E b σ' K → M σ') → regA A tab specs c σ M) : Tr E (.seq c b) σ K :=
  tr_seq (tr_reg hP hA htab hsp fun M hM => h M hM)

/-- **A LOOP**, as the function that it is. -/
theorem tr_loop {E : Env} {X Z : Type} {c : Code} (B : X → Option (X ⊕ Z)) (S : X → List Slot) (ks : List Nat) (K : Z → Ex → List Slot → Prop)
    (body : ∀ x r, B x = some r → Tr E c (S x) fun e σ' => match e with
      | .nrm => ∃ x', r = .inl x' ∧ keepS ks 0 σ' = S x'
      | .exit i => ∃ z, r = .inr z ∧ K z (.exit i) σ'
      | .ret => ∃ z, r = .inr z ∧ K z .ret σ') {x : X} {z : Z} (h : loopO B x = some z) : Tr E (.loop c) (S x) (K z) := by
  obtain ⟨n, hn⟩ := loopO_iff.1 h
  refine ⟨fun a w hst => ?_⟩
  refine wp_loop_ghost (fun n a w => ∃ x, iterO B n x = some z ∧ RepState E (S x) a w) n ⟨x, hn, hst⟩ fun n a w hI => ?_
  obtain ⟨x, hx, hst⟩ := hI
  cases n with
  | zero => cases hx
  | succ n =>
    rw [iterO] at hx
    cases hb : B x with
    | none => rw [hb] at hx; cases hx
    | some r =>
      rw [hb] at hx
      refine wp_mono ((body x r hb).out a w hst) fun e a' w' hp => ?_
      cases e <;> simp only [postOf, Exit.then] at hp ⊢ <;> try exact hp
      · obtain ⟨σ', ⟨x', rfl, h2⟩, h3⟩ := hp
        exact ⟨n, Nat.lt_succ_self n, x', hx, h2 ▸ keep_state ks h3⟩
      · obtain ⟨σ', ⟨z', rfl, h2⟩, h3⟩ := hp
        dsimp only at hx
        obtain rfl := Option.some.inj hx
        exact ⟨σ', h2, h3⟩
      · obtain ⟨σ', ⟨z', rfl, h2⟩, h3⟩ := hp
        dsimp only at hx
        obtain rfl := Option.some.inj hx
        exact ⟨σ', h2, h3⟩

/-- A value by a name. -/
def letO {α Z : Type} (e : α) (f : α → Option Z) : Option Z := f e
/-- One of two values, by a name. -/
def mergeO {α Z : Type} (c : Bool) (x y : α) (f : α → Option Z) : Option Z := f (if c = true then x else y)
theorem merge_t {α Z : Type} {c : Bool} {x y : α} {f : α → Option Z} {z : Z} (h : mergeO c x y f = some z) (hc : c = true) : f x = some z := by unfold mergeO at h; rw [if_pos hc] at h; exact h
theorem merge_f {α Z : Type} {c : Bool} {x y : α} {f : α → Option Z} {z : Z} (h : mergeO c x y f = some z) (hc : c = false) : f y = some z := by unfold mergeO at h; rw [if_neg (by rw [hc]; decide)] at h; exact h
/-- What may end early. -/
def bindE {Y Z : Type} (m : Option (Y ⊕ Z)) (f : Y → Option Z) : Option Z := m.bind fun q => match q with
  | .inl y => f y
  | .inr z => some z
theorem bindE_out {Y Z : Type} {m : Option (Y ⊕ Z)} {f : Y → Option Z} {z : Z} (h : bindE m f = some z) : ∃ q, m = some q ∧ (∀ y, q = .inl y → f y = some z) ∧ ∀ w, q = .inr w → w = z := by
  obtain ⟨q, h1, h2⟩ := bind_out h
  refine ⟨q, h1, fun y e => by subst e; exact h2, fun w e => by subst e; exact Option.some.inj h2⟩
theorem bindE_l {Y Z : Type} {m : Option (Y ⊕ Z)} {f : Y → Option Z} {y : Y} (h : m = some (.inl y)) : bindE m f = f y := by rw [h]; rfl
theorem bindE_r {Y Z : Type} {m : Option (Y ⊕ Z)} {f : Y → Option Z} {z : Z} (h : m = some (.inr z)) : bindE m f = some z := by rw [h]; rfl

theorem keep_sub {ks ks2 : List Nat} (h : ∀ k, inB k ks = true → inB k ks2 = true) : ∀ (i : Nat) (σ : List Slot), keepS ks i (keepS ks2 i σ) = keepS ks i σ
  | _, [] => rfl
  | i, s :: σ => by
    simp only [keepS, keep_sub h (i + 1) σ]
    congr 1
    cases hk : inB i ks with
    | false => simp
    | true =>
      rw [h i hk]
      simp only [Bool.true_and]
      cases hd : s.deps.all (fun d => inB d ks) with
      | true =>
        have : s.deps.all (fun d => inB d ks2) = true := by
          simp only [List.all_eq_true] at hd ⊢
          exact fun d hm => h d (hd d hm)
        rw [this]
        dsimp only
        rw [hd]
      | false =>
        cases hd2 : s.deps.all (fun d => inB d ks2) with
        | true => dsimp only; rw [hd]
        | false => dsimp only; simp [Slot.deps]
def subB : List Nat → List Nat → Bool
  | [], _ => true
  | k :: ks, ks2 => inB k ks2 && subB ks ks2
theorem subB_out : ∀ {ks ks2 : List Nat}, subB ks ks2 = true → ∀ k, inB k ks = true → inB k ks2 = true
  | [], _, _, k, h => by cases h
  | j :: ks, ks2, hs, k, h => by
    simp only [subB, Bool.and_eq_true] at hs
    simp only [inB, Bool.or_eq_true] at h
    rcases h with h | h
    · rw [← Nat.eq_of_beq_eq_true h]; exact hs.1
    · exact subB_out hs.2 k h
theorem tr_keepL {E : Env} {c : Code} {σ : List Slot} {K : Ex → List Slot → Prop} {α Z : Type} (ks : List Nat) (S : α → List Slot) {e : α} {f : α → Option Z} {z : Z} (H : letO e f = some z) (hσ : keepS ks 0 σ = S e) (h : ∀ v, f v = some z → Tr E c (S v) K) : Tr E c σ K :=
  tr_keep ks hσ (h e H)
/-- A place where ways meet. -/
theorem tr_join {E : Env} {Y Z : Type} {c rest : Code} {σ : List Slot} {K K' : Ex → List Slot → Prop} (J : Y → Option Z) (S : Y → List Slot) (ks : List Nat) {z : Z} (hK : ∀ σ', Tr E rest σ' K' → K .nrm σ') (hJ : ∀ y, J y = some z → Tr E rest (S y) K')
    (h : (∀ y σ', J y = some z → keepS ks 0 σ' = S y → K .nrm σ') → Tr E c σ K) : Tr E c σ K := h fun y σ' h1 h2 => hK _ (tr_keep ks h2 (hJ y h1))
/-- A loop that is left at one place. -/
theorem tr_loopB {E : Env} {X Y : Type} {c : Code} {σ : List Slot} {K : Ex → List Slot → Prop} (id : Nat) (B : X → Option (X ⊕ Y)) (S : X → List Slot) (ks : List Nat) (S2 : Y → List Slot) (ks2 : List Nat) {x0 : X} {q : Y} (hq : loopO B x0 = some q) (hσ : σ = S x0) (conv : ∀ σ', keepS ks2 0 σ' = S2 q → K (.exit id) σ')
    (body : ∀ x r, B x = some r → Tr E c (S x) (loopBK id S ks S2 ks2 r)) : Tr E (.loop c) σ K := by
  subst hσ
  refine (tr_loop B S ks (fun q e σ' => e = .exit id ∧ keepS ks2 0 σ' = S2 q) (fun x r hx => (body x r hx).mono fun e σ' he => ?_) hq).mono fun e σ' he => ?_
  · cases e with
    | nrm => exact he
    | exit i => obtain ⟨rfl, y, h1, h2⟩ := he; exact ⟨y, h1, rfl, h2⟩
    | ret => exact he.elim
  · obtain ⟨rfl, h⟩ := he
    exact conv σ' h
/-- A loop that is left at one place, or by a return. -/
theorem tr_loopE {E : Env} {X Y Z : Type} {c : Code} {σ : List Slot} {K : Ex → List Slot → Prop} (id : Nat) (B : X → Option (X ⊕ (Y ⊕ Z))) (S : X → List Slot) (ks : List Nat) (S2 : Y → List Slot) (ks2 : List Nat) {x0 : X} {q : Y ⊕ Z} {z : Z} (hq : loopO B x0 = some q) (hσ : σ = S x0) (hz : ∀ w, q = .inr w → w = z) (conv : ∀ y, q = .inl y → ∀ σ', keepS ks2 0 σ' = S2 y → K (.exit id) σ')
    (body : ∀ x r, B x = some r → Tr E c (S x) (loopEK id S ks S2 ks2 z K r)) : Tr E (.loop c) σ K := by
  subst hσ
  refine (tr_loop B S ks (fun q e σ' => match q with
    | .inl y => e = .exit id ∧ keepS ks2 0 σ' = S2 y
    | .inr w => w = z → K e σ') (fun x r hx => (body x r hx).mono fun e σ' he => ?_) hq).mono fun e σ' he => ?_
  · cases e with
    | nrm => exact he
    | exit i => obtain ⟨rfl, y, h1, h2⟩ := he; exact ⟨_, h1, rfl, h2⟩
    | ret => obtain ⟨w, h1, h2⟩ := he; exact ⟨_, h1, h2⟩
  · cases q with
    | inl y => obtain ⟨rfl, h⟩ := he; exact conv y rfl σ' h
    | inr w => exact he (hz w rfl)
/-- A loop that is left by a return alone. -/
theorem tr_loopR {E : Env} {X Z : Type} {c : Code} {σ : List Slot} {K : Ex → List Slot → Prop} (B : X → Option (X ⊕ Z)) (S : X → List Slot) (ks : List Nat) {x0 : X} {z : Z} (hq : loopO B x0 = some z) (hσ : σ = S x0)
    (body : ∀ x r, B x = some r → Tr E c (S x) (loopRK S ks z K r)) : Tr E (.loop c) σ K := by
  subst hσ
  refine (tr_loop B S ks (fun q e σ' => q = z → K e σ') (fun x r hx => (body x r hx).mono fun e σ' he => ?_) hq).mono fun e σ' he => he rfl
  cases e with
  | nrm => exact he
  | exit i => exact he.elim
  | ret => exact he
/-- A region, as it is run. -/
theorem tr_rg {E : Env} {P : Program} (hP : E.P = P) {tab : Tab} (htab : TabOk P tab) {specs : Specs} (hsp : SpecsOk P specs) {c : Code} {σ : List Slot} {K : Ex → List Slot → Prop}
    (h : ∀ A : Alg, A = real0 → ∀ M : List Slot → Prop, (∀ σ', K .nrm σ' → M σ') → regA A tab specs c σ M) : Tr E c σ K :=
  tr_reg hP rfl htab hsp fun M hM => h real0 rfl M hM
def sidxO (s : ByteArray) (i : Int) : Int := ((s.data.toList.getD i.toNat 0).toNat : Int)
theorem letO_out {α Z : Type} {e : α} {f : α → Option Z} {z : Z} (h : letO e f = some z) : ∃ v, v = e ∧ f v = some z := ⟨e, rfl, h⟩
theorem tr_merge {E : Env} {Y Z : Type} {k : Nat} {x y rest : Code} {σ : List Slot} {K K' : Ex → List Slot → Prop} {b : Bool} {v1 v2 : Y} {f : Y → Option Z} {z : Z} (S : Y → List Slot) (ks : List Nat) (H : mergeO b v1 v2 f = some z) (hk : lk σ k = .val .bool .n b) (hK : ∀ σ', Tr E rest σ' K' → K .nrm σ') (hJ : ∀ y, f y = some z → Tr E rest (S y) K')
    (h1 : b = true → Tr E x σ (leafK fun σ' => keepS ks 0 σ' = S v1)) (h2 : b = false → Tr E y σ (leafK fun σ' => keepS ks 0 σ' = S v2)) : Tr E (.cond (.tmp k) x y) σ K := by
  refine tr_cond hk (fun hb => ?_) (fun hb => ?_)
  · refine (h1 hb).mono fun e σ' he => ?_
    cases e with
    | nrm => exact hK _ (tr_keep ks he (hJ v1 (merge_t H hb)))
    | exit i => exact he.elim
    | ret => exact he.elim
  · refine (h2 hb).mono fun e σ' he => ?_
    cases e with
    | nrm => exact hK _ (tr_keep ks he (hJ v2 (merge_f H hb)))
    | exit i => exact he.elim
    | ret => exact he.elim
def mnI (x y : Int) : Int := if y < x then y else x
def mxI (x y : Int) : Int := if y > x then y else x

/-- A function's promise, from a triple. -/
theorem runs_of_tr {P : Program} {tab : Tab} (htab : TabOk P tab) {f : FuncId} {fn : Func} {c : Code} {s : FSpec} (hf : P.funcs[f]? = some fn) (hb : fn.body = some c) (hn : s.ts.length ≤ fn.ntmps) (hr : s.rm.length = s.rs.length)
    (h : ∀ (E : Env) (x : PT.denL s.ts), E.P = P → s.pre x → WfA s.ts s.ms x → Tr E c (sig0 s fn.ntmps x) (atEnd tab s fn.results.toList fun y => y = s.fn x)) : SpecRuns P f s := by
  intro w x us B h1 h2 h3 h4
  have hw := args_wf s.ts s.ms x us.toList B h3
  obtain ⟨ts, ms, rs, rm, pre, f0⟩ := s
  refine specRuns_of_wp (s := ⟨ts, ms, rs, rm, fun x => pre x ∧ WfA ts ms x, f0⟩) htab hf hb hn hr (fun E x hP hpre => ?_) w x us B h1 h2 h3 ⟨h4, hw⟩
  have key := (h E x hP hpre.1 hpre.2).out
  have e : atEnd tab ⟨ts, ms, rs, rm, pre, f0⟩ fn.results.toList (fun y => y = f0 x) = atEnd tab ⟨ts, ms, rs, rm, fun x => pre x ∧ WfA ts ms x, f0⟩ fn.results.toList (fun y => y = f0 x) := by
    funext e σ
    cases e with
    | exit i => rfl
    | _ =>
      simp only [atEnd]
      cases retL tab σ rs rm fn.results.toList with
      | none => rfl
      | some p =>
        obtain ⟨y, ks⟩ := p
        cases hks : nodupB ks <;> simp only [hks]
  dsimp only at key
  rw [e] at key
  exact key

/-- A promise that is a function's that may fail. -/
def oSpec (ts : List PT) (ms : List AM) (rs : List PT) (rm : List Md) (F : PT.denL ts → Option (PT.denL rs)) : FSpec := ⟨ts, ms, rs, rm, fun x => (F x).isSome = true, fun x => (F x).getD (PT.dfltL rs)⟩
theorem runs_of_o {P : Program} {tab : Tab} (htab : TabOk P tab) {f : FuncId} {fn : Func} {c : Code} {ts : List PT} {ms : List AM} {rs : List PT} {rm : List Md} {F : PT.denL ts → Option (PT.denL rs)} (hf : P.funcs[f]? = some fn) (hb : fn.body = some c) (hn : ts.length ≤ fn.ntmps) (hr : rm.length = rs.length)
    (h : ∀ (E : Env) (x : PT.denL ts) (y : PT.denL rs), E.P = P → F x = some y → WfA ts ms x → Tr E c (sig0 (oSpec ts ms rs rm F) fn.ntmps x) (atEnd tab (oSpec ts ms rs rm F) fn.results.toList fun r => r = y)) : SpecRuns P f (oSpec ts ms rs rm F) := by
  refine runs_of_tr (s := oSpec ts ms rs rm F) htab hf hb hn hr fun E x hP hpre hw => ?_
  obtain ⟨y, hy⟩ := Option.isSome_iff_exists.1 (show (F x).isSome = true from hpre)
  have := h E x y hP hy hw
  have e : (oSpec ts ms rs rm F).fn x = y := by show (F x).getD _ = y; rw [hy]; rfl
  rw [e]
  exact this
theorem spec_hide {P : Program} {g : FuncId} {ts : List PT} {ms : List AM} {rs : List PT} {rm : List Md} {F : PT.denL ts → Option (PT.denL rs)} (h : SpecRuns P g (oSpec ts ms rs rm F)) :
    ∃ (pg : PT.denL ts → Prop) (fg : PT.denL ts → PT.denL rs), SpecRuns P g ⟨ts, ms, rs, rm, pg, fg⟩ ∧ (∀ x y, F x = some y → pg x ∧ fg x = y) ∧ (∀ x, (F x).isSome = true → pg x) ∧ ∀ x, fg x = (F x).getD (PT.dfltL rs) :=
  ⟨_, _, h, fun x y e => ⟨by show (F x).isSome = true; rw [e]; rfl, by show (F x).getD _ = y; rw [e]; rfl⟩, fun x e => e, fun x => rfl⟩
/-- What a function that may fail yields, where it is known. -/
theorem runs_law {P : Program} {f : FuncId} {ts : List PT} {F : PT.denL ts → Option (PT.denL [.bool])} (h : SpecRuns P f (oSpec ts (ts.map fun _ => AM.v) [.bool] [.n] F)) (hl : ∀ x, okL ts x → bulkL ts x ≤ 1048576 → WfA ts (ts.map fun _ => AM.v) x → F x = some (true, ())) : SpecRuns P f (lawSpec ts) := by
  intro w x us B h1 h2 h3 h4
  have hw := args_wf _ _ x us.toList B h3
  have e := hl x h4.1 h4.2 hw
  have := h w x us B h1 h2 h3 (by show (F x).isSome = true; rw [e]; rfl)
  have e2 : (oSpec ts (ts.map fun _ => AM.v) [.bool] [.n] F).fn x = (true, ()) := by show (F x).getD _ = _; rw [e]; rfl
  rw [e2] at this
  exact this
end Go.Proofs.Ytaachifkgcdeoaa.Sy
