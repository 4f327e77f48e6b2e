/- A symbolic run of a function's code: typed values in memory, what each operation does to them, and why that is so (part a). Each theorem bears its conditions itself. -/
import Derived.Calls
import Derived.OrdersHeld
import Derived.Below
import Derived.Deep.MidRow
import Derived.Laws.Sem
import GoSem.Dispatch
namespace Go.Proofs.Ytaachifkgcdeoaa.Sy
set_option linter.unusedSimpArgs false
set_option linter.unusedVariables false
open Go.RowKit

/-! ### Types -/
inductive PT where
  | int (k : IntKind)
  | bool
  | str
  | list (t : PT)
  | arr (n : Nat) (t : PT)
  | st (ts : List PT)
  | box (t : PT)
deriving Inhabited

mutual
def PT.den : PT → Type
  | .int _ => Int
  | .bool => Bool
  | .str => ByteArray
  | .list t => List t.den
  | .arr _ t => List t.den
  | .st ts => PT.denL ts
  | .box t => t.den
def PT.denL : List PT → Type
  | [] => Unit
  | t :: ts => t.den × PT.denL ts
end

mutual
def PT.dflt : (t : PT) → t.den
  | .int _ => (0 : Int)
  | .bool => false
  | .str => ByteArray.empty
  | .list _ => []
  | .arr n t => List.replicate n t.dflt
  | .st ts => PT.dfltL ts
  | .box t => t.dflt
def PT.dfltL : (ts : List PT) → PT.denL ts
  | [] => ()
  | t :: ts => (t.dflt, PT.dfltL ts)
end

mutual
/-- How many cells. -/
def PT.size : PT → Nat
  | .int _ | .bool | .str | .list _ | .box _ => 1
  | .arr n t => n * t.size
  | .st ts => PT.sizeL ts
def PT.sizeL : List PT → Nat
  | [] => 0
  | t :: ts => t.size + PT.sizeL ts
end

def PT.isAgg : PT → Bool
  | .arr _ _ | .st _ => true
  | _ => false

mutual
def PT.beq : PT → PT → Bool
  | .int k, .int k' => decide (k = k')
  | .bool, .bool => true
  | .str, .str => true
  | .list t, .list t' => PT.beq t t'
  | .arr n t, .arr n' t' => decide (n = n') && PT.beq t t'
  | .st ts, .st ts' => PT.beqL ts ts'
  | .box t, .box t' => PT.beq t t'
  | _, _ => false
def PT.beqL : List PT → List PT → Bool
  | [], [] => true
  | t :: ts, t' :: ts' => PT.beq t t' && PT.beqL ts ts'
  | _, _ => false
end
mutual
theorem PT.eq_of_beq : ∀ {t t' : PT}, PT.beq t t' = true → t = t'
  | .int k, t', h => by cases t' <;> simp_all [PT.beq]
  | .bool, t', h => by cases t' <;> simp_all [PT.beq]
  | .str, t', h => by cases t' <;> simp_all [PT.beq]
  | .list t, t', h => by
    cases t' <;> simp [PT.beq] at h
    rw [PT.eq_of_beq h]
  | .arr n t, t', h => by
    cases t' <;> simp [PT.beq] at h
    rw [PT.eq_of_beq h.2, h.1]
  | .st ts, t', h => by
    cases t' <;> simp [PT.beq] at h
    rw [PT.eq_of_beqL h]
  | .box t, t', h => by
    cases t' <;> simp [PT.beq] at h
    rw [PT.eq_of_beq h]
theorem PT.eq_of_beqL : ∀ {t t' : List PT}, PT.beqL t t' = true → t = t'
  | [], t', h => by cases t' <;> simp_all [PT.beqL]
  | t :: ts, t', h => by
    cases t' <;> simp [PT.beqL] at h
    rw [PT.eq_of_beq h.1, PT.eq_of_beqL h.2]
end
/-- The same value at the same type. -/
def castT (t t' : PT) (x : t.den) : Option t'.den :=
  if h : PT.beq t t' = true then some ((PT.eq_of_beq h) ▸ x) else none
theorem castT_some {t t' : PT} {x : t.den} {y : t'.den} (h : castT t t' x = some y) : ∃ e : t = t', y = e ▸ x := by
  unfold castT at h
  split at h
  · rename_i hb
    exact ⟨PT.eq_of_beq hb, (Option.some.inj h).symm⟩
  · cases h

/-! ### What is owned: 'n' nothing (what lies in memory is looked at alone), 'j' nothing is known of the cells, 'l' a list of one's own (its array is nobody else's), 'a' an array's elements, 's' a struct's fields, 'b' a variable of one's own -/
inductive Md where
  | n | j
  | l (m : Md)
  | a (m : Md)
  | s (ms : List Md)
  | b (m : Md)
deriving Inhabited

def Md.fld : Md → Nat → Md
  | .s ms, i => ms.getD i .j
  | _, _ => .n

/-- No frozen cell. -/
def Free (c : Array Value) (fr : Nat × Nat) : Prop := ∀ j, j < c.size → ¬ (fr.1 ≤ j ∧ j < fr.2)

def RepL {α : Type} (R : α → List Value → List Nat → Prop) : List α → List Value → List Nat → Prop
  | [], cs, A => cs = [] ∧ A = []
  | x :: xs, cs, A => ∃ c1 c2 A1 A2, cs = c1 ++ c2 ∧ A = A1 ++ A2 ∧ R x c1 A1 ∧ RepL R xs c2 A2

mutual
/-- The value x of type t lies in the cells cs; F: blocks that nobody writes; A: the blocks that belong to it. -/
def Rep (w : World) (F : Nat → Prop) : (t : PT) → Md → t.den → List Value → List Nat → Prop
  | .int k, m, x, cs, A => A = [] ∧ match m with
    | .n => cs = [Value.int k x] ∧ k.min ≤ (show Int from x) ∧ (show Int from x) ≤ k.max
    | .j => cs.length = 1 ∧ ∀ v ∈ cs, v.oneCell' = true
    | _ => False
  | .bool, m, x, cs, A => A = [] ∧ match m with
    | .n => cs = [Value.bool x]
    | .j => cs.length = 1 ∧ ∀ v ∈ cs, v.oneCell' = true
    | _ => False
  | .str, m, x, cs, A => A = [] ∧ match m with
    | .n => cs = [Value.string x] ∧ (show ByteArray from x).size ≤ 1099511627776
    | .j => cs.length = 1 ∧ ∀ v ∈ cs, v.oneCell' = true
    | _ => False
  | .list t, m, xs, cs, A => match m with
    | .n => A = [] ∧ xs.length ≤ 4294967296 ∧ ∃ a cap, cs = [Value.slice a xs.length cap] ∧ xs.length ≤ cap ∧ (xs = [] ∨ ∃ b off c e fr, a = some ⟨b, off, none⟩ ∧ F b ∧ w.heap[b]? = some (.cells c e fr) ∧
        off + xs.length * t.size ≤ c.size ∧ RepL (Rep w F t .n) xs ((c.toList.drop off).take (xs.length * t.size)) [])
    | .l m => xs.length ≤ 4294967296 ∧ ∃ a cap, cs = [Value.slice a xs.length cap] ∧ ((xs = [] ∧ cap = 0 ∧ A = []) ∨ ∃ b off c e fr A', a = some ⟨b, off, none⟩ ∧ A = b :: A' ∧ w.heap[b]? = some (.cells c e fr) ∧ Free c fr ∧
        xs.length ≤ cap ∧ off + cap * t.size ≤ c.size ∧ RepL (Rep w F t m) xs ((c.toList.drop off).take (xs.length * t.size)) A')
    | .j => A = [] ∧ cs.length = 1 ∧ ∀ v ∈ cs, v.oneCell' = true
    | _ => False
  | .arr n t, m, xs, cs, A => match m with
    | .n => List.length xs = n ∧ RepL (Rep w F t .n) xs cs A
    | .a m => List.length xs = n ∧ RepL (Rep w F t m) xs cs A
    | .j => A = [] ∧ cs.length = n * t.size ∧ ∀ v ∈ cs, v.oneCell' = true
    | _ => False
  | .st ts, m, x, cs, A => match m with
    | .n => RepS w F ts .n 0 x cs A
    | .s ms => RepS w F ts (.s ms) 0 x cs A
    | .j => A = [] ∧ cs.length = PT.sizeL ts ∧ ∀ v ∈ cs, v.oneCell' = true
    | _ => False
  | .box t, m, x, cs, A => match m with
    | .n => A = [] ∧ ∃ b c e fr, cs = [Value.pointer (some ⟨b, 0, none⟩)] ∧ F b ∧ w.heap[b]? = some (.cells c e fr) ∧ Rep w F t .n x c.toList []
    | .b m => ∃ b c e fr A', cs = [Value.pointer (some ⟨b, 0, none⟩)] ∧ A = b :: A' ∧ w.heap[b]? = some (.cells c e fr) ∧ Free c fr ∧ Rep w F t m x c.toList A'
    | .j => A = [] ∧ cs.length = 1 ∧ ∀ v ∈ cs, v.oneCell' = true
    | _ => False
def RepS (w : World) (F : Nat → Prop) : (ts : List PT) → Md → Nat → PT.denL ts → List Value → List Nat → Prop
  | [], _, _, _, cs, A => cs = [] ∧ A = []
  | t :: ts, m, i, x, cs, A => ∃ c1 c2 A1 A2, cs = c1 ++ c2 ∧ A = A1 ++ A2 ∧ Rep w F t (m.fld i) x.1 c1 A1 ∧ RepS w F ts m (i + 1) x.2 c2 A2
end


/-! ### Lists of such values -/
theorem repL_mono {α : Type} {R R' : α → List Value → List Nat → Prop} : ∀ (xs : List α) (cs : List Value) (A : List Nat), (∀ x c A', (∀ b ∈ A', b ∈ A) → R x c A' → R' x c A') → RepL R xs cs A → RepL R' xs cs A
  | [], _, _, _, h => h
  | x :: xs, cs, A, hm, h => by
    obtain ⟨c1, c2, A1, A2, rfl, rfl, h1, h2⟩ := h
    exact ⟨c1, c2, A1, A2, rfl, rfl, hm x c1 A1 (fun b hb => by simp [hb]) h1, repL_mono xs c2 A2 (fun x c A' hb => hm x c A' (fun b h => by simp [hb b h])) h2⟩

theorem repL_length {α : Type} {R : α → List Value → List Nat → Prop} {n : Nat} (hR : ∀ x c A, R x c A → c.length = n) : ∀ (xs : List α) (cs : List Value) (A : List Nat), RepL R xs cs A → cs.length = xs.length * n
  | [], cs, A, h => by simp [h.1]
  | x :: xs, cs, A, h => by
    obtain ⟨c1, c2, A1, A2, rfl, rfl, h1, h2⟩ := h
    rw [List.length_append, hR _ _ _ h1, repL_length hR xs c2 A2 h2, List.length_cons, Nat.succ_mul, Nat.add_comm]

theorem repL_append {α : Type} {R : α → List Value → List Nat → Prop} : ∀ {xs ys : List α} {c1 c2 : List Value} {A1 A2 : List Nat}, RepL R xs c1 A1 → RepL R ys c2 A2 → RepL R (xs ++ ys) (c1 ++ c2) (A1 ++ A2)
  | [], ys, c1, c2, A1, A2, h1, h2 => by
    obtain ⟨rfl, rfl⟩ := h1
    exact h2
  | x :: xs, ys, c1, c2, A1, A2, h1, h2 => by
    obtain ⟨d1, d2, B1, B2, rfl, rfl, h3, h4⟩ := h1
    exact ⟨d1, d2 ++ c2, B1, B2 ++ A2, by simp, by simp, h3, repL_append h4 h2⟩

theorem repL_split {α : Type} {R : α → List Value → List Nat → Prop} : ∀ {xs ys : List α} {cs : List Value} {A : List Nat}, RepL R (xs ++ ys) cs A → ∃ c1 c2 A1 A2, cs = c1 ++ c2 ∧ A = A1 ++ A2 ∧ RepL R xs c1 A1 ∧ RepL R ys c2 A2
  | [], ys, cs, A, h => ⟨[], cs, [], A, rfl, rfl, ⟨rfl, rfl⟩, h⟩
  | x :: xs, ys, cs, A, h => by
    obtain ⟨c1, c2, A1, A2, rfl, rfl, h1, h2⟩ := h
    obtain ⟨d1, d2, B1, B2, rfl, rfl, h3, h4⟩ := repL_split h2
    exact ⟨c1 ++ d1, d2, A1 ++ B1, B2, by simp, by simp, ⟨c1, d1, A1, B1, rfl, rfl, h1, h3⟩, h4⟩

/-- The i-th element, and whatever is put in its place. -/
theorem repL_at {α : Type} {R : α → List Value → List Nat → Prop} {n : Nat} (hR : ∀ x c A, R x c A → c.length = n) {xs : List α} {cs : List Value} {A : List Nat} (h : RepL R xs cs A) {i : Nat} (hi : i < xs.length) :
    ∃ c1 c c2 A1 A' A2, cs = c1 ++ (c ++ c2) ∧ A = A1 ++ (A' ++ A2) ∧ c1.length = i * n ∧ R xs[i] c A' ∧
      ∀ (R' : α → List Value → List Nat → Prop) y d B, (∀ x c A'', (∀ b ∈ A'', b ∈ A1 ++ A2) → R x c A'' → R' x c A'') → R' y d B → RepL R' (xs.set i y) (c1 ++ (d ++ c2)) (A1 ++ (B ++ A2)) := by
  have hx : xs = xs.take i ++ (xs[i] :: xs.drop (i + 1)) := by
    rw [List.getElem_cons_drop, List.take_append_drop]
  rw [hx] at h
  obtain ⟨c1, c2, A1, A2, rfl, rfl, h1, h2⟩ := repL_split h
  obtain ⟨d1, d2, B1, B2, rfl, rfl, h3, h4⟩ := h2
  refine ⟨c1, d1, d2, A1, B1, B2, rfl, rfl, ?_, h3, fun R' y d B hm hy => ?_⟩
  · rw [repL_length hR _ _ _ h1, List.length_take, Nat.min_eq_left (by omega)]
  · have hs : xs.set i y = xs.take i ++ (y :: xs.drop (i + 1)) := by
      rw [List.set_eq_take_append_cons_drop, if_pos hi]
    rw [hs]
    exact repL_append (repL_mono _ _ _ (fun x c A' hb => hm x c A' (fun b hb' => by simp [hb b hb'])) h1)
      ⟨d, d2, B, B2, rfl, rfl, hy, repL_mono _ _ _ (fun x c A' hb => hm x c A' (fun b hb' => by simp [hb b hb'])) h4⟩

/-! ### Sizes; a world that is the same at what is looked at -/
mutual
theorem rep_length {w : World} {F : Nat → Prop} : ∀ (t : PT) (m : Md) (x : t.den) (cs : List Value) (A : List Nat), Rep w F t m x cs A → cs.length = t.size
  | .int k, m, x, cs, A, h => by cases m <;> simp_all [Rep, PT.size]
  | .bool, m, x, cs, A, h => by cases m <;> simp_all [Rep, PT.size]
  | .str, m, x, cs, A, h => by cases m <;> simp_all [Rep, PT.size]
  | .list t, m, x, cs, A, h => by
    cases m <;> simp only [Rep] at h
    · obtain ⟨_, _, a, cap, rfl, _⟩ := h; rfl
    · simp [h.2, PT.size]
    · obtain ⟨_, a, cap, rfl, _⟩ := h; rfl
  | .arr n t, m, x, cs, A, h => by
    cases m <;> simp only [Rep] at h
    · rw [repL_length (fun x c A h => rep_length t _ x c A h) _ _ _ h.2, h.1]; rfl
    · simp [h.2, PT.size]
    · rw [repL_length (fun x c A h => rep_length t _ x c A h) _ _ _ h.2, h.1]; rfl
  | .st ts, m, x, cs, A, h => by
    cases m <;> simp only [Rep] at h
    · exact repS_length ts _ _ x cs A h
    · simp [h.2, PT.size]
    · exact repS_length ts _ _ x cs A h
  | .box t, m, x, cs, A, h => by
    cases m <;> simp only [Rep] at h
    · obtain ⟨_, b, c, e, fr, rfl, _⟩ := h; rfl
    · simp [h.2, PT.size]
    · obtain ⟨b, c, e, fr, A', rfl, _⟩ := h; rfl
theorem repS_length {w : World} {F : Nat → Prop} : ∀ (ts : List PT) (m : Md) (i : Nat) (x : PT.denL ts) (cs : List Value) (A : List Nat), RepS w F ts m i x cs A → cs.length = PT.sizeL ts
  | [], _, _, _, cs, A, h => by simp [RepS] at h; simp [h.1, PT.sizeL]
  | t :: ts, m, i, x, cs, A, h => by
    simp only [RepS] at h
    obtain ⟨c1, c2, A1, A2, rfl, rfl, h1, h2⟩ := h
    rw [List.length_append, rep_length t _ _ c1 A1 h1, repS_length ts _ _ _ c2 A2 h2]; rfl
end

mutual
theorem rep_frame {w w' : World} {F F' : Nat → Prop} (hF : ∀ b, F b → F' b) (hw : ∀ b, F b → w'.heap[b]? = w.heap[b]?) :
    ∀ (t : PT) (m : Md) (x : t.den) (cs : List Value) (A : List Nat), (∀ b ∈ A, w'.heap[b]? = w.heap[b]?) → Rep w F t m x cs A → Rep w' F' t m x cs A
  | .int k, m, x, cs, A, _, h => by cases m <;> simp_all [Rep]
  | .bool, m, x, cs, A, _, h => by cases m <;> simp_all [Rep]
  | .str, m, x, cs, A, _, h => by cases m <;> simp_all [Rep]
  | .list t, m, x, cs, A, hA, h => by
    cases m <;> simp only [Rep] at h ⊢
    · obtain ⟨h1, h0, a, cap, h2, hcl, h3⟩ := h
      refine ⟨h1, h0, a, cap, h2, hcl, h3.imp id ?_⟩
      rintro ⟨b, off, c, e, fr, g1, g2, g3, g4, g5⟩
      exact ⟨b, off, c, e, fr, g1, hF b g2, (hw b g2).trans g3, g4, repL_mono _ _ _ (fun x c A' hb hr => rep_frame hF hw t _ x c A' (fun b hb' => absurd (hb b hb') (by simp)) hr) g5⟩
    · exact h
    · obtain ⟨h0, a, cap, h2, h3⟩ := h
      refine ⟨h0, a, cap, h2, h3.imp id ?_⟩
      rintro ⟨b, off, c, e, fr, A', g1, rfl, g3, g4, g5, g6, g7⟩
      exact ⟨b, off, c, e, fr, A', g1, rfl, (hA b (by simp)).trans g3, g4, g5, g6, repL_mono _ _ _ (fun x c A'' hb hr => rep_frame hF hw t _ x c A'' (fun b hb' => hA b (by simp [hb b hb'])) hr) g7⟩
  | .arr n t, m, x, cs, A, hA, h => by
    cases m <;> simp only [Rep] at h ⊢
    · exact ⟨h.1, repL_mono _ _ _ (fun x c A' hb hr => rep_frame hF hw t _ x c A' (fun b hb' => hA b (hb b hb')) hr) h.2⟩
    · exact h
    · exact ⟨h.1, repL_mono _ _ _ (fun x c A' hb hr => rep_frame hF hw t _ x c A' (fun b hb' => hA b (hb b hb')) hr) h.2⟩
  | .st ts, m, x, cs, A, hA, h => by
    cases m <;> simp only [Rep] at h ⊢
    · exact repS_frame hF hw ts _ _ x cs A hA h
    · exact h
    · exact repS_frame hF hw ts _ _ x cs A hA h
  | .box t, m, x, cs, A, hA, h => by
    cases m <;> simp only [Rep] at h ⊢
    · obtain ⟨h1, b, c, e, fr, h2, h3, h4, h5⟩ := h
      exact ⟨h1, b, c, e, fr, h2, hF b h3, (hw b h3).trans h4, rep_frame hF hw t _ x c.toList [] (fun b hb => absurd hb (by simp)) h5⟩
    · exact h
    · obtain ⟨b, c, e, fr, A', h2, rfl, h4, h5, h6⟩ := h
      exact ⟨b, c, e, fr, A', h2, rfl, (hA b (by simp)).trans h4, h5, rep_frame hF hw t _ x c.toList A' (fun b hb => hA b (by simp [hb])) h6⟩
theorem repS_frame {w w' : World} {F F' : Nat → Prop} (hF : ∀ b, F b → F' b) (hw : ∀ b, F b → w'.heap[b]? = w.heap[b]?) :
    ∀ (ts : List PT) (m : Md) (i : Nat) (x : PT.denL ts) (cs : List Value) (A : List Nat), (∀ b ∈ A, w'.heap[b]? = w.heap[b]?) → RepS w F ts m i x cs A → RepS w' F' ts m i x cs A
  | [], _, _, _, cs, A, _, h => by simpa [RepS] using h
  | t :: ts, m, i, x, cs, A, hA, h => by
    simp only [RepS] at h ⊢
    obtain ⟨c1, c2, A1, A2, rfl, rfl, h1, h2⟩ := h
    exact ⟨c1, c2, A1, A2, rfl, rfl, rep_frame hF hw t _ _ c1 A1 (fun b hb => hA b (by simp [hb])) h1, repS_frame hF hw ts _ _ _ c2 A2 (fun b hb => hA b (by simp [hb])) h2⟩
end

theorem repL_all {α : Type} {R : α → List Value → List Nat → Prop} (hR : ∀ x c A, R x c A → ∀ v ∈ c, v.oneCell' = true) : ∀ (xs : List α) (cs : List Value) (A : List Nat), RepL R xs cs A → ∀ v ∈ cs, v.oneCell' = true
  | [], cs, A, h => by simp [h.1]
  | x :: xs, cs, A, h => by
    obtain ⟨c1, c2, A1, A2, rfl, rfl, h1, h2⟩ := h
    intro v hv
    rcases List.mem_append.1 hv with hv | hv
    · exact hR _ _ _ h1 v hv
    · exact repL_all hR xs c2 A2 h2 v hv
mutual
/-- Each cell holds a value of one cell. -/
theorem rep_one {w : World} {F : Nat → Prop} : ∀ (t : PT) (m : Md) (x : t.den) (cs : List Value) (A : List Nat), Rep w F t m x cs A → ∀ v ∈ cs, v.oneCell' = true
  | .int k, m, x, cs, A, h => by
    cases m <;> simp only [Rep] at h <;> try (exact h.2.elim)
    · obtain ⟨_, rfl, _⟩ := h; simp [Value.oneCell']
    · exact h.2.2
  | .bool, m, x, cs, A, h => by
    cases m <;> simp only [Rep] at h <;> try (exact h.2.elim)
    · obtain ⟨_, rfl⟩ := h; simp [Value.oneCell']
    · exact h.2.2
  | .str, m, x, cs, A, h => by
    cases m <;> simp only [Rep] at h <;> try (exact h.2.elim)
    · obtain ⟨_, rfl, _⟩ := h; simp [Value.oneCell']
    · exact h.2.2
  | .list t, m, x, cs, A, h => by
    cases m <;> simp only [Rep] at h
    · obtain ⟨_, _, a, cap, rfl, _⟩ := h; simp [Value.oneCell']
    · exact h.2.2
    · obtain ⟨_, a, cap, rfl, _⟩ := h; simp [Value.oneCell']
  | .arr n t, m, x, cs, A, h => by
    cases m <;> simp only [Rep] at h
    · exact repL_all (fun x c A h => rep_one t _ x c A h) _ _ _ h.2
    · exact h.2.2
    · exact repL_all (fun x c A h => rep_one t _ x c A h) _ _ _ h.2
  | .st ts, m, x, cs, A, h => by
    cases m <;> simp only [Rep] at h
    · exact repS_one ts _ _ x cs A h
    · exact h.2.2
    · exact repS_one ts _ _ x cs A h
  | .box t, m, x, cs, A, h => by
    cases m <;> simp only [Rep] at h
    · obtain ⟨_, b, c, e, fr, rfl, _⟩ := h; simp [Value.oneCell']
    · exact h.2.2
    · obtain ⟨b, c, e, fr, A', rfl, _⟩ := h; simp [Value.oneCell']
theorem repS_one {w : World} {F : Nat → Prop} : ∀ (ts : List PT) (m : Md) (i : Nat) (x : PT.denL ts) (cs : List Value) (A : List Nat), RepS w F ts m i x cs A → ∀ v ∈ cs, v.oneCell' = true
  | [], _, _, _, cs, A, h => by simp [RepS] at h; simp [h.1]
  | t :: ts, m, i, x, cs, A, h => by
    simp only [RepS] at h
    obtain ⟨c1, c2, A1, A2, rfl, rfl, h1, h2⟩ := h
    intro v hv
    rcases List.mem_append.1 hv with hv | hv
    · exact rep_one t _ _ c1 A1 h1 v hv
    · exact repS_one ts _ _ _ c2 A2 h2 v hv
end

end Go.Proofs.Ytaachifkgcdeoaa.Sy

namespace Go.Proofs.Ytaachifkgcdeoaa.Sy
set_option linter.unusedSimpArgs false
set_option linter.unusedVariables false
open Go.RowKit

/-- What a symbolic run says of data: fields, so that the evaluator stops at them. -/
structure Alg where
  get : (t : PT) → List t.den → Int → t.den
  set : (t : PT) → List t.den → Int → t.den → List t.den
  len : (t : PT) → List t.den → Int
  cut : (t : PT) → List t.den → Int → Int → List t.den
  app : (t : PT) → List t.den → List t.den → List t.den
  rep : (t : PT) → Int → List t.den
  ar : BinOp → IntKind → Int → Int → Int
  cmp : BinOp → Int → Int → Bool
  una : UnOp → IntKind → Int → Int
  conv : IntKind → Int → Int
  bnot : Bool → Bool
  band : Bool → Bool → Bool
  bor : Bool → Bool → Bool
  slen : ByteArray → Int
  sidx : ByteArray → Int → Int
  scut : ByteArray → Int → Int → ByteArray
  scat : ByteArray → ByteArray → ByteArray
  scmp : BinOp → ByteArray → ByteArray → Bool
  eqb : (t : PT) → t.den → t.den → Bool
  s2b : ByteArray → List Int
  b2s : List Int → ByteArray
  mn : Int → Int → Int
  mx : Int → Int → Int
  inb : Int → Int → Prop          -- 0 ≤ i < n
  bnd : Int → Int → Int → Prop    -- 0 ≤ lo ≤ hi ≤ n
  nz : Int → Prop                 -- not 0
  nn : Int → Prop                 -- not negative
  sml : Int → Prop                -- not too long a text
  smL : Int → Prop                -- not too long a list
  imp : Bool → Prop → Prop
  ite : Bool → Prop → Prop → Prop
  eqi : Int → Int → Prop
  pls : Int → Int → Int
  mns : Int → Int → Int
  mget : (kt vt : PT) → List (kt.den × vt.den) → kt.den → vt.den
  mset : (kt vt : PT) → List (kt.den × vt.den) → kt.den → vt.den → List (kt.den × vt.den)
  nilq : Int → (Bool → Prop) → Prop   -- whatever a comparison with nil tells of a list so long

structure TV where
  t : PT
  m : Md
  x : t.den

inductive Stp where
  | f (i : Nat)   -- a struct's field
  | i (k : Int)   -- an array's element
  | e (k : Int)   -- an element of a list of one's own
  | d             -- what a pointer to a variable of one's own points to

def fldP : (ts : List PT) → Md → Nat → PT.denL ts → Nat → Option TV
  | [], _, _, _, _ => none
  | t :: _, m, i0, x, 0 => some ⟨t, m.fld i0, x.1⟩
  | _ :: ts, m, i0, x, n + 1 => fldP ts m (i0 + 1) x.2 n

def getP (A : Alg) : (t : PT) → Md → t.den → List Stp → Option TV
  | t, m, x, [] => some ⟨t, m, x⟩
  | .st ts, .n, x, .f i :: p => match fldP ts .n 0 x i with
    | some v => getP A v.t v.m v.x p
    | none => none
  | .st ts, .s ms, x, .f i :: p => match fldP ts (.s ms) 0 x i with
    | some v => getP A v.t v.m v.x p
    | none => none
  | .arr _ t, .n, x, .i k :: p => getP A t .n (A.get t x k) p
  | .arr _ t, .a m, x, .i k :: p => getP A t m (A.get t x k) p
  | .list t, .l m, x, .e k :: p => getP A t m (A.get t x k) p
  | .box t, .b m, x, .d :: p => getP A t m x p
  | _, _, _, _ => none

mutual
def Md.beq : Md → Md → Bool
  | .n, .n => true
  | .j, .j => true
  | .l m, .l m' => Md.beq m m'
  | .a m, .a m' => Md.beq m m'
  | .s ms, .s ms' => Md.beqL ms ms'
  | .b m, .b m' => Md.beq m m'
  | _, _ => false
def Md.beqL : List Md → List Md → Bool
  | [], [] => true
  | m :: ms, m' :: ms' => Md.beq m m' && Md.beqL ms ms'
  | _, _ => false
end
mutual
theorem Md.eq_of_beq : ∀ {m m' : Md}, Md.beq m m' = true → m = m'
  | .n, m', h => by cases m' <;> simp_all [Md.beq]
  | .j, m', h => by cases m' <;> simp_all [Md.beq]
  | .l m, m', h => by
    cases m' <;> simp [Md.beq] at h
    rw [Md.eq_of_beq h]
  | .a m, m', h => by
    cases m' <;> simp [Md.beq] at h
    rw [Md.eq_of_beq h]
  | .s ms, m', h => by
    cases m' <;> simp [Md.beq] at h
    rw [Md.eq_of_beqL h]
  | .b m, m', h => by
    cases m' <;> simp [Md.beq] at h
    rw [Md.eq_of_beq h]
theorem Md.eq_of_beqL : ∀ {m m' : List Md}, Md.beqL m m' = true → m = m'
  | [], m', h => by cases m' <;> simp_all [Md.beqL]
  | m :: ms, m', h => by
    cases m' <;> simp [Md.beqL] at h
    rw [Md.eq_of_beq h.1, Md.eq_of_beqL h.2]
end

/-- The ownership of the fields that are left. -/
def Md.rest : List PT → Md → Nat → List Md
  | [], _, _ => []
  | _ :: ts, m, i => m.fld i :: Md.rest ts m (i + 1)

/-- A struct's field written. -/
def setF (g : (t : PT) → Md → t.den → Option (Md × t.den)) : (ts : List PT) → Md → Nat → PT.denL ts → Nat → Option (List Md × PT.denL ts)
  | [], _, _, _, _ => none
  | t :: ts, m, i0, x, 0 => match g t (m.fld i0) x.1 with
    | some (m', y) => some (m' :: Md.rest ts m (i0 + 1), (y, x.2))
    | none => none
  | _ :: ts, m, i0, x, n + 1 => match setF g ts m (i0 + 1) x.2 n with
    | some (ms, z) => some (m.fld i0 :: ms, (x.1, z))
    | none => none

def Md.allN : List Md → Bool
  | [] => true
  | .n :: ms => Md.allN ms
  | _ => false
/-- A struct's ownership, by its fields. -/
def mkS (ms : List Md) : Md := if Md.allN ms then .n else .s ms

def setP (A : Alg) (v : TV) : List Stp → (t : PT) → Md → t.den → Option (Md × t.den)
  | [], t, _, _ => match castT v.t t v.x with
    | some y => some (v.m, y)
    | none => none
  | .f i :: p, .st ts, .n, x => match setF (setP A v p) ts .n 0 x i with
    | some (ms, y) => some (mkS ms, y)
    | none => none
  | .f i :: p, .st ts, .s ms, x => match setF (setP A v p) ts (.s ms) 0 x i with
    | some (ms, y) => some (mkS ms, y)
    | none => none
  | .i k :: p, .arr _ t, .n, x => match setP A v p t .n (A.get t x k) with
    | some (m', y) => if Md.beq m' .n then some (.n, A.set t x k y) else none
    | none => none
  | .i k :: p, .arr _ t, .a m, x => match setP A v p t m (A.get t x k) with
    | some (m', y) => if Md.beq m' m then some (.a m, A.set t x k y) else none
    | none => none
  | .e k :: p, .list t, .l m, x => match setP A v p t m (A.get t x k) with
    | some (m', y) => if Md.beq m' m then some (.l m, A.set t x k y) else none
    | none => none
  | .d :: p, .box t, .b m, x => match setP A v p t m x with
    | some (m', y) => some (.b m', y)
    | none => none
  | _, _, _, _ => none

/-! ### Where it lies -/
def rdCells (w : World) (b off n : Nat) : List Value :=
  match w.heap[b]? with
  | some (.cells c _ _) => (c.toList.drop off).take n
  | _ => []

def loc (w : World) : (t : PT) → Option (Nat × Nat) → List Value → List Stp → Option (Option (Nat × Nat) × List Value)
  | _, cur, cs, [] => some (cur, cs)
  | .st ts, cur, cs, .f i :: p => match ts[i]? with
    | some t => loc w t (cur.map fun (b, o) => (b, o + PT.sizeL (ts.take i))) ((cs.drop (PT.sizeL (ts.take i))).take t.size) p
    | none => none
  | .arr n t, cur, cs, .i k :: p => if 0 ≤ k ∧ k < n then loc w t (cur.map fun (b, o) => (b, o + k.toNat * t.size)) ((cs.drop (k.toNat * t.size)).take t.size) p else none
  | .list t, _, cs, .e k :: p => match cs with
    | [.slice (some ⟨b, o, none⟩) len _] => if 0 ≤ k ∧ k < len then loc w t (some (b, o + k.toNat * t.size)) (rdCells w b (o + k.toNat * t.size) t.size) p else none
    | _ => none
  | .box t, _, cs, .d :: p => match cs with
    | [.pointer (some ⟨b, 0, none⟩)] => loc w t (some (b, 0)) (rdCells w b 0 t.size) p
    | _ => none
  | _, _, _, _ => none


def listEqb {α : Type} (f : α → α → Bool) : List α → List α → Bool
  | [], [] => true
  | x :: xs, y :: ys => f x y && listEqb f xs ys
  | _, _ => false
mutual
/-- Go's ==, of what can be compared without looking into memory. -/
def PT.eqb : (t : PT) → t.den → t.den → Bool
  | .int _, x, y => decide ((show Int from x) = (show Int from y))
  | .bool, x, y => (show Bool from x) == (show Bool from y)
  | .str, x, y => (show ByteArray from x).toList == (show ByteArray from y).toList
  | .list _, _, _ => false
  | .arr _ t, x, y => listEqb t.eqb x y
  | .st ts, x, y => PT.eqbL ts x y
  | .box _, _, _ => false
def PT.eqbL : (ts : List PT) → PT.denL ts → PT.denL ts → Bool
  | [], _, _ => true
  | t :: ts, x, y => t.eqb x.1 y.1 && PT.eqbL ts x.2 y.2
end

def bitsR (op : BinOp) (k : IntKind) (x y : Int) : Int :=
  match op with
  | .and => k.wrap ((BitVec.ofInt k.bits x &&& BitVec.ofInt k.bits y).toNat)
  | .or => k.wrap ((BitVec.ofInt k.bits x ||| BitVec.ofInt k.bits y).toNat)
  | .xor => k.wrap ((BitVec.ofInt k.bits x ^^^ BitVec.ofInt k.bits y).toNat)
  | _ => k.wrap ((BitVec.ofInt k.bits x &&& ~~~ BitVec.ofInt k.bits y).toNat)

def arR (op : BinOp) (k : IntKind) (x y : Int) : Int :=
  match op with
  | .add => k.wrap (x + y)
  | .sub => k.wrap (x - y)
  | .mul => k.wrap (x * y)
  | .quo => k.wrap (x.tdiv y)
  | .rem => x.tmod y
  | .shl => k.wrap (x * 2 ^ (min y.toNat k.bits))
  | .shr => x.fdiv (2 ^ (min y.toNat k.bits))
  | op => bitsR op k x y

def cmpR (op : BinOp) (x y : Int) : Bool :=
  match op with
  | .eql => x == y
  | .neq => x != y
  | .lss => decide (x < y)
  | .leq => decide (x ≤ y)
  | .gtr => decide (x > y)
  | _ => decide (x ≥ y)

def scmpR (op : BinOp) (x y : ByteArray) : Bool :=
  match op with
  | .eql => x.toList == y.toList
  | .neq => !(x.toList == y.toList)
  | .lss => Op.bytesLess x.toList y.toList
  | .leq => Op.bytesLess x.toList y.toList || x.toList == y.toList
  | .gtr => !(Op.bytesLess x.toList y.toList || x.toList == y.toList)
  | _ => !Op.bytesLess x.toList y.toList

def unaR (op : UnOp) (k : IntKind) (x : Int) : Int :=
  match op with
  | .neg => k.wrap (0 - x)
  | _ => bitsR .xor k (if k.signed then -1 else k.max) x

def mgetL (kt vt : PT) : List (kt.den × vt.den) → kt.den → vt.den
  | [], _ => vt.dflt
  | (k', v) :: m, k => if kt.eqb k k' = true then v else mgetL kt vt m k
def msetL (kt vt : PT) : List (kt.den × vt.den) → kt.den → vt.den → List (kt.den × vt.den)
  | [], k, v => [(k, v)]
  | (k', v') :: m, k, v => if kt.eqb k k' = true then (k, v) :: m else (k', v') :: msetL kt vt m k v

def real0 : Alg where
  get := fun t xs k => xs.getD k.toNat t.dflt
  set := fun _ xs k y => xs.set k.toNat y
  len := fun _ xs => xs.length
  cut := fun _ xs lo hi => (xs.take hi.toNat).drop lo.toNat
  app := fun _ xs ys => xs ++ ys
  rep := fun t n => List.replicate n.toNat t.dflt
  ar := arR
  cmp := cmpR
  una := unaR
  conv := fun k x => k.wrap x
  bnot := fun b => !b
  band := fun a b => a && b
  bor := fun a b => a || b
  slen := fun s => s.size
  sidx := fun s i => (s.data.toList.getD i.toNat 0).toNat
  scut := fun s lo hi => s.extract lo.toNat hi.toNat
  scat := fun s t => s ++ t
  scmp := scmpR
  eqb := PT.eqb
  s2b := fun s => s.data.toList.map fun b => (b.toNat : Int)
  b2s := fun l => ⟨(l.map fun n => UInt8.ofNat n.toNat).toArray⟩
  mn := fun x y => if y < x then y else x
  mx := fun x y => if y > x then y else x
  inb := fun i n => 0 ≤ i ∧ i < n
  bnd := fun lo hi n => 0 ≤ lo ∧ lo ≤ hi ∧ hi ≤ n
  nz := fun x => x ≠ 0
  nn := fun x => 0 ≤ x
  sml := fun x => x ≤ 1099511627776
  smL := fun x => x ≤ 4294967296
  imp := fun b p => b = true → p
  ite := fun b p q => (b = true → p) ∧ (b = false → q)
  eqi := fun x y => x = y
  pls := fun x y => x + y
  mns := fun x y => x - y
  mget := mgetL
  mset := msetL
  nilq := fun n f => ∀ b : Bool, (b = true → n = 0) → f b

/-! ### A struct's field -/
theorem repS_md {w : World} {F : Nat → Prop} : ∀ (ts : List PT) (m m' : Md) (i i' : Nat) (x : PT.denL ts) (cs : List Value) (A : List Nat), (∀ j, j < ts.length → m.fld (i + j) = m'.fld (i' + j)) → RepS w F ts m i x cs A → RepS w F ts m' i' x cs A
  | [], _, _, _, _, _, _, _, _, h => by simpa [RepS] using h
  | t :: ts, m, m', i, i', x, cs, A, hm, h => by
    simp only [RepS] at h ⊢
    obtain ⟨c1, c2, A1, A2, rfl, rfl, h1, h2⟩ := h
    refine ⟨c1, c2, A1, A2, rfl, rfl, ?_, ?_⟩
    · have := hm 0 (by simp)
      simp only [Nat.add_zero] at this
      rw [← this]; exact h1
    · refine repS_md ts m m' (i + 1) (i' + 1) _ c2 A2 (fun j hj => ?_) h2
      have := hm (j + 1) (by simp; omega)
      rw [show i + 1 + j = i + (j + 1) by omega, show i' + 1 + j = i' + (j + 1) by omega]
      exact this

theorem allN_get : ∀ (ms : List Md) (i : Nat), Md.allN ms = true → i < ms.length → ms.getD i .j = .n
  | [], i, _, h => by simp at h
  | m :: ms, 0, hm, _ => by
    cases m <;> simp [Md.allN] at hm
    rfl
  | m :: ms, i + 1, hm, h => by
    cases m <;> simp [Md.allN] at hm
    simpa using allN_get ms i hm (by simpa using h)
theorem rest_length : ∀ (ts : List PT) (m : Md) (i : Nat), (Md.rest ts m i).length = ts.length
  | [], _, _ => rfl
  | t :: ts, m, i => by simp [Md.rest, rest_length ts m (i + 1)]
theorem setF_length {g : (t : PT) → Md → t.den → Option (Md × t.den)} : ∀ {ts : List PT} {m : Md} {i0 : Nat} {x : PT.denL ts} {i : Nat} {ms : List Md} {z : PT.denL ts}, setF g ts m i0 x i = some (ms, z) → ms.length = ts.length
  | [], _, _, _, _, _, _, h => by simp [setF] at h
  | t :: ts, m, i0, x, 0, ms, z, h => by
    simp only [setF] at h
    split at h
    · have h := congrArg Prod.fst (Option.some.inj h)
      dsimp only at h
      rw [← h]
      simp [rest_length]
    · cases h
  | t :: ts, m, i0, x, i + 1, ms, z, h => by
    simp only [setF] at h
    split at h
    · rename_i ms' z' hh
      have h := congrArg Prod.fst (Option.some.inj h)
      dsimp only at h
      rw [← h]
      simp [setF_length hh]
    · cases h
theorem rep_mkS {w : World} {F : Nat → Prop} {ts : List PT} {ms : List Md} {x : PT.denL ts} {cs : List Value} {A : List Nat} (hl : ms.length = ts.length) (h : RepS w F ts (.s ms) 0 x cs A) : Rep w F (.st ts) (mkS ms) x cs A := by
  unfold mkS
  split
  · rename_i ha
    simp only [Rep]
    exact repS_md ts (.s ms) .n 0 0 x cs A (fun j hj => by
      show ms.getD (0 + j) .j = .n
      exact allN_get ms (0 + j) ha (by omega)) h
  · simp only [Rep]
    exact h

theorem rest_fld : ∀ (ts : List PT) (m : Md) (i j : Nat), j < ts.length → (Md.rest ts m i).getD j .j = m.fld (i + j)
  | [], _, _, _, h => by simp at h
  | t :: ts, m, i, 0, _ => rfl
  | t :: ts, m, i, j + 1, h => by
    have := rest_fld ts m (i + 1) j (by simp at h; omega)
    simp only [Md.rest, List.getD_cons_succ]
    rw [this, show i + 1 + j = i + (j + 1) by omega]

theorem repS_rest {w : World} {F : Nat → Prop} (ts : List PT) (m : Md) (i : Nat) (m0 : Md) (x : PT.denL ts) (cs : List Value) (A : List Nat) (h : RepS w F ts m i x cs A) : RepS w F ts (.s (m0 :: Md.rest ts m i)) 1 x cs A :=
  repS_md ts m _ i 1 x cs A (fun j hj => by
    show m.fld (i + j) = (m0 :: Md.rest ts m i).getD (1 + j) .j
    rw [Nat.add_comm 1 j, List.getD_cons_succ, rest_fld ts m i j hj]) h

theorem fld_at {w : World} {F : Nat → Prop} : ∀ (ts : List PT) (m : Md) (i0 : Nat) (x : PT.denL ts) (cs : List Value) (A : List Nat) (i : Nat) (v : TV), RepS w F ts m i0 x cs A → fldP ts m i0 x i = some v →
    ∃ c1 c c2 A1 A' A2, cs = c1 ++ (c ++ c2) ∧ A = A1 ++ (A' ++ A2) ∧ c1.length = PT.sizeL (ts.take i) ∧ ts[i]? = some v.t ∧ Rep w F v.t v.m v.x c A' ∧
      ∀ (w' : World) (F' : Nat → Prop) (g : (t : PT) → Md → t.den → Option (Md × t.den)) (ms : List Md) (z : PT.denL ts), setF g ts m i0 x i = some (ms, z) → (∀ b, F b → F' b) → (∀ b, F b → w'.heap[b]? = w.heap[b]?) → (∀ b ∈ A1 ++ A2, w'.heap[b]? = w.heap[b]?) →
        ∃ m' y, g v.t v.m v.x = some (m', y) ∧ ∀ d B, Rep w' F' v.t m' y d B → RepS w' F' ts (.s ms) 0 z (c1 ++ (d ++ c2)) (A1 ++ (B ++ A2))
  | [], _, _, _, _, _, _, _, _, hf => by simp [fldP] at hf
  | t :: ts, m, i0, x, cs, A, 0, v, h, hf => by
    simp only [RepS] at h
    obtain ⟨c1, c2, A1, A2, rfl, rfl, h1, h2⟩ := h
    simp only [fldP, Option.some.injEq] at hf
    subst hf
    refine ⟨[], c1, c2, [], A1, A2, rfl, rfl, rfl, rfl, h1, fun w' F' g ms z hs hF hw hA => ?_⟩
    simp only [setF] at hs
    split at hs
    · rename_i m' y hg
      simp only [Option.some.injEq, Prod.mk.injEq] at hs
      obtain ⟨rfl, rfl⟩ := hs
      refine ⟨m', y, hg, fun d B hd => ?_⟩
      simp only [RepS]
      exact ⟨d, c2, B, A2, rfl, rfl, hd, repS_rest ts m (i0 + 1) m' _ c2 A2 (repS_frame hF hw ts m (i0 + 1) x.2 c2 A2 (fun b hb => hA b (by simp [hb])) h2)⟩
    · cases hs
  | t :: ts, m, i0, x, cs, A, i + 1, v, h, hf => by
    simp only [RepS] at h
    obtain ⟨c1, c2, A1, A2, rfl, rfl, h1, h2⟩ := h
    simp only [fldP] at hf
    obtain ⟨d1, d, d2, B1, B', B2, rfl, rfl, hl, ht, hv, hset⟩ := fld_at ts m (i0 + 1) x.2 c2 A2 i v h2 hf
    refine ⟨c1 ++ d1, d, d2, A1 ++ B1, B', B2, by simp, by simp, ?_, ?_, hv, fun w' F' g ms z hs hF hw hA => ?_⟩
    · rw [List.length_append, hl, rep_length t _ _ c1 A1 h1]; rfl
    · simpa using ht
    · simp only [setF] at hs
      split at hs
      · rename_i ms' z' hg
        simp only [Option.some.injEq, Prod.mk.injEq] at hs
        obtain ⟨rfl, rfl⟩ := hs
        obtain ⟨m', y, hg', hr⟩ := hset w' F' g ms' z' hg hF hw (fun b hb => hA b (by simp only [List.mem_append] at hb ⊢; rcases hb with hb | hb <;> simp [hb]))
        refine ⟨m', y, hg', fun e B he => ?_⟩
        have hk := hr e B he
        simp only [RepS]
        refine ⟨c1, d1 ++ (e ++ d2), A1, B1 ++ (B ++ B2), by simp, by simp, rep_frame hF hw t _ _ c1 A1 (fun b hb => hA b (by simp [hb])) h1, ?_⟩
        exact repS_md ts (.s ms') (.s (m.fld i0 :: ms')) 0 1 _ _ _ (fun j hj => by
          show ms'.getD (0 + j) .j = (m.fld i0 :: ms').getD (1 + j) .j
          rw [Nat.add_comm 1 j, List.getD_cons_succ, Nat.zero_add]) hk
      · cases hs

end Go.Proofs.Ytaachifkgcdeoaa.Sy

namespace Go.Proofs.Ytaachifkgcdeoaa.Sy
open Go.RowKit
set_option linter.unusedSimpArgs false
set_option linter.unusedVariables false

def Laid (w : World) (n : Nat) (cur : Option (Nat × Nat)) (cs : List Value) (A : List Nat) : Prop :=
  ∀ b off, cur = some (b, off) → b ∉ A ∧ ∃ c e fr, w.heap[b]? = some (.cells c e fr) ∧ Free c fr ∧ off + n ≤ c.size ∧ cs = (c.toList.drop off).take n

/-- w' is w, but for the cells ds at off in block b. -/
def WriteAt (w w' : World) (b off : Nat) (ds : List Value) : Prop :=
  (∃ c c' e fr, w.heap[b]? = some (.cells c e fr) ∧ w'.heap[b]? = some (.cells c' e fr) ∧ off + ds.length ≤ c.size ∧ c'.toList = c.toList.take off ++ (ds ++ c.toList.drop (off + ds.length))) ∧
  ∀ b', b' ≠ b → w'.heap[b']? = w.heap[b']?

/-- The same, but for blocks that may be written, too. -/
def WriteX (w w' : World) (b off : Nat) (ds : List Value) (Ax : List Nat) : Prop :=
  (∃ c c' e fr, w.heap[b]? = some (.cells c e fr) ∧ w'.heap[b]? = some (.cells c' e fr) ∧ off + ds.length ≤ c.size ∧ c'.toList = c.toList.take off ++ (ds ++ c.toList.drop (off + ds.length))) ∧
  ∀ b', b' ≠ b → b' ∉ Ax → w'.heap[b']? = w.heap[b']?
theorem WriteAt.x {w w' : World} {b off : Nat} {ds : List Value} (h : WriteAt w w' b off ds) : WriteX w w' b off ds [] := ⟨h.1, fun b' hb _ => h.2 b' hb⟩

/-! ### Segments of lists -/
theorem seg_inner {l cs c1 c c2 : List Value} {off n : Nat} (h : cs = (l.drop off).take n) (hn : off + n ≤ l.length) (hc : cs = c1 ++ (c ++ c2)) : c = (l.drop (off + c1.length)).take c.length := by
  have h1 : (cs.drop c1.length).take c.length = c := by rw [hc]; simp
  rw [← h1, h]
  rw [List.drop_take, List.drop_drop, List.take_take]
  have : cs.length = n := by rw [h]; simp; omega
  have h2 : c1.length + c.length ≤ n := by rw [← this, hc]; simp
  simp only [List.length_take, List.length_drop]
  congr 1
  omega

/-- A list that differs within a segment alone. -/
theorem seg_outer {l l' cs c1 c c2 : List Value} {off n : Nat} (h : cs = (l.drop off).take n) (hn : off + n ≤ l.length) (hc : cs = c1 ++ (c ++ c2)) (hl : l'.length = l.length)
    (hs : ∀ j, (j < off + c1.length ∨ off + c1.length + c.length ≤ j) → l'[j]? = l[j]?) : (l'.drop off).take n = c1 ++ ((l'.drop (off + c1.length)).take c.length ++ c2) := by
  have hcs : cs.length = n := by rw [h]; simp; omega
  have h2 : c1.length + (c.length + c2.length) = n := by rw [← hcs, hc]; simp
  have hcj : ∀ j, j < n → cs[j]? = l[off + j]? := by
    intro j hj
    rw [h, List.getElem?_take, if_pos hj, List.getElem?_drop]
  apply List.ext_getElem?
  intro j
  rw [List.getElem?_take, List.getElem?_drop, List.getElem?_append, List.getElem?_append, List.getElem?_take, List.getElem?_drop]
  simp only [List.length_take, List.length_drop]
  rw [Nat.min_eq_left (by omega)]
  by_cases h3 : j < c1.length
  · rw [if_pos h3, if_pos (by omega), hs (off + j) (by omega), ← hcj j (by omega), hc, List.getElem?_append, if_pos h3]
  · rw [if_neg h3]
    by_cases h4 : j - c1.length < c.length
    · rw [if_pos h4, if_pos (by omega), if_pos h4, show off + c1.length + (j - c1.length) = off + j by omega]
    · rw [if_neg h4]
      by_cases h5 : j < n
      · rw [if_pos h5, hs (off + j) (by omega), ← hcj j h5, hc, List.getElem?_append, if_neg h3, List.getElem?_append, if_neg h4]
      · rw [if_neg h5, List.getElem?_eq_none (by omega)]

theorem write_get {l ds l' : List Value} {off : Nat} (h : off + ds.length ≤ l.length) (hl : l' = l.take off ++ (ds ++ l.drop (off + ds.length))) : l'.length = l.length ∧ (∀ j, (j < off ∨ off + ds.length ≤ j) → l'[j]? = l[j]?) ∧ (l'.drop off).take ds.length = ds := by
  subst hl
  refine ⟨by simp; omega, fun j hj => ?_, ?_⟩
  · rw [List.getElem?_append, List.getElem?_append]
    simp only [List.length_take]
    rw [Nat.min_eq_left (by omega)]
    rcases hj with hj | hj
    · rw [if_pos hj, List.getElem?_take, if_pos hj]
    · rw [if_neg (by omega), if_neg (by omega), List.getElem?_drop]
      congr 1; omega
  · rw [List.drop_append, List.length_take, Nat.min_eq_left (by omega)]
    simp

theorem rdCells_of {w : World} {b off n : Nat} {c : Array Value} {e : TypeId} {fr : Nat × Nat} (h : w.heap[b]? = some (.cells c e fr)) : rdCells w b off n = (c.toList.drop off).take n := by
  simp [rdCells, h]

/-- What a store at the path's end leaves of the whole. -/
def Leaves (w : World) (F : Nat → Prop) (p : List Stp) (t : PT) (m : Md) (x : t.den) (cur : Option (Nat × Nat)) (cs : List Value) (v : TV) (Actx Af : List Nat) (b' off' : Nat) : Prop :=
  (∀ (w' : World) (F' : Nat → Prop) (nv : TV) (ds : List Value) (An : List Nat) (mN : Md) (xN : t.den) (Ax : List Nat), nv.t = v.t → setP real0 nv p t m x = some (mN, xN) → Rep w' F' nv.t nv.m nv.x ds An →
    (∀ b, F b → F' b) → ¬ F b' → (∀ b ∈ Ax, b ∈ Af ∧ ¬ F b) → WriteX w w' b' off' ds Ax →
    ∃ csN AN, AN.Perm (Actx ++ An) ∧ Rep w' F' t mN xN csN AN ∧ (∀ b off, cur = some (b, off) → csN = rdCells w' b off t.size) ∧ (cur = none → csN = cs)) ∧
  ∀ (w' : World), (∀ b ∈ Actx, w'.heap[b]? = w.heap[b]?) → loc w' t cur cs p = loc w t cur cs p

theorem laid_sub {w : World} {n : Nat} {cur : Option (Nat × Nat)} {c1 c c2 : List Value} {A1 A' A2 : List Nat} (h : Laid w n cur (c1 ++ (c ++ c2)) (A1 ++ (A' ++ A2))) :
    Laid w c.length (cur.map fun (b, o) => (b, o + c1.length)) c A' := by
  intro b off hc
  cases cur with
  | none => cases hc
  | some bo =>
    obtain ⟨b0, o0⟩ := bo
    simp only [Option.map_some, Option.some.injEq, Prod.mk.injEq] at hc
    obtain ⟨rfl, rfl⟩ := hc
    obtain ⟨hb, cc, e, fr, h1, h2, h3, h4⟩ := h b0 o0 rfl
    have hl : (c1 ++ (c ++ c2)).length = n := by rw [h4]; simp; omega
    simp only [List.length_append] at hl
    exact ⟨fun hm => hb (by simp [hm]), cc, e, fr, h1, h2, by omega, seg_inner h4 (by simp; omega) rfl⟩

/-- One flat step, of a struct or of an array: from the part's law to the whole's. -/
theorem leaves_flat {w w' : World} {n : Nat} {cur : Option (Nat × Nat)} {c1 c c2 d : List Value} {A1 A' A2 Actx : List Nat} {b' off' s : Nat}
    (hlaid : Laid w n cur (c1 ++ (c ++ c2)) (A1 ++ (A' ++ A2))) (hA : ∀ b ∈ Actx, b ∈ A')
    (hwhere : b' ∈ Actx ∨ ∃ off, (cur.map fun (b, o) => (b, o + c1.length)) = some (b', off) ∧ off ≤ off' ∧ off' + s ≤ off + c.length)
    {ds : List Value} (hds : ds.length = s) {Ax : List Nat} (hAx : ∀ b ∈ Ax, b ∈ A') (hw : WriteX w w' b' off' ds Ax) (hd1 : ∀ b off, (cur.map fun (b, o) => (b, o + c1.length)) = some (b, off) → d = rdCells w' b off c.length)
    (hd2 : cur = none → d = c) : (∀ b off, cur = some (b, off) → c1 ++ (d ++ c2) = rdCells w' b off n) ∧ (cur = none → c1 ++ (d ++ c2) = c1 ++ (c ++ c2)) := by
  refine ⟨fun b off hc => ?_, fun hc => by rw [hd2 hc]⟩
  subst hc
  obtain ⟨hb, cc, e, fr, h1, h2, h3, h4⟩ := hlaid b off rfl
  have hd := hd1 b (off + c1.length) rfl
  rcases hwhere with hj | ⟨off2, ho, hlo, hhi⟩
  · have hne : b ≠ b' := fun e => hb (by have := hA b' hj; simp [e, this])
    have hsame := hw.2 b hne (fun hm => hb (by have := hAx b hm; simp [this]))
    rw [rdCells_of (hsame.trans h1)]
    rw [rdCells_of (hsame.trans h1)] at hd
    rw [hd, ← seg_inner h4 (by simp; omega) rfl, ← h4]
  · simp only [Option.map_some, Option.some.injEq, Prod.mk.injEq] at ho
    obtain ⟨rfl, rfl⟩ := ho
    obtain ⟨⟨c0, c0', e0, fr0, g1, g2, g3, g4⟩, _⟩ := hw
    rw [h1] at g1
    simp only [Option.some.injEq, Obj.cells.injEq] at g1
    obtain ⟨rfl, rfl, rfl⟩ := g1
    obtain ⟨k1, k2, _⟩ := write_get (by simpa using g3) g4
    rw [rdCells_of g2]
    rw [rdCells_of g2] at hd
    rw [hd]
    exact (seg_outer h4 (by simp; omega) rfl k1 (fun j hj => k2 j (by omega))).symm

def PathLaw (w : World) (F : Nat → Prop) (p : List Stp) : Prop :=
  ∀ (t : PT) (m : Md) (x : t.den) (cs : List Value) (cur : Option (Nat × Nat)) (A : List Nat) (v : TV) (cur' : Option (Nat × Nat)) (cs' : List Value),
    Rep w F t m x cs A → A.Nodup → Laid w t.size cur cs A → getP real0 t m x p = some v → loc w t cur cs p = some (cur', cs') →
    ∃ Actx A', A.Perm (Actx ++ A') ∧ Rep w F v.t v.m v.x cs' A' ∧ Laid w v.t.size cur' cs' A' ∧
      ∀ b' off', cur' = some (b', off') → (b' ∈ Actx ∨ ∃ off, cur = some (b', off) ∧ off ≤ off' ∧ off' + v.t.size ≤ off + t.size) ∧ Leaves w F p t m x cur cs v Actx A' b' off'

theorem path_nil (w : World) (F : Nat → Prop) : PathLaw w F [] := by
  intro t m x cs cur A v cur' cs' hr hnd hlaid hg hl
  simp only [getP, Option.some.injEq] at hg
  simp only [loc, Option.some.injEq, Prod.mk.injEq] at hl
  subst hg
  obtain ⟨rfl, rfl⟩ := hl
  refine ⟨[], A, List.Perm.refl _, hr, hlaid, fun b' off' hc => ⟨.inr ⟨off', hc, Nat.le_refl _, Nat.le_refl _⟩, ?_, fun w' _ => by simp only [loc]⟩⟩
  intro w' F' nv ds An mN xN Ax ht hs hrn hF hb hAx hw
  obtain ⟨nt, nm, nx⟩ := nv
  dsimp only at ht hs hrn
  subst ht
  simp only [setP] at hs
  split at hs
  · rename_i y hy
    obtain ⟨_, rfl⟩ := castT_some hy
    simp only [Option.some.injEq, Prod.mk.injEq] at hs
    obtain ⟨rfl, rfl⟩ := hs
    refine ⟨ds, An, List.Perm.refl _, hrn, fun b off hc2 => ?_, fun hn => by rw [hn] at hc; cases hc⟩
    rw [hc] at hc2
    simp only [Option.some.injEq, Prod.mk.injEq] at hc2
    obtain ⟨rfl, rfl⟩ := hc2
    obtain ⟨⟨c0, c0', e0, fr0, g1, g2, g3, g4⟩, _⟩ := hw
    obtain ⟨k1, k2, k3⟩ := write_get (by simpa using g3) g4
    rw [rdCells_of g2, ← rep_length _ _ _ _ _ hrn, k3]
  · cases hs

theorem perm_ctx {A1 A' A2 Actx B : List Nat} (h : A'.Perm (Actx ++ B)) : (A1 ++ (A' ++ A2)).Perm ((A1 ++ (A2 ++ Actx)) ++ B) := by
  rw [List.append_assoc]
  refine List.Perm.append_left A1 ?_
  refine (List.Perm.append_right A2 h).trans ?_
  rw [List.append_assoc, List.append_assoc]
  refine (List.perm_append_comm_assoc Actx B A2).trans ?_
  refine (List.Perm.append_left B ?_).trans (List.perm_append_comm (l₁ := B) (l₂ := A2 ++ Actx) |>.trans ?_)
  · exact List.perm_append_comm
  · rw [List.append_assoc]

theorem nodup_mid {A1 A' A2 : List Nat} (h : (A1 ++ (A' ++ A2)).Nodup) : A'.Nodup :=
  (List.nodup_append.1 (List.nodup_append.1 h).2.1).1

theorem nodup_mid_not {A1 A' A2 : List Nat} (h : (A1 ++ (A' ++ A2)).Nodup) {b : Nat} (hb : b ∈ A') : b ∉ A1 ++ A2 := by
  intro hm
  obtain ⟨_, h2, h3⟩ := List.nodup_append.1 h
  obtain ⟨_, _, h5⟩ := List.nodup_append.1 h2
  rcases List.mem_append.1 hm with hm | hm
  · exact h3 b hm b (by simp [hb]) rfl
  · exact h5 b hb b hm rfl

/-- The flat steps, once for all: the part lies in the whole, and a store in the part is a store in the whole. -/
theorem path_flat {w : World} {F : Nat → Prop} {p : List Stp} (ih : PathLaw w F p) {t : PT} {m : Md} {x : t.den} {cs : List Value} {cur : Option (Nat × Nat)} {A : List Nat} {v : TV} {cur' : Option (Nat × Nat)} {cs' : List Value} {st : Stp}
    {u : TV} {c1 c c2 : List Value} {A1 A' A2 : List Nat} (hnd : A.Nodup) (hlaid : Laid w t.size cur cs A) (hcs : cs = c1 ++ (c ++ c2)) (hAs : A = A1 ++ (A' ++ A2)) (hu : Rep w F u.t u.m u.x c A')
    (hg : getP real0 u.t u.m u.x p = some v) (hl : loc w u.t (cur.map fun (b, o) => (b, o + c1.length)) c p = some (cur', cs')) (hloc : ∀ w' : World, loc w' t cur (c1 ++ (c ++ c2)) (st :: p) = loc w' u.t (cur.map fun (b, o) => (b, o + c1.length)) c p) (hsz : ∀ off, off + c1.length + u.t.size ≤ off + t.size)
    (hset : ∀ (w' : World) (F' : Nat → Prop) (nv : TV) (mN : Md) (xN : t.den), setP real0 nv (st :: p) t m x = some (mN, xN) → (∀ b, F b → F' b) → (∀ b, F b → w'.heap[b]? = w.heap[b]?) → (∀ b ∈ A1 ++ A2, w'.heap[b]? = w.heap[b]?) →
      ∃ m' y, setP real0 nv p u.t u.m u.x = some (m', y) ∧ ∀ d B, Rep w' F' u.t m' y d B → Rep w' F' t mN xN (c1 ++ (d ++ c2)) (A1 ++ (B ++ A2))) :
    ∃ Actx A', A.Perm (Actx ++ A') ∧ Rep w F v.t v.m v.x cs' A' ∧ Laid w v.t.size cur' cs' A' ∧
      ∀ b' off', cur' = some (b', off') → (b' ∈ Actx ∨ ∃ off, cur = some (b', off) ∧ off ≤ off' ∧ off' + v.t.size ≤ off + t.size) ∧ Leaves w F (st :: p) t m x cur cs v Actx A' b' off' := by
  subst hcs hAs
  have hlen : c.length = u.t.size := rep_length _ _ _ _ _ hu
  have hsub := laid_sub hlaid
  rw [hlen] at hsub
  obtain ⟨Actx, B, hp, hv, hlv, hrest⟩ := ih u.t u.m u.x c _ A' v cur' cs' hu (nodup_mid hnd) hsub hg hl
  refine ⟨A1 ++ (A2 ++ Actx), B, perm_ctx hp, hv, hlv, fun b' off' hc => ?_⟩
  obtain ⟨hwh, hleave⟩ := hrest b' off' hc
  refine ⟨?_, ?_⟩
  · rcases hwh with hwh | ⟨off, ho, h1, h2⟩
    · exact .inl (by simp [hwh])
    · cases cur with
      | none => cases ho
      | some bo =>
        obtain ⟨b0, o0⟩ := bo
        simp only [Option.map_some, Option.some.injEq, Prod.mk.injEq] at ho
        obtain ⟨rfl, rfl⟩ := ho
        have := hsz o0
        exact .inr ⟨o0, rfl, by omega, by omega⟩
  · refine ⟨?_, fun w' hsame => by rw [hloc, hloc]; exact hleave.2 w' (fun b hb => hsame b (by simp [hb]))⟩
    intro w' F' nv ds An mN xN Ax ht hs hrn hF hbF hAx hw
    have hFw : ∀ b, F b → w'.heap[b]? = w.heap[b]? := fun b hb => hw.2 b (fun e => hbF (e ▸ hb)) (fun hm => (hAx b hm).2 hb)
    have hAw : ∀ b ∈ A1 ++ A2, w'.heap[b]? = w.heap[b]? := by
      intro b hb
      refine hw.2 b (fun e => ?_) (fun hm => nodup_mid_not hnd (hp.mem_iff.2 (by simp [(hAx b hm).1])) hb)
      subst e
      rcases hwh with hj | ⟨off, ho, _, _⟩
      · exact nodup_mid_not hnd (hp.mem_iff.2 (by simp [hj])) hb
      · cases cur with
        | none => cases ho
        | some bo =>
          obtain ⟨b0, o0⟩ := bo
          simp only [Option.map_some, Option.some.injEq, Prod.mk.injEq] at ho
          obtain ⟨rfl, rfl⟩ := ho
          exact (hlaid b0 o0 rfl).1 (by rcases List.mem_append.1 hb with h | h <;> simp [h])
    obtain ⟨m', y, hs', hput⟩ := hset w' F' nv mN xN hs hF hFw hAw
    obtain ⟨csN, AN, hpN, hrN, hN1, hN2⟩ := hleave.1 w' F' nv ds An m' y Ax ht hs' hrn hF hbF hAx hw
    have hdl : ds.length = v.t.size := by rw [← ht]; exact rep_length _ _ _ _ _ hrn
    obtain ⟨k1, k2⟩ := leaves_flat (c := c) (s := v.t.size) (Actx := Actx) hlaid (fun b hb => hp.mem_iff.2 (by simp [hb])) (by rw [hlen]; exact hwh) hdl (fun b hb => hp.mem_iff.2 (by simp [(hAx b hb).1])) hw (by rw [hlen]; exact hN1)
      (fun hn => hN2 (by rw [hn]; rfl))
    exact ⟨c1 ++ (csN ++ c2), A1 ++ (AN ++ A2), perm_ctx hpN, hput csN AN hrN, k1, k2⟩

theorem heap_after {w w' : World} {b b' off' : Nat} {ds : List Value} {Ax : List Nat} {c : Array Value} {e : TypeId} {fr : Nat × Nat} (h : w.heap[b]? = some (.cells c e fr)) (hbx : b ∉ Ax) (hw : WriteX w w' b' off' ds Ax) :
    ∃ c', w'.heap[b]? = some (.cells c' e fr) ∧ c'.size = c.size := by
  by_cases hb : b = b'
  · subst hb
    obtain ⟨⟨c0, c0', e0, fr0, g1, g2, g3, g4⟩, _⟩ := hw
    rw [h] at g1
    simp only [Option.some.injEq, Obj.cells.injEq] at g1
    obtain ⟨rfl, rfl, rfl⟩ := g1
    refine ⟨c0', g2, ?_⟩
    have := (write_get (by simpa using g3) g4).1
    simpa using this
  · exact ⟨c, (hw.2 b hb hbx).trans h, rfl⟩

theorem free_of {c c' : Array Value} {fr : Nat × Nat} (h : Free c fr) (hs : c'.size = c.size) : Free c' fr := fun j hj => h j (by omega)

theorem path_e {w : World} {F : Nat → Prop} {p : List Stp} (ih : PathLaw w F p) {te : PT} {m : Md} {x : List te.den} {cs : List Value} {cur : Option (Nat × Nat)} {A : List Nat} {v : TV} {cur' : Option (Nat × Nat)} {cs' : List Value} {k : Int}
    (hr : Rep w F (.list te) (.l m) x cs A) (hnd : A.Nodup) (hlaid : Laid w (PT.list te).size cur cs A) (hg : getP real0 (.list te) (.l m) x (.e k :: p) = some v) (hl : loc w (.list te) cur cs (.e k :: p) = some (cur', cs')) :
    ∃ Actx A', A.Perm (Actx ++ A') ∧ Rep w F v.t v.m v.x cs' A' ∧ Laid w v.t.size cur' cs' A' ∧
      ∀ b' off', cur' = some (b', off') → (b' ∈ Actx ∨ ∃ off, cur = some (b', off) ∧ off ≤ off' ∧ off' + v.t.size ≤ off + (PT.list te).size) ∧ Leaves w F (.e k :: p) (.list te) (.l m) x cur cs v Actx A' b' off' := by
  simp only [Rep] at hr
  obtain ⟨h0, a, cap, rfl, hd⟩ := hr
  simp only [loc] at hl
  split at hl
  case h_2 => cases hl
  rename_i b0 o0 len cap' heq
  simp only [List.cons.injEq, Value.slice.injEq, and_true] at heq
  obtain ⟨rfl, rfl, rfl⟩ := heq
  split at hl
  case isFalse => cases hl
  rename_i hk
  rcases hd with ⟨rfl, _⟩ | ⟨b, off, c, e, fr, A', hba, rfl, hb, hfree, hcap, hsz, hrl⟩
  · simp at hk; omega
  simp only [Option.some.injEq, Addr.mk.injEq, and_true] at hba
  obtain ⟨rfl, rfl⟩ := hba
  have hi : k.toNat < x.length := by omega
  have hmul : x.length * te.size ≤ cap * te.size := Nat.mul_le_mul_right _ hcap
  obtain ⟨c1, ce, c2, A1, Ae, A2, hcs, rfl, hc1, hx, hset⟩ := repL_at (fun x c A h => rep_length te _ x c A h) hrl hi
  obtain ⟨hb1, hnd'⟩ := List.nodup_cons.1 hnd
  have hce : ce.length = te.size := rep_length _ _ _ _ _ hx
  have hlaid0 : Laid w (x.length * te.size) (some (b0, o0)) (c1 ++ (ce ++ c2)) (A1 ++ (Ae ++ A2)) := by
    intro b1 off1 h1
    simp only [Option.some.injEq, Prod.mk.injEq] at h1
    obtain ⟨rfl, rfl⟩ := h1
    exact ⟨hb1, c, e, fr, hb, hfree, by omega, hcs.symm⟩
  have hsub := laid_sub hlaid0
  rw [hce, hc1] at hsub
  have hgx : getP real0 te m x[k.toNat] p = some v := by
    simpa [getP, real0, List.getD_eq_getElem?_getD, List.getElem?_eq_getElem hi] using hg
  have hcell : rdCells w b0 (o0 + k.toNat * te.size) te.size = ce := by
    obtain ⟨_, cc, e', fr', g1, g2, g3, g4⟩ := hsub b0 (o0 + k.toNat * te.size) rfl
    rw [rdCells_of g1, ← g4]
  rw [hcell] at hl
  obtain ⟨Actx, B, hp, hv, hlv, hrest⟩ := ih te m x[k.toNat] ce (some (b0, o0 + k.toNat * te.size)) Ae v cur' cs' hx (nodup_mid hnd') hsub hgx hl
  refine ⟨b0 :: (A1 ++ (A2 ++ Actx)), B, List.Perm.cons _ (perm_ctx hp), hv, hlv, fun b' off' hc => ?_⟩
  obtain ⟨hwh, hleave⟩ := hrest b' off' hc
  have hin : b' ∈ Actx ∨ b' = b0 := by
    rcases hwh with h | ⟨off2, h, _⟩
    · exact .inl h
    · simp only [Option.some.injEq, Prod.mk.injEq] at h
      exact .inr h.1.symm
  refine ⟨.inl (by rcases hin with h | h <;> simp [h]), ?_, fun w' hsame => ?_⟩
  case refine_2 =>
    have h0' : rdCells w' b0 (o0 + k.toNat * te.size) te.size = ce := by
      rw [← hcell]
      simp only [rdCells, hsame b0 (by simp)]
    simp only [loc]
    rw [if_pos hk, if_pos hk, h0', hcell]
    exact hleave.2 w' (fun b hb => hsame b (by simp [hb]))
  intro w' F' nv ds An mN xN Ax ht hs hrn hF hbF hAx hw
  have hFw : ∀ b, F b → w'.heap[b]? = w.heap[b]? := fun b hb => hw.2 b (fun e => hbF (e ▸ hb)) (fun hm => (hAx b hm).2 hb)
  have hAe : ∀ b ∈ Ax, b ∈ Ae := fun b hb => hp.mem_iff.2 (by simp [(hAx b hb).1])
  have hb0x : b0 ∉ Ax := fun hm => hb1 (by have := hAe b0 hm; simp [this])
  simp only [setP] at hs
  split at hs
  case h_2 => cases hs
  rename_i m'' y hsy
  split at hs
  case isFalse => cases hs
  rename_i hbeq
  obtain rfl := Md.eq_of_beq hbeq
  simp only [Option.some.injEq, Prod.mk.injEq] at hs
  obtain ⟨rfl, rfl⟩ := hs
  have hsy' : setP real0 nv p te m'' x[k.toNat] = some (m'', y) := by
    simpa [real0, List.getD_eq_getElem?_getD, List.getElem?_eq_getElem hi] using hsy
  obtain ⟨csN, AN, hpN, hrN, hN1, hN2⟩ := hleave.1 w' F' nv ds An m'' y Ax ht hsy' hrn hF hbF hAx hw
  have hdl : ds.length = v.t.size := by rw [← ht]; exact rep_length _ _ _ _ _ hrn
  have hAw : ∀ b ∈ A1 ++ A2, w'.heap[b]? = w.heap[b]? := by
    intro b hb2
    refine hw.2 b (fun e => ?_) (fun hm => nodup_mid_not hnd' (hAe b hm) hb2)
    subst e
    rcases hin with hj | rfl
    · exact nodup_mid_not hnd' (hp.mem_iff.2 (by simp [hj])) hb2
    · exact hb1 (by rcases List.mem_append.1 hb2 with h | h <;> simp [h])
  obtain ⟨k1, _⟩ := leaves_flat (c := ce) (s := v.t.size) (d := csN) (Actx := Actx) hlaid0 (fun b hb => hp.mem_iff.2 (by simp [hb]))
    (by rw [hce, hc1]; rcases hwh with h | h; exact .inl h; exact .inr h) hdl hAe hw (by rw [hce, hc1]; exact hN1) (fun hn => by cases hn)
  have hk1 := k1 b0 o0 rfl
  obtain ⟨c', hc', hsz'⟩ := heap_after hb hb0x hw
  rw [rdCells_of hc'] at hk1
  have hlen : (x.set k.toNat y).length = x.length := by simp
  refine ⟨[.slice (some ⟨b0, o0, none⟩) x.length cap], b0 :: (A1 ++ (AN ++ A2)), List.Perm.cons _ (perm_ctx hpN), ?_, fun b off hcur => ?_, fun _ => rfl⟩
  · show Rep w' F' (.list te) (.l m'') (x.set k.toNat y) _ _
    simp only [Rep]
    refine ⟨by rw [hlen]; exact h0, some ⟨b0, o0, none⟩, cap, by rw [hlen], .inr ⟨b0, o0, c', e, fr, _, rfl, rfl, hc', free_of hfree hsz', by rw [hlen]; exact hcap, by omega, ?_⟩⟩
    rw [hlen, ← hk1]
    exact hset (Rep w' F' te m'') y csN AN (fun x c A'' hb hR => rep_frame hF hFw te _ x c A'' (fun b hb' => hAw b (hb b hb')) hR) hrN
  · obtain ⟨hbA, cc, e', fr', g1, g2, g3, g4⟩ := hlaid b off hcur
    have hne : b ≠ b' := by
      intro e
      subst e
      rcases hin with hj | rfl
      · have := hp.mem_iff.2 (show b ∈ Actx ++ B by simp [hj])
        exact hbA (by simp [this])
      · exact hbA (by simp)
    rw [rdCells_of ((hw.2 b hne (fun hm => hbA (by have := hAe b hm; simp [this]))).trans g1), ← g4]

theorem path_d {w : World} {F : Nat → Prop} {p : List Stp} (ih : PathLaw w F p) {t1 : PT} {m : Md} {x : t1.den} {cs : List Value} {cur : Option (Nat × Nat)} {A : List Nat} {v : TV} {cur' : Option (Nat × Nat)} {cs' : List Value}
    (hr : Rep w F (.box t1) (.b m) x cs A) (hnd : A.Nodup) (hlaid : Laid w (PT.box t1).size cur cs A) (hg : getP real0 (.box t1) (.b m) x (.d :: p) = some v) (hl : loc w (.box t1) cur cs (.d :: p) = some (cur', cs')) :
    ∃ Actx A', A.Perm (Actx ++ A') ∧ Rep w F v.t v.m v.x cs' A' ∧ Laid w v.t.size cur' cs' A' ∧
      ∀ b' off', cur' = some (b', off') → (b' ∈ Actx ∨ ∃ off, cur = some (b', off) ∧ off ≤ off' ∧ off' + v.t.size ≤ off + (PT.box t1).size) ∧ Leaves w F (.d :: p) (.box t1) (.b m) x cur cs v Actx A' b' off' := by
  simp only [Rep] at hr
  obtain ⟨b0, c, e, fr, A', rfl, rfl, hb, hfree, hx⟩ := hr
  simp only [loc] at hl
  have hcl : c.toList.length = t1.size := rep_length _ _ _ _ _ hx
  have hcell : rdCells w b0 0 t1.size = c.toList := by
    rw [rdCells_of hb, List.drop_zero, List.take_of_length_le (by omega)]
  rw [hcell] at hl
  obtain ⟨hb1, hnd'⟩ := List.nodup_cons.1 hnd
  have hlaid0 : Laid w t1.size (some (b0, 0)) c.toList A' := by
    intro b1 off1 h1
    simp only [Option.some.injEq, Prod.mk.injEq] at h1
    obtain ⟨rfl, rfl⟩ := h1
    exact ⟨hb1, c, e, fr, hb, hfree, by simp at hcl; omega, by rw [List.drop_zero, List.take_of_length_le (by omega)]⟩
  simp only [getP] at hg
  obtain ⟨Actx, B, hp, hv, hlv, hrest⟩ := ih t1 m x c.toList (some (b0, 0)) A' v cur' cs' hx hnd' hlaid0 hg hl
  refine ⟨b0 :: Actx, B, List.Perm.cons _ hp, hv, hlv, fun b' off' hc => ?_⟩
  obtain ⟨hwh, hleave⟩ := hrest b' off' hc
  have hin : b' ∈ Actx ∨ b' = b0 := by
    rcases hwh with h | ⟨off2, h, _⟩
    · exact .inl h
    · simp only [Option.some.injEq, Prod.mk.injEq] at h
      exact .inr h.1.symm
  refine ⟨.inl (by rcases hin with h | h <;> simp [h]), ?_, fun w' hsame => ?_⟩
  case refine_2 =>
    have h0' : rdCells w' b0 0 t1.size = c.toList := by
      rw [← hcell]
      simp only [rdCells, hsame b0 (by simp)]
    simp only [loc]
    rw [h0', hcell]
    exact hleave.2 w' (fun b hb => hsame b (by simp [hb]))
  intro w' F' nv ds An mN xN Ax ht hs hrn hF hbF hAx hw
  have hAe : ∀ b ∈ Ax, b ∈ A' := fun b hb => hp.mem_iff.2 (by simp [(hAx b hb).1])
  have hb0x : b0 ∉ Ax := fun hm => hb1 (hAe b0 hm)
  simp only [setP] at hs
  split at hs
  case h_2 => cases hs
  rename_i m'' y hsy
  simp only [Option.some.injEq, Prod.mk.injEq] at hs
  obtain ⟨rfl, rfl⟩ := hs
  obtain ⟨csN, AN, hpN, hrN, hN1, hN2⟩ := hleave.1 w' F' nv ds An m'' xN Ax ht hsy hrn hF hbF hAx hw
  have hN := hN1 b0 0 rfl
  obtain ⟨c', hc', hsz'⟩ := heap_after hb hb0x hw
  rw [rdCells_of hc', List.drop_zero, List.take_of_length_le (by simp at hcl ⊢; omega)] at hN
  subst hN
  refine ⟨[.pointer (some ⟨b0, 0, none⟩)], b0 :: AN, List.Perm.cons _ hpN, ?_, fun b off hcur => ?_, fun _ => rfl⟩
  · simp only [Rep]
    exact ⟨b0, c', e, fr, AN, rfl, rfl, hc', free_of hfree hsz', hrN⟩
  · obtain ⟨hbA, cc, e', fr', g1, g2, g3, g4⟩ := hlaid b off hcur
    have hne : b ≠ b' := by
      intro e
      subst e
      rcases hin with hj | rfl
      · exact hbA (by
          have := hp.mem_iff.2 (show b ∈ Actx ++ B by simp [hj])
          simp [this])
      · exact hbA (by simp)
    rw [rdCells_of ((hw.2 b hne (fun hm => hbA (by have := hAe b hm; simp [this]))).trans g1), ← g4]

theorem getP_cases {A : Alg} {t : PT} {m : Md} {x : t.den} {s : Stp} {p : List Stp} {v : TV} (h : getP A t m x (s :: p) = some v) :
    (∃ ts i, s = .f i ∧ t = .st ts) ∨ (∃ n t1 k, s = .i k ∧ t = .arr n t1) ∨ (∃ t1 m1 k, s = .e k ∧ t = .list t1 ∧ m = .l m1) ∨ (∃ t1 m1, s = .d ∧ t = .box t1 ∧ m = .b m1) := by
  cases t <;> cases s <;> cases m <;> simp_all [getP]

theorem flat_arr {w : World} {F : Nat → Prop} {p : List Stp} (ih : PathLaw w F p) {n : Nat} {t1 : PT} {m m1 : Md} (hm : (m = .n ∧ m1 = .n) ∨ m = .a m1) {x : List t1.den} {cs : List Value} {cur : Option (Nat × Nat)} {A : List Nat} {v : TV} {cur' : Option (Nat × Nat)} {cs' : List Value} {k : Int}
    (hr : Rep w F (.arr n t1) m x cs A) (hnd : A.Nodup) (hlaid : Laid w (PT.arr n t1).size cur cs A) (hg : getP real0 (.arr n t1) m x (.i k :: p) = some v) (hl : loc w (.arr n t1) cur cs (.i k :: p) = some (cur', cs')) :
    ∃ Actx A', A.Perm (Actx ++ A') ∧ Rep w F v.t v.m v.x cs' A' ∧ Laid w v.t.size cur' cs' A' ∧
      ∀ b' off', cur' = some (b', off') → (b' ∈ Actx ∨ ∃ off, cur = some (b', off) ∧ off ≤ off' ∧ off' + v.t.size ≤ off + (PT.arr n t1).size) ∧ Leaves w F (.i k :: p) (.arr n t1) m x cur cs v Actx A' b' off' := by
  simp only [loc] at hl
  split at hl
  case isFalse => cases hl
  rename_i hk
  have hrl : List.length x = n ∧ RepL (Rep w F t1 m1) x cs A := by
    rcases hm with ⟨rfl, rfl⟩ | rfl <;> simpa [Rep] using hr
  obtain ⟨hn, hrl⟩ := hrl
  subst hn
  have hi : k.toNat < x.length := by omega
  obtain ⟨c1, c, c2, A1, A', A2, rfl, rfl, hc1, hx, hset⟩ := repL_at (fun x c A h => rep_length t1 _ x c A h) hrl hi
  have hce : c.length = t1.size := rep_length _ _ _ _ _ hx
  have hgx : getP real0 t1 m1 x[k.toNat] p = some v := by
    rcases hm with ⟨rfl, rfl⟩ | rfl <;> simpa [getP, real0, List.getD_eq_getElem?_getD, List.getElem?_eq_getElem hi] using hg
  rw [← hc1, List.drop_left, ← hce, List.take_left] at hl
  refine path_flat ih (u := ⟨t1, m1, x[k.toNat]⟩) (c1 := c1) (c := c) (c2 := c2) hnd hlaid rfl rfl hx hgx hl (fun w' => by simp only [loc]; rw [if_pos hk, ← hc1, List.drop_left, ← hce, List.take_left]) (fun off => ?_) (fun w' F' nv mN xN hs hF hw hA => ?_)
  · rw [hc1]
    show off + k.toNat * t1.size + t1.size ≤ off + x.length * t1.size
    have : (k.toNat + 1) * t1.size ≤ x.length * t1.size := Nat.mul_le_mul_right _ hi
    rw [Nat.succ_mul] at this
    omega
  · have hsx : ∃ y, setP real0 nv p t1 m1 x[k.toNat] = some (m1, y) ∧ mN = m ∧ xN = x.set k.toNat y := by
      rcases hm with ⟨rfl, rfl⟩ | rfl
      all_goals
        simp only [setP] at hs
        split at hs
        case h_2 => cases hs
        rename_i m'' y hsy
        split at hs
        case isFalse => cases hs
        rename_i hbeq
        obtain rfl := Md.eq_of_beq hbeq
        simp only [Option.some.injEq, Prod.mk.injEq] at hs
        obtain ⟨rfl, rfl⟩ := hs
        refine ⟨y, ?_, rfl, rfl⟩
        simpa [real0, List.getD_eq_getElem?_getD, List.getElem?_eq_getElem hi] using hsy
    obtain ⟨y, hsy, rfl, rfl⟩ := hsx
    refine ⟨m1, y, hsy, fun d B hd => ?_⟩
    have hk2 := hset (Rep w' F' t1 m1) y d B (fun x c A'' hb hR => rep_frame hF hw t1 _ x c A'' (fun b hb' => hA b (hb b hb')) hR) hd
    have hlen : (x.set k.toNat y).length = x.length := by simp
    rcases hm with ⟨rfl, rfl⟩ | rfl
    · show Rep w' F' (.arr x.length t1) .n (x.set k.toNat y) _ _
      simp only [Rep]
      exact ⟨hlen, hk2⟩
    · show Rep w' F' (.arr x.length t1) (.a m1) (x.set k.toNat y) _ _
      simp only [Rep]
      exact ⟨hlen, hk2⟩

theorem flat_st {w : World} {F : Nat → Prop} {p : List Stp} (ih : PathLaw w F p) {ts : List PT} {m : Md} {x : PT.denL ts} {cs : List Value} {cur : Option (Nat × Nat)} {A : List Nat} {v : TV} {cur' : Option (Nat × Nat)} {cs' : List Value} {i : Nat}
    (hm : m = .n ∨ ∃ ms, m = .s ms) (hr : Rep w F (.st ts) m x cs A) (hnd : A.Nodup) (hlaid : Laid w (PT.st ts).size cur cs A) (hg : getP real0 (.st ts) m x (.f i :: p) = some v) (hl : loc w (.st ts) cur cs (.f i :: p) = some (cur', cs')) :
    ∃ Actx A', A.Perm (Actx ++ A') ∧ Rep w F v.t v.m v.x cs' A' ∧ Laid w v.t.size cur' cs' A' ∧
      ∀ b' off', cur' = some (b', off') → (b' ∈ Actx ∨ ∃ off, cur = some (b', off) ∧ off ≤ off' ∧ off' + v.t.size ≤ off + (PT.st ts).size) ∧ Leaves w F (.f i :: p) (.st ts) m x cur cs v Actx A' b' off' := by
  have hrs : RepS w F ts m 0 x cs A := by
    rcases hm with rfl | ⟨ms, rfl⟩ <;> simpa [Rep] using hr
  have hgx : ∃ u, fldP ts m 0 x i = some u ∧ getP real0 u.t u.m u.x p = some v := by
    rcases hm with rfl | ⟨ms, rfl⟩
    all_goals
      simp only [getP] at hg
      split at hg
      · exact ⟨_, by assumption, hg⟩
      · cases hg
  obtain ⟨u, hu, hgu⟩ := hgx
  obtain ⟨c1, c, c2, A1, A', A2, rfl, rfl, hc1, hti, hx, hset⟩ := fld_at ts m 0 x cs A i u hrs hu
  have hce : c.length = u.t.size := rep_length _ _ _ _ _ hx
  simp only [loc, hti] at hl
  rw [← hc1, List.drop_left, ← hce, List.take_left] at hl
  refine path_flat ih (u := u) (c1 := c1) (c := c) (c2 := c2) hnd hlaid rfl rfl hx hgu hl (fun w' => by simp only [loc, hti]; rw [← hc1, List.drop_left, ← hce, List.take_left]) (fun off => ?_) (fun w' F' nv mN xN hs hF hw hA => ?_)
  · have := repS_length ts _ _ _ _ _ hrs
    simp only [List.length_append, hce] at this
    show _ ≤ off + PT.sizeL ts
    omega
  · have hsx : ∃ ms, setF (setP real0 nv p) ts m 0 x i = some (ms, xN) ∧ mN = mkS ms := by
      rcases hm with rfl | ⟨ms, rfl⟩
      all_goals
        simp only [setP] at hs
        split at hs
        case h_2 => cases hs
        rename_i ms' y hsy
        simp only [Option.some.injEq, Prod.mk.injEq] at hs
        obtain ⟨rfl, rfl⟩ := hs
        exact ⟨ms', hsy, rfl⟩
    obtain ⟨ms, hsm, rfl⟩ := hsx
    obtain ⟨m', y, hg', hput⟩ := hset w' F' _ ms xN hsm hF hw hA
    exact ⟨m', y, hg', fun d B hd => rep_mkS (setF_length hsm) (hput d B hd)⟩

/-- **THE LAW OF A PATH.** -/
theorem path_law (w : World) (F : Nat → Prop) : ∀ p, PathLaw w F p
  | [] => path_nil w F
  | s :: p => by
    have ih := path_law w F p
    intro t m x cs cur A v cur' cs' hr hnd hlaid hg hl
    rcases getP_cases hg with ⟨ts, i, rfl, rfl⟩ | ⟨n, t1, k, rfl, rfl⟩ | ⟨t1, m1, k, rfl, rfl, rfl⟩ | ⟨t1, m1, rfl, rfl, rfl⟩
    · refine flat_st ih ?_ hr hnd hlaid hg hl
      cases m <;> simp_all [getP]
    · have hm : (m = .n ∧ ∃ m1, m1 = Md.n) ∨ ∃ m1, m = .a m1 := by
        cases m <;> simp_all [getP]
      rcases hm with ⟨rfl, m1, rfl⟩ | ⟨m1, rfl⟩
      · exact flat_arr ih (m1 := .n) (.inl ⟨rfl, rfl⟩) hr hnd hlaid hg hl
      · exact flat_arr ih (m1 := m1) (.inr rfl) hr hnd hlaid hg hl
    · exact path_e ih hr hnd hlaid hg hl
    · exact path_d ih hr hnd hlaid hg hl

end Go.Proofs.Ytaachifkgcdeoaa.Sy

namespace Go.Proofs.Ytaachifkgcdeoaa.Sy
open Go.RowKit
set_option linter.unusedSimpArgs false
set_option linter.unusedVariables false

/-- What a function has captured: a pointer into a slot's own memory, or one to memory that nobody writes. -/
inductive Cap where
  | r (k : Nat) (p : List Stp)
  | v (t : PT) (m : Md) (x : t.den)
def capDeps : List Cap → List Nat
  | [] => []
  | .r k _ :: cs => k :: capDeps cs
  | .v _ _ _ :: cs => capDeps cs

inductive Slot where
  | dead                                   -- nothing is known
  | val (t : PT) (m : Md) (x : t.den)      -- a value, with what it owns
  | pv (t : PT) (x : t.den)                -- a pointer to memory that nobody writes, where x lies
  | ref (k : Nat) (p : List Stp)           -- a pointer into slot k's own memory
  | bor (k : Nat) (p : List Stp)           -- a copy of what stands in slot k at p
  | win (k : Nat) (p : List Stp) (lo hi : Int)   -- a part of the list that stands in slot k at p
  | app (k : Nat) (p : List Stp) (t : PT) (ys : List t.den)   -- that list with ys behind it: not yet laid down anywhere
  | tup (vs : List (Option TV))            -- several results
  | clo (f : FuncId) (cs : List Cap)       -- a function with what it captured
  | mp (kt vt : PT) (m : List (kt.den × vt.den))   -- a map of one's own
  | mal (k : Nat)                          -- the map that stands in slot k
  | pm (t : PT) (m : Md) (x : t.den)       -- as pv; what m tells to be unknown is not seen
  | cnd (gl : List (Nat × Bool)) (s : Slot)   -- s, if these slots hold these bools (a guarded operation's)
deriving Inhabited

mutual
/-- Does it own a block? -/
def Md.owned : Md → Bool
  | .n | .j => false
  | .l _ | .b _ => true
  | .a m => m.owned
  | .s ms => Md.ownedL ms
def Md.ownedL : List Md → Bool
  | [] => false
  | m :: ms => m.owned || Md.ownedL ms
end

/-- The slots that it hangs on. -/
def Slot.deps : Slot → List Nat
  | .ref k _ | .bor k _ | .win k _ _ _ | .app k _ _ _ | .mal k => [k]
  | .clo _ cs => capDeps cs
  | .cnd gl s => gl.map (·.1) ++ s.deps
  | _ => []

def holdsG (vs : Nat → Value) (gl : List (Nat × Bool)) : Prop := ∀ g ∈ gl, vs g.1 = .bool g.2

def wrapV (t : PT) (cs : List Value) : Value := if t.isAgg then .agg cs.toArray else cs.headD undef

theorem wrapV_inj {t : PT} {cs cs' : List Value} (h : cs.length = t.size) (h' : cs'.length = t.size) (e : wrapV t cs = wrapV t cs') : cs = cs' := by
  unfold wrapV at e
  split at e
  · simpa using e
  · rename_i ha
    have h1 : t.size = 1 := by cases t <;> simp_all [PT.isAgg, PT.size]
    rw [h1] at h h'
    obtain ⟨a, rfl⟩ := List.length_eq_one_iff.1 h
    obtain ⟨b, rfl⟩ := List.length_eq_one_iff.1 h'
    simpa using e

/-- Flat behind its first step: a place in the variable's own block. -/
def flatP : List Stp → Bool
  | [] => true
  | .f _ :: p => flatP p
  | .i _ :: p => flatP p
  | _ => false

/-- Slot k holds a value of its own; at p stands v, in the cells cs', at cur. -/
def Rooted (w : World) (look : Nat → Slot) (vs : Nat → Value) (k : Nat) (p : List Stp) (v : TV) (cur : Option (Nat × Nat)) (cs' : List Value) : Prop :=
  ∃ t m x cs, look k = .val t m x ∧ m.owned = true ∧ vs k = wrapV t cs ∧ cs.length = t.size ∧ getP real0 t m x p = some v ∧ loc w t none cs p = some (cur, cs')

/-- The same without a word on what stands there: a place in the variable's own block. -/
def RootedF (w : World) (look : Nat → Slot) (vs : Nat → Value) (k : Nat) (p : List Stp) (b off : Nat) : Prop :=
  ∃ t m x p' cs', look k = .val (.box t) (.b m) x ∧ p = .d :: p' ∧ flatP p' = true ∧ vs k = .pointer (some ⟨b, 0, none⟩) ∧ loc w (.box t) none [.pointer (some ⟨b, 0, none⟩)] p = some (some (b, off), cs')

def RepTup (w : World) (F : Nat → Prop) : List (Option TV) → List Value → List Nat → Prop :=
  RepL fun o cs A => match o with
    | some v => cs.length = 1 ∧ ∃ cs', Rep w F v.t v.m v.x cs' A ∧ cs = [wrapV v.t cs']
    | none => cs.length = 1 ∧ A = []

def RepCaps (w : World) (F : Nat → Prop) (look : Nat → Slot) (vs : Nat → Value) : List Cap → List Value → Prop
  | [], us => us = []
  | .r k p :: cs, us => ∃ b off us', us = .pointer (some ⟨b, off, none⟩) :: us' ∧ (RootedF w look vs k p b off ∨ ∃ v cs', Rooted w look vs k p v (some (b, off)) cs') ∧ RepCaps w F look vs cs us'
  | .v t m x :: cs, us => ∃ b off c e fr us', us = .pointer (some ⟨b, off, none⟩) :: us' ∧ F b ∧ w.heap[b]? = some (.cells c e fr) ∧ off + t.size ≤ c.size ∧ Rep w F t m x ((c.toList.drop off).take t.size) [] ∧ RepCaps w F look vs cs us'

/-- A map's entries, in their order; what they hold needs no memory. -/
def RepMap (kt vt : PT) : List (kt.den × vt.den) → List MapEntry → Prop
  | [], es => es = []
  | (k, v) :: m, es => ∃ e es' ck cv, es = e :: es' ∧ (∀ w F, Rep w F kt .n k ck []) ∧ e.key = wrapV kt ck ∧ (∀ w F, Rep w F vt .n v cv []) ∧ e.val = wrapV vt cv ∧ RepMap kt vt m es'

def RepSlot (w : World) (F : Nat → Prop) (look : Nat → Slot) (vs : Nat → Value) : Slot → Value → List Nat → Prop
  | .dead, _, A => A = []
  | .val t m x, u, A => ∃ cs, Rep w F t m x cs A ∧ u = wrapV t cs
  | .ref k p, u, A => A = [] ∧ ∃ b off, u = .pointer (some ⟨b, off, none⟩) ∧ (RootedF w look vs k p b off ∨ ∃ v cs', Rooted w look vs k p v (some (b, off)) cs')
  | .bor k p, u, A => A = [] ∧ ∃ v cur cs', Rooted w look vs k p v cur cs' ∧ u = wrapV v.t cs'
  | .win k p lo hi, u, A => A = [] ∧ ∃ te me xs cur a cap, Rooted w look vs k p ⟨.list te, .l me, xs⟩ cur [.slice a (List.length xs) cap] ∧ 0 ≤ lo ∧ lo ≤ hi ∧ hi ≤ List.length xs ∧
      ∃ a', u = .slice a' (hi.toNat - lo.toNat) (cap - lo.toNat) ∧ (cap = lo.toNat ∨ a' = a.map (·.add (lo.toNat * te.size)))
  | .app k p te ys, u, A => ∃ me xs cur a cap, Rooted w look vs k p ⟨.list te, .l me, xs⟩ cur [.slice a (List.length xs) cap] ∧ List.length xs + ys.length ≤ 4294967296 ∧
      ((ys = [] ∧ A = [] ∧ u = .slice a (List.length xs) cap) ∨
       (∃ b off c e fr, ys ≠ [] ∧ a = some ⟨b, off, none⟩ ∧ w.heap[b]? = some (.cells c e fr) ∧ List.length xs + ys.length ≤ cap ∧ u = .slice a (List.length xs + ys.length) cap ∧
          RepL (Rep w F te me) ys ((c.toList.drop (off + List.length xs * te.size)).take (ys.length * te.size)) A) ∨
       (∃ b c e fr A2 cap2 c1 c2, u = .slice (some ⟨b, 0, none⟩) (List.length xs + ys.length) cap2 ∧ A = b :: A2 ∧ w.heap[b]? = some (.cells c e fr) ∧ Free c fr ∧ List.length xs + ys.length ≤ cap2 ∧ cap2 * te.size ≤ c.size ∧
          c.toList.take ((List.length xs + ys.length) * te.size) = c1 ++ c2 ∧ (xs = [] ∧ c1 = [] ∨ ∃ b0 o0, xs ≠ [] ∧ a = some ⟨b0, o0, none⟩ ∧ c1 = rdCells w b0 o0 (List.length xs * te.size)) ∧ RepL (Rep w F te me) ys c2 A2))
  | .pv t x, u, A => A = [] ∧ ∃ b off c e fr, u = .pointer (some ⟨b, off, none⟩) ∧ F b ∧ w.heap[b]? = some (.cells c e fr) ∧ off + t.size ≤ c.size ∧ Rep w F t .n x ((c.toList.drop off).take t.size) []
  | .tup ts, u, A => ∃ us, u = .tuple us ∧ RepTup w F ts us.toList A
  | .clo f cs, u, A => A = [] ∧ ∃ us, u = .func (.func f) #[] us ∧ RepCaps w F look vs cs us.toList
  | .mp kt vt m, u, A => ∃ r es clk, u = .map (some r) ∧ A = [r] ∧ w.heap[r]? = some (.map es clk) ∧ RepMap kt vt m es.toList
  | .mal k, u, A => A = [] ∧ u = vs k
  | .pm t m x, u, A => A = [] ∧ ∃ b off c e fr, u = .pointer (some ⟨b, off, none⟩) ∧ F b ∧ w.heap[b]? = some (.cells c e fr) ∧ off + t.size ≤ c.size ∧ Rep w F t m x ((c.toList.drop off).take t.size) []
  | .cnd gl s, u, A => (holdsG vs gl → RepSlot w F look vs s u A) ∧ (¬ holdsG vs gl → A = [] ∧ u = undef)

/-- What a call keeps of the world: all but its heap, and the blocks F. -/
structure Kept (F : Nat → Prop) (w w' : World) : Prop where
  os : w'.os = w.os
  tape : w'.tape = w.tape
  output : w'.output = w.output
  size : w.heap.size ≤ w'.heap.size
  block : ∀ k, F k → w'.heap[k]? = w.heap[k]?

theorem Kept.refl (F : Nat → Prop) (w : World) : Kept F w w := ⟨rfl, rfl, rfl, Nat.le_refl _, fun _ _ => rfl⟩
theorem Kept.trans {F : Nat → Prop} {a b c : World} (h : Kept F a b) (k : Kept F b c) : Kept F a c :=
  ⟨k.os.trans h.os, k.tape.trans h.tape, k.output.trans h.output, Nat.le_trans h.size k.size, fun i hi => (k.block i hi).trans (h.block i hi)⟩

structure Env where
  P : Program
  w0 : World
  F : Nat → Prop
  hF : ∀ b, F b → b < w0.heap.size

/-- What keeps all that is there keeps F, too. -/
theorem Kept.of_below {E : Env} {w w' : World} (h : Kept E.F E.w0 w) (k : Below w.heap.size w w') : Kept E.F E.w0 w' :=
  h.trans ⟨k.os, k.tape, k.output, k.size, fun i hi => k.block i (Nat.lt_of_lt_of_le (E.hF i hi) h.size)⟩

/-- The frame and the world are as the slots say; the blocks fl are the call's own, too, and hang on no slot. -/
structure RepSt (E : Env) (σ : List Slot) (a : Act) (w : World) (fl : List Nat) : Prop where mk ::
  defers : a.defers = []
  len : σ.length = a.tmps.size
  below : Kept E.F E.w0 w
  slots : ∃ ow : Nat → Option Nat, (∀ b k, ow b = some k → ¬ E.F b ∧ b < w.heap.size) ∧ fl.Nodup ∧ (∀ b ∈ fl, ow b = none ∧ ¬ E.F b ∧ b < w.heap.size) ∧
    ∀ k, ∃ A, A.Nodup ∧ (∀ b ∈ A, ow b = some k) ∧ RepSlot w E.F (fun k => σ.getD k .dead) (fun k => a.tmps.getD k undef) (σ.getD k .dead) (a.tmps.getD k undef) A

abbrev RepState (E : Env) (σ : List Slot) (a : Act) (w : World) : Prop := RepSt E σ a w []

def killS (d : Nat) (s : Slot) : Slot := if s.deps.contains d then .dead else s

def Slot.own : Slot → Bool
  | .val _ m _ => m.owned
  | _ => false

/-- A slot written: what hung on what stood there is forgotten. -/
def setS (σ : List Slot) (d : Nat) (s : Slot) : List Slot :=
  (σ.map (killS d)).set d (killS d s)

/-! ### A world that is the same at what a slot looks at -/
theorem loc_frame {w w' : World} {F : Nat → Prop} : ∀ (p : List Stp) (t : PT) (m : Md) (x : t.den) (cs : List Value) (cur : Option (Nat × Nat)) (A : List Nat) (v : TV),
    Rep w F t m x cs A → (∀ b ∈ A, w'.heap[b]? = w.heap[b]?) → getP real0 t m x p = some v → loc w' t cur cs p = loc w t cur cs p
  | [], _, _, _, _, _, _, _, _, _, _ => by simp [loc]
  | s :: p, t, m, x, cs, cur, A, v, hr, hA, hg => by
    rcases getP_cases hg with ⟨ts, i, rfl, rfl⟩ | ⟨n, t1, k, rfl, rfl⟩ | ⟨t1, m1, k, rfl, rfl, rfl⟩ | ⟨t1, m1, rfl, rfl, rfl⟩
    · have hm : m = .n ∨ ∃ ms, m = .s ms := by cases m <;> simp_all [getP]
      have hrs : RepS w F ts m 0 x cs A := by
        rcases hm with rfl | ⟨ms, rfl⟩ <;> simpa [Rep] using hr
      have hgx : ∃ u, fldP ts m 0 x i = some u ∧ getP real0 u.t u.m u.x p = some v := by
        rcases hm with rfl | ⟨ms, rfl⟩
        all_goals
          simp only [getP] at hg
          split at hg
          · exact ⟨_, by assumption, hg⟩
          · cases hg
      obtain ⟨u, hu, hgu⟩ := hgx
      obtain ⟨c1, c, c2, A1, A', A2, rfl, rfl, hc1, hti, hx, _⟩ := fld_at ts m 0 x cs A i u hrs hu
      have hce : c.length = u.t.size := rep_length _ _ _ _ _ hx
      simp only [loc, hti]
      rw [← hc1, List.drop_left, ← hce, List.take_left]
      exact loc_frame p u.t u.m u.x c _ A' v hx (fun b hb => hA b (by simp [hb])) hgu
    · have hm : ∃ m1, RepL (Rep w F t1 m1) x cs A ∧ List.length x = n ∧ getP real0 t1 m1 (real0.get t1 x k) p = some v := by
        cases m <;> simp [getP] at hg <;> simp only [Rep] at hr
        · exact ⟨_, hr.2, hr.1, hg⟩
        · exact ⟨_, hr.2, hr.1, hg⟩
      obtain ⟨m1, hrl, hnx, hg'⟩ := hm
      simp only [loc]
      split
      · rename_i hk
        have hi : k.toNat < List.length x := by omega
        obtain ⟨c1, c, c2, A1, A', A2, rfl, rfl, hc1, hx, _⟩ := repL_at (fun x c A h => rep_length t1 _ x c A h) hrl hi
        have hce : c.length = t1.size := rep_length _ _ _ _ _ hx
        rw [← hc1, List.drop_left, ← hce, List.take_left]
        exact loc_frame p t1 m1 _ c _ A' v hx (fun b hb => hA b (by simp [hb])) (by simpa [real0, List.getD_eq_getElem?_getD, List.getElem?_eq_getElem hi] using hg')
      · rfl
    · simp only [Rep] at hr
      obtain ⟨h0, a, cap, rfl, hd⟩ := hr
      simp only [loc]
      split
      case h_2 => rfl
      rename_i b0 o0 len cap' heq
      simp only [List.cons.injEq, Value.slice.injEq, and_true] at heq
      obtain ⟨rfl, rfl, rfl⟩ := heq
      split
      case isFalse => rfl
      rename_i hk
      rcases hd with ⟨rfl, _⟩ | ⟨b, off, c, e, fr, A', hba, rfl, hb, hfree, hcap, hsz, hrl⟩
      · simp at hk; omega
      simp only [Option.some.injEq, Addr.mk.injEq, and_true] at hba
      obtain ⟨rfl, rfl⟩ := hba
      have hi : k.toNat < List.length x := by omega
      obtain ⟨c1, ce, c2, A1, Ae, A2, hcs, rfl, hc1, hx, _⟩ := repL_at (fun x c A h => rep_length t1 _ x c A h) hrl hi
      have hce : ce.length = t1.size := rep_length _ _ _ _ _ hx
      have hmul : List.length x * t1.size ≤ cap * t1.size := Nat.mul_le_mul_right _ hcap
      have hcell : rdCells w b0 (o0 + k.toNat * t1.size) t1.size = ce := by
        rw [rdCells_of hb, ← hc1, ← hce]
        exact (seg_inner (n := List.length x * t1.size) rfl (by simp; omega) hcs).symm
      have hcell' : rdCells w' b0 (o0 + k.toNat * t1.size) t1.size = ce := by
        rw [← hcell, rdCells_of hb, rdCells_of ((hA b0 (by simp)).trans hb)]
      rw [hcell, hcell']
      refine loc_frame p t1 m1 _ ce _ Ae v hx (fun b hb => hA b (by simp [hb])) ?_
      simpa [getP, real0, List.getD_eq_getElem?_getD, List.getElem?_eq_getElem hi] using hg
    · simp only [Rep] at hr
      obtain ⟨b0, c, e, fr, A', rfl, rfl, hb, hfree, hx⟩ := hr
      have hcl : c.toList.length = t1.size := rep_length _ _ _ _ _ hx
      have hcell : rdCells w b0 0 t1.size = c.toList := by
        rw [rdCells_of hb, List.drop_zero, List.take_of_length_le (by omega)]
      have hcell' : rdCells w' b0 0 t1.size = c.toList := by
        rw [rdCells_of ((hA b0 (by simp)).trans hb), List.drop_zero, List.take_of_length_le (by omega)]
      simp only [loc, hcell, hcell']
      exact loc_frame p t1 m1 _ _ _ A' v hx (fun b hb => hA b (by simp [hb])) (by simpa [getP] using hg)

/-- A flat path leads to the same place whatever the cells hold. -/
theorem loc_flat {w w' : World} : ∀ (p : List Stp) (t : PT) (cs cs' : List Value) (cur : Option (Nat × Nat)) (bo : Nat × Nat) (ds : List Value), flatP p = true → loc w t cur cs p = some (some bo, ds) → ∃ ds', loc w' t cur cs' p = some (some bo, ds')
  | [], t, cs, cs', cur, bo, ds, _, h => by
    simp only [loc, Option.some.injEq, Prod.mk.injEq] at h
    exact ⟨cs', by simp [loc, h.1]⟩
  | .f i :: p, t, cs, cs', cur, bo, ds, hf, h => by
    cases t <;> simp only [loc] at h ⊢ <;> try (cases h; done)
    split at h
    · exact loc_flat p _ _ _ _ bo ds hf h
    · cases h
  | .i k :: p, t, cs, cs', cur, bo, ds, hf, h => by
    cases t <;> simp only [loc] at h ⊢ <;> try (cases h; done)
    split at h
    · rename_i hk
      rw [if_pos hk]
      exact loc_flat p _ _ _ _ bo ds hf h
    · cases h
  | .e k :: p, t, cs, cs', cur, bo, ds, hf, h => by cases hf
  | .d :: p, t, cs, cs', cur, bo, ds, hf, h => by cases hf

/-! ### Two paths that part at a struct's fields -/
def disjF : List Stp → List Stp → Bool
  | .f i :: p, .f j :: q => if Nat.beq i j then disjF p q else true
  | .d :: p, .d :: q => disjF p q
  | _, _ => false
def disjP : List Stp → List Stp → Bool
  | .d :: p, .d :: q => disjF p q
  | _, _ => false

theorem mkS_fld {ms : List Md} {q : Nat} (hq : q < ms.length) : (mkS ms).fld q = ms.getD q .j := by
  unfold mkS
  split
  · rename_i ha
    rw [allN_get ms q ha hq]
    rfl
  · rfl

theorem setF_other {g : (t : PT) → Md → t.den → Option (Md × t.den)} : ∀ (ts : List PT) (m : Md) (i0 : Nat) (x : PT.denL ts) (j : Nat) (ms : List Md) (z : PT.denL ts), setF g ts m i0 x j = some (ms, z) →
    ∀ (i : Nat), i ≠ j → ∀ u, fldP ts m i0 x i = some u → ∀ (M : Md) (i1 : Nat), (∀ q, q < ts.length → M.fld (i1 + q) = ms.getD q .j) → fldP ts M i1 z i = some u
  | [], _, _, _, _, _, _, h => by simp [setF] at h
  | t :: ts, m, i0, x, 0, ms, z, h => by
    intro i hij u hu M i1 hM
    simp only [setF] at h
    split at h
    case h_2 => cases h
    rename_i m' y hg
    simp only [Option.some.injEq, Prod.mk.injEq] at h
    obtain ⟨rfl, rfl⟩ := h
    cases i with
    | zero => exact absurd rfl hij
    | succ i =>
      simp only [fldP] at hu ⊢
      exact fldP_md ts m M (i0 + 1) (i1 + 1) x.2 i u hu fun q hq => by
        have := hM (q + 1) (by simp; omega)
        rw [show i1 + 1 + q = i1 + (q + 1) by omega, this, List.getD_cons_succ, rest_fld ts m (i0 + 1) q hq]
  | t :: ts, m, i0, x, j + 1, ms, z, h => by
    intro i hij u hu M i1 hM
    simp only [setF] at h
    split at h
    case h_2 => cases h
    rename_i ms' z' hg
    simp only [Option.some.injEq, Prod.mk.injEq] at h
    obtain ⟨rfl, rfl⟩ := h
    cases i with
    | zero =>
      simp only [fldP, Option.some.injEq] at hu ⊢
      subst hu
      have := hM 0 (by simp)
      simp only [Nat.add_zero, List.getD_cons_zero] at this
      rw [this]
    | succ i =>
      simp only [fldP] at hu ⊢
      exact setF_other ts m (i0 + 1) x.2 j ms' z' hg i (fun e => hij (by rw [e])) u hu M (i1 + 1) fun q hq => by
        have := hM (q + 1) (by simp; omega)
        rw [show i1 + 1 + q = i1 + (q + 1) by omega, this, List.getD_cons_succ]
where fldP_md : ∀ (ts : List PT) (m M : Md) (i0 i1 : Nat) (x : PT.denL ts) (i : Nat) (u : TV), fldP ts m i0 x i = some u → (∀ q, q < ts.length → M.fld (i1 + q) = m.fld (i0 + q)) → fldP ts M i1 x i = some u
  | [], _, _, _, _, _, _, _, h, _ => by simp [fldP] at h
  | t :: ts, m, M, i0, i1, x, 0, u, h, hm => by
    simp only [fldP, Option.some.injEq] at h ⊢
    have := hm 0 (by simp)
    simp only [Nat.add_zero] at this
    rw [this]; exact h
  | t :: ts, m, M, i0, i1, x, i + 1, u, h, hm => by
    simp only [fldP] at h ⊢
    exact fldP_md ts m M (i0 + 1) (i1 + 1) x.2 i u h fun q hq => by
      have := hm (q + 1) (by simp; omega)
      rw [show i1 + 1 + q = i1 + (q + 1) by omega, show i0 + 1 + q = i0 + (q + 1) by omega, this]
theorem setF_self {g : (t : PT) → Md → t.den → Option (Md × t.den)} : ∀ (ts : List PT) (m : Md) (i0 : Nat) (x : PT.denL ts) (j : Nat) (ms : List Md) (z : PT.denL ts), setF g ts m i0 x j = some (ms, z) →
    ∃ t m0 x0 m' y, fldP ts m i0 x j = some ⟨t, m0, x0⟩ ∧ g t m0 x0 = some (m', y) ∧ ∀ (M : Md) (i1 : Nat), (∀ q, q < ts.length → M.fld (i1 + q) = ms.getD q .j) → fldP ts M i1 z j = some ⟨t, m', y⟩
  | [], _, _, _, _, _, _, h => by simp [setF] at h
  | t :: ts, m, i0, x, 0, ms, z, h => by
    simp only [setF] at h
    split at h
    case h_2 => cases h
    rename_i m' y hg
    simp only [Option.some.injEq, Prod.mk.injEq] at h
    obtain ⟨rfl, rfl⟩ := h
    refine ⟨t, m.fld i0, x.1, m', y, rfl, hg, fun M i1 hM => ?_⟩
    have := hM 0 (by simp)
    simp only [Nat.add_zero, List.getD_cons_zero] at this
    simp only [fldP, this]
  | t :: ts, m, i0, x, j + 1, ms, z, h => by
    simp only [setF] at h
    split at h
    case h_2 => cases h
    rename_i ms' z' hg
    simp only [Option.some.injEq, Prod.mk.injEq] at h
    obtain ⟨rfl, rfl⟩ := h
    obtain ⟨t', m0, x0, m', y, h1, h2, h3⟩ := setF_self ts m (i0 + 1) x.2 j ms' z' hg
    refine ⟨t', m0, x0, m', y, h1, h2, fun M i1 hM => ?_⟩
    simp only [fldP]
    exact h3 M (i1 + 1) fun q hq => by
      have := hM (q + 1) (by simp; omega)
      rw [show i1 + 1 + q = i1 + (q + 1) by omega, this, List.getD_cons_succ]

theorem getP_disj {nv : TV} : ∀ (p q : List Stp) (t : PT) (m : Md) (x : t.den) (mN : Md) (xN : t.den) (v : TV), disjF p q = true → getP real0 t m x p = some v → setP real0 nv q t m x = some (mN, xN) → getP real0 t mN xN p = some v
  | [], q, _, _, _, _, _, _, h, _, _ => by simp [disjF] at h
  | .e _ :: p, q, _, _, _, _, _, _, h, _, _ => by simp [disjF] at h
  | .i _ :: p, q, _, _, _, _, _, _, h, _, _ => by simp [disjF] at h
  | .d :: p, q, t, m, x, mN, xN, v, h, hg, hs => by
    cases q with
    | nil => simp [disjF] at h
    | cons s q =>
      cases s <;> simp only [disjF] at h <;> try (cases h; done)
      cases t <;> cases m <;> simp only [getP] at hg <;> try (cases hg; done)
      simp only [setP] at hs
      split at hs
      case h_2 => cases hs
      rename_i m' y hh
      simp only [Option.some.injEq, Prod.mk.injEq] at hs
      obtain ⟨rfl, rfl⟩ := hs
      simp only [getP]
      exact getP_disj p q _ _ _ _ _ v h hg hh
  | .f i :: p, q, t, m, x, mN, xN, v, h, hg, hs => by
    cases q with
    | nil => simp [disjF] at h
    | cons s q =>
      cases s <;> simp only [disjF] at h <;> try (cases h; done)
      rename_i j
      cases t <;> try (cases m <;> simp [getP] at hg; done)
      rename_i ts
      have hm : (m = .n ∨ ∃ ms, m = .s ms) := by cases m <;> simp_all [getP]
      have hg' : ∃ u, fldP ts m 0 x i = some u ∧ getP real0 u.t u.m u.x p = some v := by
        rcases hm with rfl | ⟨ms, rfl⟩
        all_goals
          simp only [getP] at hg
          split at hg
          · exact ⟨_, by assumption, hg⟩
          · cases hg
      have hs' : ∃ ms z, setF (setP real0 nv q) ts m 0 x j = some (ms, z) ∧ mN = mkS ms ∧ xN = z := by
        rcases hm with rfl | ⟨ms, rfl⟩
        all_goals
          simp only [setP] at hs
          split at hs
          · have hs := Option.some.inj hs
            injection hs with h1 h2
            exact ⟨_, _, by assumption, h1.symm, h2.symm⟩
          · cases hs
      obtain ⟨u, hu, hgu⟩ := hg'
      obtain ⟨ms, z, hz, rfl, rfl⟩ := hs'
      have hlen := setF_length hz
      have hM : ∀ q, q < ts.length → (mkS ms).fld (0 + q) = ms.getD q .j := fun q hq => by rw [Nat.zero_add]; exact mkS_fld (by omega)
      have hfin : ∀ u', fldP ts (mkS ms) 0 xN i = some u' → getP real0 u'.t u'.m u'.x p = some v → getP real0 (.st ts) (mkS ms) xN (.f i :: p) = some v := by
        intro u' h1 h2
        have hk : mkS ms = .n ∨ ∃ ms', mkS ms = .s ms' := by
          unfold mkS; split
          · exact .inl rfl
          · exact .inr ⟨_, rfl⟩
        rcases hk with e | ⟨ms', e⟩
        all_goals
          rw [e] at h1 ⊢
          simp only [getP, h1]
          exact h2
      split at h
      · rename_i hij
        obtain rfl := Nat.eq_of_beq_eq_true hij
        obtain ⟨t', m0, x0, m', y, h1, h2, h3⟩ := setF_self ts m 0 x i ms xN hz
        rw [hu] at h1
        obtain rfl := Option.some.inj h1
        exact hfin _ (h3 (mkS ms) 0 hM) (getP_disj p q _ _ _ _ _ v h hgu h2)
      · rename_i hij
        have hne : i ≠ j := fun e => hij (by rw [e]; exact Nat.beq_refl j)
        exact hfin u (setF_other ts m 0 x j ms xN hz i hne u hu (mkS ms) 0 hM) hgu

/-- Two fields at once. -/
theorem fld_two {w : World} {F : Nat → Prop} : ∀ (ts : List PT) (m : Md) (i0 : Nat) (x : PT.denL ts) (cs : List Value) (A : List Nat) (i j : Nat) (ui uj : TV), i < j → RepS w F ts m i0 x cs A → fldP ts m i0 x i = some ui → fldP ts m i0 x j = some uj →
    ∃ c0 ci c1 cj c2 A0 Ai A1 Aj A2, cs = c0 ++ (ci ++ (c1 ++ (cj ++ c2))) ∧ A = A0 ++ (Ai ++ (A1 ++ (Aj ++ A2))) ∧ c0.length = PT.sizeL (ts.take i) ∧ c0.length + (ci.length + c1.length) = PT.sizeL (ts.take j) ∧ ts[i]? = some ui.t ∧ ts[j]? = some uj.t ∧ Rep w F ui.t ui.m ui.x ci Ai ∧ Rep w F uj.t uj.m uj.x cj Aj
  | [], _, _, _, _, _, _, _, _, _, _, _, h, _ => by simp [fldP] at h
  | t :: ts, m, i0, x, cs, A, 0, j, ui, uj, hij, hr, hi, hj => by
    obtain ⟨j, rfl⟩ : ∃ k, j = k + 1 := ⟨j - 1, by omega⟩
    simp only [RepS] at hr
    obtain ⟨c1, c2, A1, A2, rfl, rfl, h1, h2⟩ := hr
    simp only [fldP, Option.some.injEq] at hi hj
    subst hi
    obtain ⟨d1, d, d2, B1, B, B2, rfl, rfl, e1, e2, e3, _⟩ := fld_at ts m (i0 + 1) x.2 c2 A2 j uj h2 hj
    refine ⟨[], c1, d1, d, d2, [], A1, B1, B, B2, by simp, by simp, rfl, ?_, rfl, by simpa using e2, h1, e3⟩
    rw [e1, rep_length t _ _ c1 A1 h1]
    simp [PT.sizeL]
  | t :: ts, m, i0, x, cs, A, i + 1, j, ui, uj, hij, hr, hi, hj => by
    obtain ⟨j, rfl⟩ : ∃ k, j = k + 1 := ⟨j - 1, by omega⟩
    simp only [RepS] at hr
    obtain ⟨c1, c2, A1, A2, rfl, rfl, h1, h2⟩ := hr
    simp only [fldP] at hi hj
    obtain ⟨c0, ci, cc, cj, cl, A0, Ai, AA, Aj, Al, rfl, rfl, e1, e2, e3, e4, e5, e6⟩ := fld_two ts m (i0 + 1) x.2 c2 A2 i j ui uj (by omega) h2 hi hj
    have hl := rep_length t _ _ c1 A1 h1
    refine ⟨c1 ++ c0, ci, cc, cj, cl, A1 ++ A0, Ai, AA, Aj, Al, by simp, by simp, ?_, ?_, by simpa using e3, by simpa using e4, e5, e6⟩
    · rw [List.length_append, e1, hl]; rfl
    · rw [List.length_append, show c1.length + c0.length + (ci.length + cc.length) = c1.length + (c0.length + (ci.length + cc.length)) by omega, e2, hl]; rfl

/-- Where the path q leads to is written: the path p, which parts from it, leads to the same cells. -/
theorem loc_disj {w w' : World} {F : Nat → Prop} {b off : Nat} {ds : List Value} (hw : WriteAt w w' b off ds) : ∀ (p q : List Stp) (t : PT) (m : Md) (x : t.den) (b0 o0 : Nat) (cs : List Value) (A : List Nat) (v vq : TV) (cur : Option (Nat × Nat)) (cs' csq : List Value),
    Rep w F t m x cs A → A.Nodup → Laid w t.size (some (b0, o0)) cs A → disjF p q = true → getP real0 t m x p = some v → getP real0 t m x q = some vq →
    loc w t (some (b0, o0)) cs p = some (cur, cs') → loc w t (some (b0, o0)) cs q = some (some (b, off), csq) → ds.length = vq.t.size →
    loc w' t (some (b0, o0)) (rdCells w' b0 o0 t.size) p = some (cur, cs')
  | [], q, _, _, _, _, _, _, _, _, _, _, _, _, _, _, _, h, _, _, _, _, _ => by simp [disjF] at h
  | .e _ :: p, q, _, _, _, _, _, _, _, _, _, _, _, _, _, _, _, h, _, _, _, _, _ => by simp [disjF] at h
  | .i _ :: p, q, _, _, _, _, _, _, _, _, _, _, _, _, _, _, _, h, _, _, _, _, _ => by simp [disjF] at h
  | .d :: p, q, t, m, x, b0, o0, cs, A, v, vq, cur, cs', csq, hr, hnd, hlaid, h, hp, hq, lp, lq, hds => by
    cases q with
    | nil => simp [disjF] at h
    | cons s q =>
      cases s <;> simp only [disjF] at h <;> try (cases h; done)
      cases t <;> cases m <;> simp only [getP] at hp hq <;> try (cases hp; done)
      rename_i t1 m1
      simp only [Rep] at hr
      obtain ⟨b1, c, e, fr, A', rfl, rfl, hb, hfree, hx⟩ := hr
      have hcl : c.toList.length = t1.size := rep_length _ _ _ _ _ hx
      have hcell : rdCells w b1 0 t1.size = c.toList := by rw [rdCells_of hb, List.drop_zero, List.take_of_length_le (by omega)]
      simp only [loc, hcell] at lp lq
      obtain ⟨hn1, hn2⟩ := List.nodup_cons.1 hnd
      have hlaid1 : Laid w t1.size (some (b1, 0)) c.toList A' := by
        intro bb oo hbo
        simp only [Option.some.injEq, Prod.mk.injEq] at hbo
        obtain ⟨rfl, rfl⟩ := hbo
        exact ⟨hn1, c, e, fr, hb, hfree, by simp at hcl; omega, by rw [List.drop_zero, List.take_of_length_le (by omega)]⟩
      have ih := loc_disj hw p q t1 m1 x b1 0 c.toList A' v vq cur cs' csq hx hn2 hlaid1 h hp hq lp lq hds
      obtain ⟨hb0, cc, e2, fr2, g1, g2, g3, g4⟩ := hlaid b0 o0 rfl
      obtain ⟨Actx, A2, hperm, _, _, hrest⟩ := path_law w F q t1 m1 x c.toList (some (b1, 0)) A' vq (some (b, off)) csq hx hn2 hlaid1 hq lq
      obtain ⟨hwh, _⟩ := hrest b off rfl
      have hne : b0 ≠ b := by
        rintro rfl
        rcases hwh with hwh | ⟨o, ho, _⟩
        · exact hb0 (List.mem_cons_of_mem _ (hperm.mem_iff.2 (by simp [hwh])))
        · simp only [Option.some.injEq, Prod.mk.injEq] at ho
          exact hb0 (by simp [ho.1])
      have hrd : rdCells w' b0 o0 (PT.box t1).size = [.pointer (some ⟨b1, 0, none⟩)] := by
        rw [rdCells_of ((hw.2 b0 hne).trans g1), g4]
      rw [hrd]
      simp only [loc]
      exact ih
  | .f i :: p, q, t, m, x, b0, o0, cs, A, v, vq, cur, cs', csq, hr, hnd, hlaid, h, hp, hq, lp, lq, hds => by
    cases q with
    | nil => simp [disjF] at h
    | cons s q =>
      cases s <;> simp only [disjF] at h <;> try (cases h; done)
      rename_i j
      cases t <;> try (cases m <;> simp [getP] at hp; done)
      rename_i ts
      have hm : (m = .n ∨ ∃ ms, m = .s ms) := by cases m <;> simp_all [getP]
      have hrs : RepS w F ts m 0 x cs A := by
        rcases hm with rfl | ⟨ms, rfl⟩ <;> simpa [Rep] using hr
      have hfld : ∀ (s : Nat) (r : List Stp) (v : TV), getP real0 (.st ts) m x (.f s :: r) = some v → ∃ u, fldP ts m 0 x s = some u ∧ getP real0 u.t u.m u.x r = some v := by
        intro s r v hg
        rcases hm with rfl | ⟨ms, rfl⟩
        all_goals
          simp only [getP] at hg
          split at hg
          · exact ⟨_, by assumption, hg⟩
          · cases hg
      obtain ⟨ui, hui, hgi⟩ := hfld i p v hp
      obtain ⟨uj, huj, hgj⟩ := hfld j q vq hq
      obtain ⟨hb0, cc, e, fr, g1, g2, g3, g4⟩ := hlaid b0 o0 rfl
      obtain ⟨⟨c0w, c0w', e0, fr0, w1, w2, w3, w4⟩, w5⟩ := hw
      have hsz : (PT.st ts).size = PT.sizeL ts := rfl
      -- what the block holds behind the write
      have hrd' : ∀ (o n : Nat), o + n ≤ PT.sizeL ts → (b ≠ b0 ∨ off + ds.length ≤ o0 + o ∨ o0 + o + n ≤ off) → ((rdCells w' b0 o0 (PT.st ts).size).drop o).take n = ((rdCells w b0 o0 (PT.st ts).size).drop o).take n := by
        intro o n hon hcase
        rw [rdCells_of g1]
        by_cases hbb : b = b0
        · subst hbb
          rw [g1] at w1
          simp only [Option.some.injEq, Obj.cells.injEq] at w1
          obtain ⟨rfl, rfl, rfl⟩ := w1
          rw [rdCells_of w2]
          obtain ⟨k1, k2, _⟩ := write_get (by simpa using w3) w4
          apply List.ext_getElem?
          intro k
          simp only [List.getElem?_take, List.getElem?_drop]
          split
          · split
            · rw [k2 _ (by rcases hcase with hcase | hcase | hcase; exact absurd rfl hcase; all_goals omega)]
            · rfl
          · rfl
        · rw [rdCells_of ((w5 b0 (fun e => hbb e.symm)).trans g1)]
      have hcs : rdCells w b0 o0 (PT.st ts).size = cs := by rw [rdCells_of g1, g4]
      split at h
      · -- the same field
        rename_i hij
        obtain rfl := Nat.eq_of_beq_eq_true hij
        rw [hui] at huj
        obtain rfl := Option.some.inj huj
        obtain ⟨c1, c, c2, A1, A', A2, rfl, rfl, hc1, hti, hx, _⟩ := fld_at ts m 0 x cs A i ui hrs hui
        have hce : c.length = ui.t.size := rep_length _ _ _ _ _ hx
        simp only [loc, hti, ← hc1, List.drop_left, ← hce, List.take_left, Option.map_some] at lp lq
        have hn' : A'.Nodup := by
          rw [List.nodup_append] at hnd
          have := hnd.2.1
          rw [List.nodup_append] at this
          exact this.1
        have hl2 := laid_sub hlaid
        rw [hce] at hl2
        have ih := loc_disj ⟨⟨c0w, c0w', e0, fr0, w1, w2, w3, w4⟩, w5⟩ p q ui.t ui.m ui.x b0 (o0 + c1.length) c A' v vq cur cs' csq hx hn' hl2 h hgi hgj lp lq hds
        simp only [loc, hti, Option.map_some, ← hc1]
        have hsub : ((rdCells w' b0 o0 (PT.st ts).size).drop c1.length).take ui.t.size = rdCells w' b0 (o0 + c1.length) ui.t.size := by
          have hle : c1.length + ui.t.size ≤ (PT.st ts).size := by
            have : (c1 ++ (c ++ c2)).length = (PT.st ts).size := rep_length (.st ts) m x _ _ hr
            simp only [List.length_append] at this
            omega
          have hob : ∃ o', w'.heap[b0]? = some o' := by
            by_cases hbb : b = b0
            · subst hbb; exact ⟨_, w2⟩
            · exact ⟨_, (w5 b0 (fun e => hbb e.symm)).trans g1⟩
          obtain ⟨o', ho'⟩ := hob
          unfold rdCells
          rw [ho']
          cases o' <;> simp
          rw [List.drop_take, List.drop_drop, List.take_take]
          congr 1
          · omega
        rw [hsub]
        exact ih
      · rename_i hij
        have hne : i ≠ j := fun e => hij (by rw [e]; exact Nat.beq_refl j)
        -- the two fields apart
        have key : ∃ oi oj ci cj Ai Aj, oi = PT.sizeL (ts.take i) ∧ oj = PT.sizeL (ts.take j) ∧ ts[i]? = some ui.t ∧ ts[j]? = some uj.t ∧ (cs.drop oi).take ui.t.size = ci ∧ (cs.drop oj).take uj.t.size = cj ∧ Rep w F ui.t ui.m ui.x ci Ai ∧ Rep w F uj.t uj.m uj.x cj Aj ∧
            (oi + ui.t.size ≤ oj ∨ oj + uj.t.size ≤ oi) ∧ oi + ui.t.size ≤ PT.sizeL ts ∧ oj + uj.t.size ≤ PT.sizeL ts ∧ Ai.Nodup ∧ Aj.Nodup ∧ (∀ c ∈ Ai, c ∈ A) ∧ (∀ c ∈ Aj, c ∈ A) ∧ ∀ c ∈ Ai, c ∉ Aj := by
          have hlen : cs.length = PT.sizeL ts := rep_length (.st ts) m x _ _ hr
          rcases Nat.lt_or_gt_of_ne hne with hlt | hlt
          · obtain ⟨c0, ci, c1, cj, c2, A0, Ai, A1, Aj, A2, hc, hA, e1, e2, e3, e4, e5, e6⟩ := fld_two ts m 0 x cs A i j ui uj hlt hrs hui huj
            have l1 := rep_length _ _ _ _ _ e5
            have l2 := rep_length _ _ _ _ _ e6
            rw [hc] at hlen
            simp only [List.length_append] at hlen
            rw [hA] at hnd
            simp only [List.nodup_append, List.mem_append] at hnd
            refine ⟨_, _, ci, cj, Ai, Aj, rfl, rfl, e3, e4, ?_, ?_, e5, e6, .inl (by omega), by omega, by omega, hnd.2.1.1, hnd.2.1.2.1.2.1.1, fun c hc => by simp [hA, hc], fun c hc => by simp [hA, hc], fun c h1 h2 => hnd.2.1.2.2 c h1 c (.inr (.inl h2)) rfl⟩
            · rw [hc, ← e1, List.drop_left, ← l1, List.take_left]
            · rw [hc, ← e2, show c0 ++ (ci ++ (c1 ++ (cj ++ c2))) = (c0 ++ (ci ++ c1)) ++ (cj ++ c2) by simp, show c0.length + (ci.length + c1.length) = (c0 ++ (ci ++ c1)).length by simp, List.drop_left, ← l2, List.take_left]
          · obtain ⟨c0, cj, c1, ci, c2, A0, Aj, A1, Ai, A2, hc, hA, e1, e2, e3, e4, e5, e6⟩ := fld_two ts m 0 x cs A j i uj ui hlt hrs huj hui
            have l1 := rep_length _ _ _ _ _ e5
            have l2 := rep_length _ _ _ _ _ e6
            rw [hc] at hlen
            simp only [List.length_append] at hlen
            rw [hA] at hnd
            simp only [List.nodup_append, List.mem_append] at hnd
            refine ⟨_, _, ci, cj, Ai, Aj, rfl, rfl, e4, e3, ?_, ?_, e6, e5, .inr (by omega), by omega, by omega, hnd.2.1.2.1.2.1.1, hnd.2.1.1, fun c hc => by simp [hA, hc], fun c hc => by simp [hA, hc], fun c h1 h2 => hnd.2.1.2.2 c h2 c (.inr (.inl h1)) rfl⟩
            · rw [hc, ← e2, show c0 ++ (cj ++ (c1 ++ (ci ++ c2))) = (c0 ++ (cj ++ c1)) ++ (ci ++ c2) by simp, show c0.length + (cj.length + c1.length) = (c0 ++ (cj ++ c1)).length by simp, List.drop_left, ← l2, List.take_left]
            · rw [hc, ← e1, List.drop_left, ← l1, List.take_left]
        obtain ⟨oi, oj, ci, cj, Ai, Aj, rfl, rfl, hti, htj, hci, hcj, hri, hrj, hdis, hli, hlj, hni, hnj, hAi, hAj, hAij⟩ := key
        simp only [loc, hti, Option.map_some, hci] at lp
        simp only [loc, htj, Option.map_some, hcj] at lq
        have hlaidj : Laid w uj.t.size (some (b0, o0 + PT.sizeL (ts.take j))) cj Aj := by
          intro bb oo hbo
          simp only [Option.some.injEq, Prod.mk.injEq] at hbo
          obtain ⟨rfl, rfl⟩ := hbo
          refine ⟨fun hm => hb0 (hAj _ hm), cc, e, fr, g1, g2, by omega, ?_⟩
          rw [← hcj, g4, List.drop_take, List.drop_drop, List.take_take]
          congr 1
          omega
        obtain ⟨Actx, A2, hperm, _, _, hrest⟩ := path_law w F q uj.t uj.m uj.x cj (some (b0, o0 + PT.sizeL (ts.take j))) Aj vq (some (b, off)) csq hrj hnj hlaidj hgj lq
        obtain ⟨hwh, _⟩ := hrest b off rfl
        have hcases : (b ∈ Aj) ∨ (b = b0 ∧ o0 + PT.sizeL (ts.take j) ≤ off ∧ off + ds.length ≤ o0 + PT.sizeL (ts.take j) + uj.t.size) := by
          rcases hwh with hwh | ⟨o, ho, h1, h2⟩
          · exact .inl (hperm.mem_iff.2 (by simp [hwh]))
          · simp only [Option.some.injEq, Prod.mk.injEq] at ho
            obtain ⟨rfl, rfl⟩ := ho
            exact .inr ⟨rfl, h1, by rw [hds]; exact h2⟩
        have hbA : ∀ c ∈ Ai, c ≠ b := by
          rintro c hc rfl
          rcases hcases with h | ⟨rfl, _⟩
          · exact hAij c hc h
          · exact hb0 (hAi c hc)
        simp only [loc, hti, Option.map_some]
        rw [hrd' _ _ hli (by
          rcases hcases with h | ⟨rfl, h1, h2⟩
          · left
            rintro rfl
            exact hb0 (hAj _ h)
          · right
            rcases hdis with hd | hd
            · exact .inr (by omega)
            · exact .inl (by omega)), hcs, hci, loc_frame p ui.t ui.m ui.x ci _ Ai v hri (fun c hc => w5 c (hbA c hc)) hgi]
        exact lp

/-- What a rooted slot's list lies in. -/
def Holds (w w' : World) (v : TV) (cs' : List Value) : Prop :=
  ∀ (te : PT) (me : Md) (xs : List te.den) (a : Option Addr) (cap : Nat), v = TV.mk (.list te) (.l me) xs → cs' = [.slice a (List.length xs) cap] → (0 < cap ∨ 0 < List.length xs) → ∃ b off, a = some ⟨b, off, none⟩ ∧ w'.heap[b]? = w.heap[b]?

theorem repCaps_mono {w w' : World} {F : Nat → Prop} {look look' : Nat → Slot} {vs vs' : Nat → Value} (hF : ∀ b, F b → w'.heap[b]? = w.heap[b]?) :
    ∀ (cs : List Cap) (us : List Value), (∀ k ∈ capDeps cs, (∀ p v cur cs', Rooted w look vs k p v cur cs' → Rooted w' look' vs' k p v cur cs') ∧ (∀ p b off, RootedF w look vs k p b off → RootedF w' look' vs' k p b off)) →
    RepCaps w F look vs cs us → RepCaps w' F look' vs' cs us
  | [], us, hR, h => h
  | .r k p :: cs, us, hR, h => by
    obtain ⟨b, off, us', h1, h2, h3⟩ := h
    obtain ⟨r1, r2⟩ := hR k (by simp [capDeps])
    refine ⟨b, off, us', h1, h2.imp (r2 p b off) ?_, repCaps_mono hF cs us' (fun q hq => hR q (by simp [capDeps, hq])) h3⟩
    rintro ⟨v, cs', h⟩
    exact ⟨v, cs', r1 p v _ cs' h⟩
  | .v t m x :: cs, us, hR, h => by
    obtain ⟨b, off, c, e, fr, us', h1, h2, h3, h4, h5, h6⟩ := h
    exact ⟨b, off, c, e, fr, us', h1, h2, (hF b h2).trans h3, h4, rep_frame (fun b hb => hb) hF t m x _ [] (fun b hb => absurd hb (by simp)) h5, repCaps_mono hF cs us' (fun q hq => hR q (by simpa [capDeps] using hq)) h6⟩

theorem repSlot_mono {w w' : World} {F : Nat → Prop} {look look' : Nat → Slot} {vs vs' : Nat → Value} (hF : ∀ b, F b → w'.heap[b]? = w.heap[b]?) :
    ∀ (s : Slot) (u : Value) (A : List Nat), (∀ b ∈ A, w'.heap[b]? = w.heap[b]?) →
    (∀ k ∈ s.deps, vs' k = vs k ∧ (∀ p v cur cs', Rooted w look vs k p v cur cs' → Rooted w' look' vs' k p v cur cs' ∧ Holds w w' v cs') ∧ (∀ p b off, RootedF w look vs k p b off → RootedF w' look' vs' k p b off)) →
    RepSlot w F look vs s u A → RepSlot w' F look' vs' s u A
  | .dead, u, A, hA, hR, h => h
  | .val t m x, u, A, hA, hR, h => by
    obtain ⟨cs, h1, h2⟩ := h
    exact ⟨cs, rep_frame (fun b hb => hb) hF t m x cs A hA h1, h2⟩
  | .pv t x, u, A, hA, hR, h => by
    obtain ⟨h1, b, off, c, e, fr, h2, h3, h4, h5, h6⟩ := h
    exact ⟨h1, b, off, c, e, fr, h2, h3, (hF b h3).trans h4, h5, rep_frame (fun b hb => hb) hF t .n x _ [] (fun b hb => absurd hb (by simp)) h6⟩
  | .ref k p, u, A, hA, hR, h => by
    obtain ⟨h1, b, off, h2, h3⟩ := h
    refine ⟨h1, b, off, h2, h3.imp ((hR k (by simp [Slot.deps])).2.2 p b off) ?_⟩
    rintro ⟨v, cs', h⟩
    exact ⟨v, cs', ((hR k (by simp [Slot.deps])).2.1 p v _ cs' h).1⟩
  | .bor k p, u, A, hA, hR, h => by
    obtain ⟨h1, v, cur, cs', h2, h3⟩ := h
    exact ⟨h1, v, cur, cs', ((hR k (by simp [Slot.deps])).2.1 p v _ cs' h2).1, h3⟩
  | .win k p lo hi, u, A, hA, hR, h => by
    obtain ⟨h1, te, me, xs, cur, a, cap, h2, h3⟩ := h
    exact ⟨h1, te, me, xs, cur, a, cap, ((hR k (by simp [Slot.deps])).2.1 p _ _ _ h2).1, h3⟩
  | .app k p te ys, u, A, hA, hR, h => by
    obtain ⟨me, xs, cur, a, cap, h2, h3, h4⟩ := h
    obtain ⟨h2', hh⟩ := (hR k (by simp [Slot.deps])).2.1 p _ _ _ h2
    have hh := hh te me xs a cap rfl rfl
    refine ⟨me, xs, cur, a, cap, h2', h3, ?_⟩
    rcases h4 with h4 | ⟨b, off, c, e, fr, g0, g1, g2, g3, g4, g5⟩ | ⟨b, c, e, fr, A2, cap2, c1, c2, g1, rfl, g3, g4, g5, g6, g7, g8, g9⟩
    · exact .inl h4
    · refine .inr (.inl ⟨b, off, c, e, fr, g0, g1, ?_, g3, g4, repL_mono _ _ _ (fun x c A' hb hr => rep_frame (fun b hb => hb) hF te _ x c A' (fun b hb' => hA b (hb b hb')) hr) g5⟩)
      have hlen : 0 < ys.length := List.length_pos_iff.2 g0
      obtain ⟨b', off', e1, e2⟩ := hh (.inl (by omega))
      rw [g1] at e1
      simp only [Option.some.injEq, Addr.mk.injEq, and_true] at e1
      obtain ⟨rfl, rfl⟩ := e1
      exact e2.trans g2
    · refine .inr (.inr ⟨b, c, e, fr, A2, cap2, c1, c2, g1, rfl, (hA b (by simp)).trans g3, g4, g5, g6, g7, ?_, repL_mono _ _ _ (fun x c A' hb hr => rep_frame (fun b hb => hb) hF te _ x c A' (fun b hb' => hA b (by simp [hb b hb'])) hr) g9⟩)
      rcases g8 with g8 | ⟨b0, o0, k0, k1, k2⟩
      · exact .inl g8
      · refine .inr ⟨b0, o0, k0, k1, ?_⟩
        obtain ⟨b', off', e1, e2⟩ := hh (.inr (List.length_pos_iff.2 k0))
        rw [k1] at e1
        simp only [Option.some.injEq, Addr.mk.injEq, and_true] at e1
        obtain ⟨rfl, rfl⟩ := e1
        rw [k2]
        simp only [rdCells, e2]
  | .tup ts, u, A, hA, hR, h => by
    obtain ⟨us, h1, h2⟩ := h
    refine ⟨us, h1, repL_mono _ _ _ (fun o cs A' hb hr => ?_) h2⟩
    cases o with
    | none => exact hr
    | some v =>
      obtain ⟨h3, cs', h4, h5⟩ := hr
      exact ⟨h3, cs', rep_frame (fun b hb => hb) hF _ _ _ cs' A' (fun b hb' => hA b (hb b hb')) h4, h5⟩
  | .clo f cs, u, A, hA, hR, h => by
    obtain ⟨h1, us, h2, h3⟩ := h
    exact ⟨h1, us, h2, repCaps_mono hF cs _ (fun k hk => ⟨fun p v cur cs' hr => ((hR k (by simpa [Slot.deps] using hk)).2.1 p v cur cs' hr).1, (hR k (by simpa [Slot.deps] using hk)).2.2⟩) h3⟩
  | .mp kt vt m, u, A, hA, hR, h => by
    obtain ⟨r, es, clk, h1, rfl, h3, h4⟩ := h
    exact ⟨r, es, clk, h1, rfl, (hA r (by simp)).trans h3, h4⟩
  | .mal k, u, A, hA, hR, h => ⟨h.1, h.2.trans (hR k (by simp [Slot.deps])).1.symm⟩
  | .pm t m x, u, A, hA, hR, h => by
    obtain ⟨h1, b, off, c, e, fr, h2, h3, h4, h5, h6⟩ := h
    exact ⟨h1, b, off, c, e, fr, h2, h3, (hF b h3).trans h4, h5, rep_frame (fun b hb => hb) hF t m x _ [] (fun b hb => absurd hb (by simp)) h6⟩
  | .cnd gl s, u, A, hA, hR, h => by
    simp only [RepSlot] at h ⊢
    have hg : holdsG vs' gl ↔ holdsG vs gl := by
      refine forall_congr' fun g => ?_
      constructor
      · intro hh hm; rw [← (hR g.1 (by simp only [Slot.deps, List.mem_append]; exact .inl (List.mem_map_of_mem hm))).1]; exact hh hm
      · intro hh hm; rw [(hR g.1 (by simp only [Slot.deps, List.mem_append]; exact .inl (List.mem_map_of_mem hm))).1]; exact hh hm
    rw [hg]
    exact ⟨fun hc => repSlot_mono hF s u A hA (fun k hk => hR k (by simp only [Slot.deps, List.mem_append]; exact .inr hk)) (h.1 hc), h.2⟩

theorem laid_none (w : World) (n : Nat) (cs : List Value) (A : List Nat) : Laid w n none cs A := fun _ _ h => by cases h

theorem rooted_rep {w : World} {F : Nat → Prop} {look : Nat → Slot} {vs : Nat → Value} {k : Nat} {A : List Nat} (h : RepSlot w F look vs (look k) (vs k) A) {p : List Stp} {v : TV} {cur : Option (Nat × Nat)} {cs' : List Value}
    (hr : Rooted w look vs k p v cur cs') : ∃ t m x cs, look k = .val t m x ∧ vs k = wrapV t cs ∧ Rep w F t m x cs A ∧ getP real0 t m x p = some v ∧ loc w t none cs p = some (cur, cs') := by
  obtain ⟨t, m, x, cs, h1, h2, h3, h4, h5, h6⟩ := hr
  rw [h1] at h
  obtain ⟨cs0, h7, h8⟩ := h
  obtain rfl := wrapV_inj (rep_length _ _ _ _ _ h7) h4 (h8.symm.trans h3)
  exact ⟨t, m, x, cs0, h1, h3, h7, h5, h6⟩

theorem rooted_keep {w w' : World} {F : Nat → Prop} {look look' : Nat → Slot} {vs vs' : Nat → Value} {k : Nat} {A : List Nat} (hnd : A.Nodup) (h : RepSlot w F look vs (look k) (vs k) A) (hA : ∀ b ∈ A, w'.heap[b]? = w.heap[b]?)
    (hl : ∀ t m x, look k = .val t m x → look' k = look k) (hv : vs' k = vs k) {p : List Stp} {v : TV} {cur : Option (Nat × Nat)} {cs' : List Value} (hr : Rooted w look vs k p v cur cs') : Rooted w' look' vs' k p v cur cs' ∧ Holds w w' v cs' := by
  have hr0 := hr
  obtain ⟨t, m, x, cs, h1, h2, h3, h4, h5⟩ := rooted_rep h hr
  obtain ⟨_, _, _, _, e1, ho, _⟩ := hr0
  rw [h1] at e1
  simp only [Slot.val.injEq] at e1
  obtain ⟨rfl, rfl, _⟩ := e1
  refine ⟨⟨t, m, x, cs, (hl t m x h1).trans h1, ho, hv.trans h2, rep_length _ _ _ _ _ h3, h4, ?_⟩, ?_⟩
  · rw [loc_frame p t m x cs none A v h3 hA h4, h5]
  · intro te me xs a cap e2 e3 hc
    obtain ⟨Actx, A', hp, hrep, _⟩ := path_law w F p t m x cs none A v cur cs' h3 hnd (laid_none _ _ _ _) h4 h5
    subst e2 e3
    simp only [Rep] at hrep
    obtain ⟨_, a', cap', e4, h6⟩ := hrep
    simp only [List.cons.injEq, Value.slice.injEq, and_true] at e4
    obtain ⟨rfl, _, rfl⟩ := e4
    rcases h6 with ⟨rfl, rfl, _⟩ | ⟨b, off, c, e, fr, A2, rfl, rfl, h7, _⟩
    · simp at hc
    · exact ⟨b, off, rfl, hA b (hp.mem_iff.2 (by simp))⟩

theorem rootedF_keep {w w' : World} {look look' : Nat → Slot} {vs vs' : Nat → Value} {k : Nat} (hl : ∀ t m x, look k = .val t m x → ∃ m' x', look' k = .val t m' x' ∧ (∀ m1, m = .b m1 → ∃ m1', m' = .b m1')) (hv : vs' k = vs k) {p : List Stp} {b off : Nat} (hr : RootedF w look vs k p b off) : RootedF w' look' vs' k p b off := by
  obtain ⟨t, m, x, p', cs', h1, rfl, h2, h3, h4⟩ := hr
  obtain ⟨m', x', h5, h6⟩ := hl _ _ _ h1
  obtain ⟨m1, rfl⟩ := h6 m rfl
  simp only [loc] at h4
  obtain ⟨ds', h7⟩ := loc_flat (w' := w') p' t _ (rdCells w' b 0 t.size) _ _ _ h2 h4
  exact ⟨t, m1, x', p', ds', h5, rfl, h2, hv.trans h3, by simpa [loc] using h7⟩

theorem put_get {a : Act} {d : Nat} {v : Value} (k : Nat) : (a.put (some d) v).tmps.getD k undef = if k = d ∧ d < a.tmps.size then v else a.tmps.getD k undef := by
  simp only [Act.put]
  by_cases hk : k = d
  · subst hk
    by_cases hd : k < a.tmps.size
    · simp [hd]
    · simp [hd]
  · rw [if_neg (by simp [hk])]
    have hne : d ≠ k := fun e => hk e.symm
    simp [Array.getElem?_setIfInBounds_ne hne]

theorem killS_cases (d : Nat) (s : Slot) : (killS d s = s ∧ d ∉ s.deps) ∨ (killS d s = .dead ∧ d ∈ s.deps) := by
  unfold killS
  split
  · rename_i h; exact .inr ⟨rfl, by simpa using h⟩
  · rename_i h; exact .inl ⟨rfl, by simpa using h⟩

/-- What a slot holds behind a write to slot d. -/
theorem setS_get (σ : List Slot) (d : Nat) (s : Slot) (k : Nat) (hd : d < σ.length) : (setS σ d s).getD k .dead = if k = d then killS d s else killS d (σ.getD k .dead) := by
  have hmap : ∀ k, (σ.map (killS d)).getD k .dead = killS d (σ.getD k .dead) := by
    intro k
    simp only [List.getD_eq_getElem?_getD, List.getElem?_map]
    cases σ[k]? <;> rfl
  unfold setS
  by_cases hk : k = d
  · subst hk
    rw [if_pos rfl]
    simp [List.getD_eq_getElem?_getD, List.getElem?_set, hd]
  · rw [if_neg hk, ← hmap]
    have : ¬ d = k := fun e => hk e.symm
    simp [List.getD_eq_getElem?_getD, List.getElem?_set, this]

theorem setS_length (σ : List Slot) (d : Nat) (s : Slot) : (setS σ d s).length = σ.length := by
  simp [setS]

/-- **A SLOT WRITTEN**, the world the same or grown. -/
theorem set_state {E : Env} {σ : List Slot} {a : Act} {w w' : World} {fl : List Nat} (h : RepSt E σ a w fl) (hw : ∀ b, b < w.heap.size → w'.heap[b]? = w.heap[b]?) (hb : Kept E.F E.w0 w') (hsz : w.heap.size ≤ w'.heap.size)
    {d : Nat} (hd : d < σ.length) {s : Slot} {v : Value} {A : List Nat} (hnd : A.Nodup) (hA : ∀ b ∈ A, (w.heap.size ≤ b ∧ b < w'.heap.size) ∨ b ∈ fl) 
    (hs : RepSlot w' E.F (fun k => σ.getD k .dead) (fun k => a.tmps.getD k undef) s v A) :
    ∃ Ad, Ad.Nodup ∧ (∀ b ∈ Ad, b ∉ fl ∧ b < w.heap.size) ∧ RepSlot w E.F (fun k => σ.getD k .dead) (fun k => a.tmps.getD k undef) (σ.getD d .dead) (a.tmps.getD d undef) Ad ∧
      ∀ fl' : List Nat, fl'.Nodup → (∀ b ∈ fl', (b ∈ fl ∨ (w.heap.size ≤ b ∧ b < w'.heap.size) ∨ b ∈ Ad) ∧ b ∉ A) → RepSt E (setS σ d s) (a.put (some d) v) w' fl' := by
  obtain ⟨h1, h2, h3, ow, how, hflN, hflo, hsl⟩ := h
  have hd' : d < a.tmps.size := h2 ▸ hd
  obtain ⟨Ad, hAd1, hAd2, hAd3⟩ := hsl d
  refine ⟨Ad, hAd1, fun b hb => ⟨fun hm => (by have h8 := hAd2 b hb; rw [(hflo b hm).1] at h8; cases h8), (how b d (hAd2 b hb)).2⟩, hAd3, fun fl' hfl' hfl => ?_⟩
  have hF : ∀ b, E.F b → w'.heap[b]? = w.heap[b]? := fun b hb => hw b (Nat.lt_of_lt_of_le (E.hF _ hb) h3.size)
  have hlook : ∀ k, k ≠ d → ∀ t m x, σ.getD k .dead = .val t m x → (setS σ d s).getD k .dead = σ.getD k .dead := by
    intro k hk t m x e
    rw [setS_get σ d s k hd, if_neg hk, e]
    rfl
  have hval : ∀ k, k ≠ d → (a.put (some d) v).tmps.getD k undef = a.tmps.getD k undef := fun k hk => by rw [put_get, if_neg (by simp [hk])]
  -- what is rooted elsewhere than at d is rooted there still
  have hkeep : ∀ (s' : Slot) (u : Value) (B : List Nat) (wx : World), (∀ b, b < w.heap.size → wx.heap[b]? = w'.heap[b]?) → True := fun _ _ _ _ _ => trivial
  have hroot : ∀ k, k ≠ d → (∀ p v' cur cs', Rooted w (fun k => σ.getD k .dead) (fun k => a.tmps.getD k undef) k p v' cur cs' → Rooted w' (fun k => (setS σ d s).getD k .dead) (fun k => (a.put (some d) v).tmps.getD k undef) k p v' cur cs' ∧ Holds w w' v' cs') ∧
      (∀ p b off, RootedF w (fun k => σ.getD k .dead) (fun k => a.tmps.getD k undef) k p b off → RootedF w' (fun k => (setS σ d s).getD k .dead) (fun k => (a.put (some d) v).tmps.getD k undef) k p b off) := by
    intro k hk
    obtain ⟨B, hB1, hB2, hB3⟩ := hsl k
    refine ⟨fun p v' cur cs' hr => rooted_keep hB1 hB3 (fun b hb => hw b (how b k (hB2 b hb)).2) (fun t m x e => hlook k hk t m x e) (hval k hk) hr, fun p b off hr => rootedF_keep (fun t m x e => ⟨m, x, (hlook k hk t m x e).trans e, fun m1 e => ⟨m1, e⟩⟩) (hval k hk) hr⟩
  refine ⟨by simpa [Act.put] using h1, by rw [setS_length, h2]; simp [Act.put], hb, fun b => if b ∈ A then some d else if ow b = some d then none else ow b, fun b k hk => ?_, hfl', fun b hb => ?_, fun k => ?_⟩
  · dsimp only at hk
    split at hk
    · rename_i hm
      rcases hA b hm with h | h
      · exact ⟨fun hc => Nat.lt_irrefl b (Nat.lt_of_lt_of_le (E.hF b hc) (Nat.le_trans h3.size h.1)), h.2⟩
      · have := hflo b h; exact ⟨this.2.1, by omega⟩
    · split at hk
      · cases hk
      · have := how b k hk
        exact ⟨this.1, by omega⟩
  · obtain ⟨h5, h6⟩ := hfl b hb
    rcases h5 with h5 | h5 | h5
    · obtain ⟨g1, g2, g3⟩ := hflo b h5
      exact ⟨by dsimp only; rw [if_neg h6, g1]; simp, g2, by omega⟩
    · refine ⟨?_, fun hc => Nat.lt_irrefl b (Nat.lt_of_lt_of_le (E.hF b hc) (Nat.le_trans h3.size h5.1)), h5.2⟩
      dsimp only
      rw [if_neg h6]
      cases ho : ow b with
      | none => simp
      | some k' => have := (how b k' ho).2; omega
    · have h8 := hAd2 b h5
      have h9 := how b d h8
      exact ⟨by dsimp only; rw [if_neg h6, h8]; simp, h9.1, by omega⟩
  · by_cases hk : k = d
    · subst hk
      rcases killS_cases k s with ⟨e, hne⟩ | ⟨e, _⟩
      · refine ⟨A, hnd, fun b hb => by simp [hb], ?_⟩
        rw [setS_get σ k s k hd, if_pos rfl, e, put_get, if_pos ⟨rfl, hd'⟩]
        -- s in the new state
        refine repSlot_mono (w := w') (fun b _ => rfl) s v A (fun b _ => rfl) (fun r hr => ?_) hs
        have hrk : r ≠ k := fun e => hne (e ▸ hr)
        refine ⟨hval r hrk, ?_⟩
        obtain ⟨B, hB1, hB2, hB3⟩ := hsl r
        have hB3' : RepSlot w' E.F (fun k => σ.getD k .dead) (fun k => a.tmps.getD k undef) (σ.getD r .dead) (a.tmps.getD r undef) B := by
          cases hrs : σ.getD r .dead with
          | val t m x =>
            rw [hrs] at hB3
            obtain ⟨cs, g1, g2⟩ := hB3
            exact ⟨cs, rep_frame (fun b hb => hb) hF t m x cs B (fun b hb => hw b (how b r (hB2 b hb)).2) g1, g2⟩
          | dead => rw [hrs] at hB3; exact hB3
          | _ =>
            rw [hrs] at hB3
            exact repSlot_mono (look := fun k => σ.getD k .dead) (vs := fun k => a.tmps.getD k undef) hF _ _ B (fun b hb => hw b (how b r (hB2 b hb)).2) (fun q hq => by
              obtain ⟨C, hC1, hC2, hC3⟩ := hsl q
              exact ⟨rfl, fun p v' cur cs' hr' => rooted_keep hC1 hC3 (fun b hb => hw b (how b q (hC2 b hb)).2) (fun _ _ _ _ => rfl) rfl hr', fun p b off hr' => rootedF_keep (fun t m x e => ⟨m, x, e, fun m1 e => ⟨m1, e⟩⟩) rfl hr'⟩) hB3
        exact ⟨fun p v' cur cs' hr' => rooted_keep hB1 hB3' (fun b _ => rfl) (fun t m x e => hlook r hrk t m x e) (hval r hrk) hr', fun p b off hr' => rootedF_keep (fun t m x e => ⟨m, x, (hlook r hrk t m x e).trans e, fun m1 e => ⟨m1, e⟩⟩) (hval r hrk) hr'⟩
      · refine ⟨[], List.nodup_nil, fun b hb => by simp at hb, ?_⟩
        rw [setS_get σ k s k hd, if_pos rfl, e]
        rfl
    · obtain ⟨B, hB1, hB2, hB3⟩ := hsl k
      rw [setS_get σ d s k hd, if_neg hk, hval k hk]
      -- a slot that hung on d is dead
      have hB2' : ∀ b ∈ B, (if b ∈ A then some d else if ow b = some d then none else ow b) = some k := by
        intro b hb
        have h5 := hB2 b hb
        have h6 := how b k h5
        rw [if_neg (fun hm => by
          rcases hA b hm with h7 | h7
          · omega
          · rw [(hflo b h7).1] at h5; cases h5), h5, if_neg (by simpa using hk)]
      rcases killS_cases d (σ.getD k .dead) with ⟨e, hne⟩ | ⟨e, _⟩
      · refine ⟨B, hB1, hB2', ?_⟩
        rw [e]
        refine repSlot_mono hF _ _ B (fun b hb => hw b (how b k (hB2 b hb)).2) (fun r hrr => ?_) hB3
        have hrd : r ≠ d := fun e => hne (e ▸ hrr)
        exact ⟨hval r hrd, hroot r hrd⟩
      · exact ⟨[], List.nodup_nil, fun b hb => by simp at hb, by rw [e]; rfl⟩

theorem put_same (a : Act) (k : Nat) : a.put (some k) (a.tmps.getD k undef) = a := by
  simp only [Act.put]
  congr
  apply Array.ext_getElem?
  intro i
  by_cases hi : i = k
  · subst hi
    by_cases h : i < a.tmps.size
    · simp [h]
    · simp [h]
  · have : k ≠ i := fun e => hi e.symm
    simp [Array.getElem?_setIfInBounds_ne this]

/-- What a slot owned is let go: it hangs on no slot now. -/
theorem free_state {E : Env} {σ : List Slot} {a : Act} {w : World} {fl : List Nat} (h : RepSt E σ a w fl) {d : Nat} (hd : d < σ.length) :
    ∃ Ad, RepSlot w E.F (fun k => σ.getD k .dead) (fun k => a.tmps.getD k undef) (σ.getD d .dead) (a.tmps.getD d undef) Ad ∧ (Ad ++ fl).Nodup ∧ (∀ b ∈ Ad, b ∉ fl ∧ b < w.heap.size) ∧ RepSt E (setS σ d .dead) a w (Ad ++ fl) := by
  obtain ⟨Ad, h1, h2, h3, h4⟩ := set_state h (fun b _ => rfl) h.below (Nat.le_refl _) hd (s := .dead) (v := a.tmps.getD d undef) (A := []) List.nodup_nil (fun b hb => by simp at hb) rfl
  have hn : (Ad ++ fl).Nodup := by
    rw [List.nodup_append]
    obtain ⟨_, _, _, _, _, hflN, _⟩ := h
    exact ⟨h1, hflN, fun x hx y hy e => (h2 x hx).1 (e ▸ hy)⟩
  refine ⟨Ad, h3, hn, h2, ?_⟩
  have := h4 (Ad ++ fl) hn (fun b hb => ⟨by rcases List.mem_append.1 hb with h | h <;> simp [h], by simp⟩)
  rwa [put_same] at this

/-- The world grown, no slot written. -/
theorem grow_state {E : Env} {σ : List Slot} {a : Act} {w w' : World} {fl : List Nat} (h : RepSt E σ a w fl) (hw : ∀ b, b < w.heap.size → w'.heap[b]? = w.heap[b]?) (hb : Kept E.F E.w0 w') (hsz : w.heap.size ≤ w'.heap.size) :
    RepSt E σ a w' fl := by
  obtain ⟨h1, h2, h3, ow, how, hflN, hflo, hsl⟩ := h
  refine ⟨h1, h2, hb, ow, fun b k hk => ⟨(how b k hk).1, by have := (how b k hk).2; omega⟩, hflN, fun b hb => ⟨(hflo b hb).1, (hflo b hb).2.1, by have := (hflo b hb).2.2; omega⟩, fun k => ?_⟩
  obtain ⟨B, hB1, hB2, hB3⟩ := hsl k
  refine ⟨B, hB1, hB2, repSlot_mono (fun b hb => hw b (Nat.lt_of_lt_of_le (E.hF _ hb) h3.size)) _ _ B (fun b hb => hw b (how b k (hB2 b hb)).2) (fun r hr => ?_) hB3⟩
  obtain ⟨C, hC1, hC2, hC3⟩ := hsl r
  exact ⟨rfl, fun p v' cur cs' hr' => rooted_keep hC1 hC3 (fun b hb => hw b (how b r (hC2 b hb)).2) (fun _ _ _ _ => rfl) rfl hr', fun p b off hr' => rootedF_keep (fun t m x e => ⟨m, x, e, fun m1 e => ⟨m1, e⟩⟩) rfl hr'⟩

/-- Behind a store into slot k's own memory, at q: a pointer to a place in its own block stays, and what hangs on a part elsewhere; what else hung on it is forgotten. -/
def killV (k : Nat) (q : List Stp) (s : Slot) : Slot := match s with
  | .ref _ (.d :: p) => if flatP p then s else if disjP (.d :: p) q then s else killS k s
  | .bor _ p => if disjP p q then s else killS k s
  | .win _ p _ _ => if disjP p q then s else killS k s
  | _ => killS k s

def setV (σ : List Slot) (k : Nat) (q : List Stp) (s : Slot) : List Slot := (σ.map (killV k q)).set k s

/-- It hangs on the part at p alone. -/
def Slot.atP (k : Nat) (p : List Stp) (s : Slot) : Prop := s = .ref k p ∨ s = .bor k p ∨ ∃ lo hi, s = .win k p lo hi

theorem killV_cases (k : Nat) (q : List Stp) (s : Slot) : killV k q s = .dead ∨ (killV k q s = s ∧ (k ∉ s.deps ∨ (∃ p, s = .ref k (.d :: p) ∧ flatP p = true) ∨ ∃ p, s.atP k p ∧ disjP p q = true)) := by
  have hk : killS k s = .dead ∨ (killS k s = s ∧ (k ∉ s.deps ∨ (∃ p, s = .ref k (.d :: p) ∧ flatP p = true) ∨ ∃ p, s.atP k p ∧ disjP p q = true)) := by
    rcases killS_cases k s with ⟨e, h⟩ | ⟨e, _⟩
    · exact .inr ⟨e, .inl h⟩
    · exact .inl e
  unfold killV
  split
  · rename_i q' p
    split
    · rename_i hf
      by_cases hq : k = q'
      · subst hq
        exact .inr ⟨rfl, .inr (.inl ⟨p, rfl, hf⟩)⟩
      · exact .inr ⟨rfl, .inl (by simpa [Slot.deps] using hq)⟩
    · split
      · rename_i hd
        by_cases hq : k = q'
        · subst hq
          exact .inr ⟨rfl, .inr (.inr ⟨_, .inl rfl, hd⟩)⟩
        · exact .inr ⟨rfl, .inl (by simpa [Slot.deps] using hq)⟩
      · exact hk
  · rename_i q' p
    split
    · rename_i hd
      by_cases hq : k = q'
      · subst hq
        exact .inr ⟨rfl, .inr (.inr ⟨_, .inr (.inl rfl), hd⟩)⟩
      · exact .inr ⟨rfl, .inl (by simpa [Slot.deps] using hq)⟩
    · exact hk
  · rename_i q' p lo hi
    split
    · rename_i hd
      by_cases hq : k = q'
      · subst hq
        exact .inr ⟨rfl, .inr (.inr ⟨_, .inr (.inr ⟨lo, hi, rfl⟩), hd⟩)⟩
      · exact .inr ⟨rfl, .inl (by simpa [Slot.deps] using hq)⟩
    · exact hk
  · exact hk

theorem setV_get (σ : List Slot) (d : Nat) (q : List Stp) (s : Slot) (k : Nat) (hd : d < σ.length) : (setV σ d q s).getD k .dead = if k = d then s else killV d q (σ.getD k .dead) := by
  have hmap : ∀ k, (σ.map (killV d q)).getD k .dead = killV d q (σ.getD k .dead) := by
    intro k
    simp only [List.getD_eq_getElem?_getD, List.getElem?_map]
    cases σ[k]? <;> rfl
  unfold setV
  by_cases hk : k = d
  · subst hk
    rw [if_pos rfl]
    simp [List.getD_eq_getElem?_getD, List.getElem?_set, hd]
  · rw [if_neg hk, ← hmap]
    have : ¬ d = k := fun e => hk e.symm
    simp [List.getD_eq_getElem?_getD, List.getElem?_set, this]

theorem rooted_flat {w : World} {look : Nat → Slot} {vs : Nat → Value} {k : Nat} {p : List Stp} {v : TV} {b off : Nat} {cs' : List Value} (hf : flatP p = true) (h : Rooted w look vs k (.d :: p) v (some (b, off)) cs') : ∃ b0, RootedF w look vs k (.d :: p) b0 off ∧ b0 = b := by
  obtain ⟨t, m, x, cs, h1, h2, h3, h4, h5, h6⟩ := h
  rcases getP_cases h5 with ⟨ts, i, e, _⟩ | ⟨n, t1, k, e, _⟩ | ⟨t1, m1, k, e, _⟩ | ⟨t1, m1, _, rfl, rfl⟩
  · cases e
  · cases e
  · cases e
  · have h7 := h6
    simp only [loc] at h7
    split at h7
    · rename_i b0
      have hb : b0 = b := by
        clear h6 h5
        have key : ∀ (p : List Stp) (t : PT) (b1 o1 : Nat) (cs : List Value), flatP p = true → loc w t (some (b1, o1)) cs p = some (some (b, off), cs') → b1 = b := by
          intro p
          induction p with
          | nil =>
            intro t b1 o1 cs _ h
            simp only [loc, Option.some.injEq, Prod.mk.injEq] at h
            exact h.1.1
          | cons s p ih =>
            intro t b1 o1 cs hf h
            cases s with
            | f i =>
              cases t <;> simp only [loc] at h <;> try (cases h; done)
              split at h
              · exact ih _ _ _ _ hf h
              · cases h
            | i k =>
              cases t <;> simp only [loc] at h <;> try (cases h; done)
              split at h
              · exact ih _ _ _ _ hf h
              · cases h
            | e k => cases hf
            | d => cases hf
        exact key p t1 b0 0 _ hf h7
      subst hb
      exact ⟨b0, ⟨t1, m1, x, p, cs', h1, rfl, hf, h3, h6⟩, rfl⟩
    · cases h7

theorem setP_box {A : Alg} {nv : TV} {s : Stp} {p : List Stp} {t : PT} {m mN : Md} {x xN : t.den} (h : setP A nv (s :: p) t (.b m) x = some (mN, xN)) : ∃ m', mN = .b m' := by
  cases t <;> cases s <;> simp only [setP] at h <;> try (cases h; done)
  split at h
  · have h := Option.some.inj h
    injection h with h1 h2
    exact ⟨_, h1.symm⟩
  · cases h

theorem disjP_out {p q : List Stp} (h : disjP p q = true) : ∃ p' q', p = .d :: p' ∧ q = .d :: q' ∧ disjF p' q' = true := by
  cases p with
  | nil => simp [disjP] at h
  | cons s p =>
    cases q with
    | nil => cases s <;> simp [disjP] at h
    | cons s' q => cases s <;> cases s' <;> simp only [disjP] at h <;> first | exact ⟨p, q, rfl, rfl, h⟩ | cases h

/-- What stands at a part elsewhere than the store stands there still. -/
theorem rooted_disj {w w' : World} {F : Nat → Prop} {look look' : Nat → Slot} {vs vs' : Nat → Value} {k : Nat} {A : List Nat} (hnd : A.Nodup) (h : RepSlot w F look vs (look k) (vs k) A) {p q : List Stp} (hd : disjP p q = true) {t : PT} {m : Md} {x : t.den} (hk : look k = .val t m x)
    {vq : TV} {b off : Nat} {csq : List Value} (hq : Rooted w look vs k q vq (some (b, off)) csq) {nv : TV} {mN : Md} {xN : t.den} (hset : setP real0 nv q t m x = some (mN, xN)) (hk' : look' k = .val t mN xN) (hv : vs' k = vs k) {ds : List Value} (hw : WriteAt w w' b off ds) (hds : ds.length = vq.t.size)
    {v : TV} {cur : Option (Nat × Nat)} {cs' : List Value} (hr : Rooted w look vs k p v cur cs') : Rooted w' look' vs' k p v cur cs' := by
  obtain ⟨p, q, rfl, rfl, hdf⟩ := disjP_out hd
  obtain ⟨t1, m1, x1, cs1, e1, e2, e3, e4, e5, e6⟩ := hr
  rw [hk] at e1
  simp only [Slot.val.injEq] at e1
  obtain ⟨rfl, rfl, e1⟩ := e1
  obtain rfl := eq_of_heq e1
  obtain ⟨t2, m2, x2, cs2, f1, _, f3, f4, f5, f6⟩ := hq
  rw [hk] at f1
  simp only [Slot.val.injEq] at f1
  obtain ⟨rfl, rfl, f1⟩ := f1
  obtain rfl := eq_of_heq f1
  obtain rfl := wrapV_inj e4 f4 (e3.symm.trans f3)
  rw [hk] at h
  obtain ⟨cs0, h7, h8⟩ := h
  obtain rfl := wrapV_inj (rep_length _ _ _ _ _ h7) e4 (h8.symm.trans e3)
  rcases getP_cases e5 with ⟨ts, i, e, _⟩ | ⟨n, t1, k, e, _⟩ | ⟨t1, m1, k, e, _⟩ | ⟨t1, m1, _, rfl, rfl⟩
  · cases e
  · cases e
  · cases e
  simp only [getP] at e5 f5
  simp only [setP] at hset
  split at hset
  case h_2 => cases hset
  rename_i m' y hh
  simp only [Option.some.injEq, Prod.mk.injEq] at hset
  obtain ⟨rfl, rfl⟩ := hset
  simp only [Rep] at h7
  obtain ⟨b1, c, e, fr, A', rfl, rfl, hb, hfree, hx⟩ := h7
  have hcl : c.toList.length = t1.size := rep_length _ _ _ _ _ hx
  have hcell : rdCells w b1 0 t1.size = c.toList := by rw [rdCells_of hb, List.drop_zero, List.take_of_length_le (by omega)]
  simp only [loc, hcell] at e6 f6
  obtain ⟨hn1, hn2⟩ := List.nodup_cons.1 hnd
  have hlaid1 : Laid w t1.size (some (b1, 0)) c.toList A' := by
    intro bb oo hbo
    simp only [Option.some.injEq, Prod.mk.injEq] at hbo
    obtain ⟨rfl, rfl⟩ := hbo
    exact ⟨hn1, c, e, fr, hb, hfree, by simp at hcl; omega, by rw [List.drop_zero, List.take_of_length_le (by omega)]⟩
  have := loc_disj hw p q t1 m1 x b1 0 c.toList A' v vq cur cs' csq hx hn2 hlaid1 hdf e5 f5 e6 f6 hds
  refine ⟨.box t1, .b m', _, [.pointer (some ⟨b1, 0, none⟩)], hk', rfl, hv.trans e3, e4, ?_, ?_⟩
  · simp only [getP]
    exact getP_disj p q _ _ _ _ _ v hdf e5 hh
  · simp only [loc]
    exact this

/-- **A STORE** into slot k's own memory, at the end of a path. -/
theorem write_state {E : Env} {σ : List Slot} {a : Act} {w w' : World} {fl : List Nat} (h : RepSt E σ a w fl) {k : Nat} (hk : k < σ.length) {p : List Stp} {v : TV} {b off : Nat} {cs' : List Value}
    (hr : Rooted w (fun k => σ.getD k .dead) (fun k => a.tmps.getD k undef) k p v (some (b, off)) cs') {t : PT} {m : Md} {x : t.den} (hkv : σ.getD k .dead = .val t m x) {nv : TV} (ht : nv.t = v.t) {mN : Md} {xN : t.den}
    (hs : setP real0 nv p t m x = some (mN, xN)) {ds : List Value} {An : List Nat} (hw : WriteAt w w' b off ds) (hrn : Rep w' E.F nv.t nv.m nv.x ds An) (hAn : An.Nodup) (hAf : ∀ b ∈ An, b ∈ fl) (hsz : w'.heap.size = w.heap.size)
    (hos : w'.os = w.os ∧ w'.tape = w.tape ∧ w'.output = w.output) {fl' : List Nat} (hfl' : fl'.Nodup) (hfl : ∀ b ∈ fl', b ∈ fl ∧ b ∉ An) : RepSt E (setV σ k p (.val t mN xN)) a w' fl' := by
  obtain ⟨h1, h2, h3, ow, how, hflN, hflo, hsl⟩ := h
  obtain ⟨Ak, hAk1, hAk2, hAk3⟩ := hsl k
  obtain ⟨t0, m0, x0, cs, e1, e2, hrep, hg, hl⟩ := rooted_rep hAk3 hr
  have e1' := e1
  rw [hkv] at e1'
  simp only [Slot.val.injEq] at e1'
  obtain ⟨rfl, rfl, hx⟩ := e1'
  obtain rfl := eq_of_heq hx
  obtain ⟨Actx, A', hp, hv', hlv, hrest⟩ := path_law w E.F p t m x cs none Ak v (some (b, off)) cs' hrep hAk1 (laid_none _ _ _ _) hg hl
  obtain ⟨hwh, hleave⟩ := hrest b off rfl
  have hbA : b ∈ Ak := by
    rcases hwh with hwh | ⟨o, ho, _⟩
    · exact hp.mem_iff.2 (by simp [hwh])
    · cases ho
  have hbB := how b k (hAk2 b hbA)
  have hF : ∀ c, E.F c → w'.heap[c]? = w.heap[c]? := fun c hc => hw.2 c (fun e => by subst e; exact absurd hc hbB.1)
  obtain ⟨csN, AN, hpN, hrN, hN1, hN2⟩ := hleave.1 w' E.F nv ds An mN xN [] ht hs hrn (fun b hb => hb) (fun hb => absurd hb hbB.1) (fun b hb => by simp at hb) hw.x
  have hN2 := hN2 rfl
  subst hN2
  have hANn : AN.Nodup := by
    rw [hpN.nodup_iff, List.nodup_append]
    have := (hp.nodup_iff.1 hAk1)
    rw [List.nodup_append] at this
    refine ⟨this.1, hAn, fun c hc d hd e => ?_⟩
    subst e
    have h8 := hAk2 c (hp.mem_iff.2 (by simp [hc]))
    rw [(hflo c (hAf c hd)).1] at h8
    cases h8
  have hANo : ∀ c ∈ AN, ow c = some k ∨ c ∈ An := by
    intro c hc
    have := hpN.mem_iff.1 hc
    rcases List.mem_append.1 this with h | h
    · exact .inl (hAk2 c (hp.mem_iff.2 (by simp [h])))
    · exact .inr h
  have hother : ∀ j, j ≠ k → ∀ c, ow c = some j → w'.heap[c]? = w.heap[c]? := fun j hj c hc => hw.2 c (fun e => by
    subst e
    rw [hAk2 c hbA] at hc
    exact hj (by simpa using hc.symm))
  have howned : m.owned = true := by
    obtain ⟨_, m', _, _, e3, e4, _⟩ := hr
    dsimp only at e3
    rw [hkv] at e3
    simp only [Slot.val.injEq] at e3
    rw [e3.2.1]; exact e4
  have hb' : Kept E.F E.w0 w' := h3.trans ⟨hos.1, hos.2.1, hos.2.2, by omega, fun i hi => hF i hi⟩
  refine ⟨h1, by simp [setV, h2], hb', fun c => if c ∈ AN then some k else if ow c = some k then none else ow c, fun c j hj => ?_, hfl', fun c hc => ?_, fun j => ?_⟩
  · dsimp only at hj
    rw [hsz]
    split at hj
    · rename_i hm
      rcases hANo c hm with h | h
      · exact how c k h
      · exact (hflo c (hAf c h)).2
    · split at hj
      · cases hj
      · exact how c j hj
  · obtain ⟨g1, g2⟩ := hfl c hc
    obtain ⟨g3, g4, g5⟩ := hflo c g1
    refine ⟨?_, g4, by omega⟩
    dsimp only
    rw [if_neg (fun hm => by
      rcases hANo c hm with h | h
      · rw [g3] at h; cases h
      · exact g2 h), g3]
    simp
  · by_cases hj : j = k
    · subst hj
      refine ⟨AN, hANn, fun c hc => by simp [hc], ?_⟩
      rw [setV_get _ _ _ _ _ hk, if_pos rfl]
      exact ⟨csN, hrN, e2⟩
    · obtain ⟨B, hB1, hB2, hB3⟩ := hsl j
      rw [setV_get _ _ _ _ _ hk, if_neg hj]
      rcases killV_cases k p (σ.getD j .dead) with e | ⟨e, hroot⟩
      · exact ⟨[], List.nodup_nil, fun b hb => by simp at hb, by rw [e]; rfl⟩
      · rw [e]
        have hlook : ∀ r, r ≠ k → ∀ t' m' x', σ.getD r .dead = .val t' m' x' → (setV σ k p (.val t mN xN)).getD r .dead = σ.getD r .dead := by
          intro r hr t' m' x' e
          rw [setV_get _ _ _ _ _ hk, if_neg hr, e]
          rfl
        refine ⟨B, hB1, fun c hc => ?_, ?_⟩
        · have h8 := hB2 c hc
          dsimp only
          rw [if_neg (fun hm => by
            rcases hANo c hm with h | h
            · rw [h8] at h; exact hj (by simpa using h)
            · rw [(hflo c (hAf c h)).1] at h8; cases h8), h8, if_neg (by simpa using hj)]
        · have hothers : ∀ r, r ≠ k → (∀ pr v' cur cs', Rooted w (fun k => σ.getD k .dead) (fun k => a.tmps.getD k undef) r pr v' cur cs' → Rooted w' (fun j => (setV σ k p (.val t mN xN)).getD j .dead) (fun k => a.tmps.getD k undef) r pr v' cur cs' ∧ Holds w w' v' cs') ∧
              (∀ pr b off, RootedF w (fun k => σ.getD k .dead) (fun k => a.tmps.getD k undef) r pr b off → RootedF w' (fun j => (setV σ k p (.val t mN xN)).getD j .dead) (fun k => a.tmps.getD k undef) r pr b off) := by
            intro r hr
            obtain ⟨C, hC1, hC2, hC3⟩ := hsl r
            exact ⟨fun p v' cur cs' hr' => rooted_keep hC1 hC3 (fun c hc => hother r hr c (hC2 c hc)) (fun t m x e => hlook r hr t m x e) rfl hr', fun p b off hr' => rootedF_keep (fun t m x e => ⟨m, x, (hlook r hr t m x e).trans e, fun m1 e => ⟨m1, e⟩⟩) rfl hr'⟩
          rcases hroot with hroot | ⟨q, hq, hfq⟩ | ⟨pp, hat, hdj⟩
          · exact repSlot_mono hF _ _ B (fun c hc => hother j hj c (hB2 c hc)) (fun r hrr => ⟨rfl, hothers r (fun e => hroot (e ▸ hrr))⟩) hB3
          · rw [hq] at hB3 ⊢
            obtain ⟨hBn, b1, off1, hu, h9⟩ := hB3
            have hF9 : RootedF w (fun k => σ.getD k .dead) (fun k => a.tmps.getD k undef) k (.d :: q) b1 off1 := by
              rcases h9 with h9 | ⟨v9, cs9, h9⟩
              · exact h9
              · obtain ⟨b0, h10, rfl⟩ := rooted_flat hfq h9
                exact h10
            refine ⟨hBn, b1, off1, hu, .inl ?_⟩
            refine rootedF_keep (fun t9 m9 x9 e9 => ?_) rfl hF9
            rw [hkv] at e9
            simp only [Slot.val.injEq] at e9
            obtain ⟨rfl, rfl, _⟩ := e9
            refine ⟨mN, xN, by rw [setV_get _ _ _ _ _ hk, if_pos rfl], fun m1 hm1 => ?_⟩
            subst hm1
            -- the store's path begins with the pointer: what is owned stays a variable
            cases p with
            | nil =>
              simp only [loc, Option.some.injEq, Prod.mk.injEq] at hl
              cases hl.1
            | cons s p' => exact setP_box hs
          · have hds : ds.length = v.t.size := by
              have := rep_length _ _ _ _ _ hrn
              rw [this, ht]
            have hkd := hkv
            have hdis : ∀ {vx : TV} {cur : Option (Nat × Nat)} {csx : List Value}, Rooted w (fun k => σ.getD k .dead) (fun k => a.tmps.getD k undef) k pp vx cur csx → Rooted w' (fun j => (setV σ k p (.val t mN xN)).getD j .dead) (fun k => a.tmps.getD k undef) k pp vx cur csx := fun hrx =>
              rooted_disj (F := E.F) hAk1 hAk3 hdj hkd hr hs (by rw [setV_get _ _ _ _ _ hk, if_pos rfl]) rfl hw hds hrx
            have hfl : ∀ b1 off1, RootedF w (fun k => σ.getD k .dead) (fun k => a.tmps.getD k undef) k pp b1 off1 → RootedF w' (fun j => (setV σ k p (.val t mN xN)).getD j .dead) (fun k => a.tmps.getD k undef) k pp b1 off1 := fun b1 off1 hF9 => by
              refine rootedF_keep (fun t9 m9 x9 e9 => ?_) rfl hF9
              rw [hkd] at e9
              simp only [Slot.val.injEq] at e9
              obtain ⟨rfl, rfl, _⟩ := e9
              refine ⟨mN, xN, by rw [setV_get _ _ _ _ _ hk, if_pos rfl], fun m1 hm1 => ?_⟩
              subst hm1
              cases p with
              | nil =>
                simp only [loc, Option.some.injEq, Prod.mk.injEq] at hl
                cases hl.1
              | cons s p' => exact setP_box hs
            rcases hat with hq | hq | ⟨lo, hi, hq⟩
            · rw [hq] at hB3 ⊢
              obtain ⟨hBn, b1, off1, hu, h9⟩ := hB3
              exact ⟨hBn, b1, off1, hu, h9.imp (hfl b1 off1) fun ⟨v9, cs9, h9⟩ => ⟨v9, cs9, hdis h9⟩⟩
            · rw [hq] at hB3 ⊢
              obtain ⟨hBn, v9, cur9, cs9, h9, hu⟩ := hB3
              exact ⟨hBn, v9, cur9, cs9, hdis h9, hu⟩
            · rw [hq] at hB3 ⊢
              obtain ⟨hBn, te, me, xs, cur9, a9, cap9, h9, h10⟩ := hB3
              exact ⟨hBn, te, me, xs, cur9, a9, cap9, hdis h9, h10⟩

end Go.Proofs.Ytaachifkgcdeoaa.Sy
