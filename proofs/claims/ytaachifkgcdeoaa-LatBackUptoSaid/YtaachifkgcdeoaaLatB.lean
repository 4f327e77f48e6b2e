/- Lattices of sets: the firm ones give all. -/
import Derived.Test.YtaachifkgcdeoaaLatA
open Go Go.Proofs.Ytaachifkgcdeoaa.Sy Go.Proofs.Ytaachifkgcdeoaa.Pu
set_option linter.unusedVariables false
set_option linter.unusedSimpArgs false
namespace Go.Proofs.Ytaachifkgcdeoaa.Lt
/-- A loop that folds a list. -/
theorem fold_loop {α S T Z : Type} {B : T × Int → Option ((T × Int) ⊕ Z)} {l : List α} {d : α} (e : S → T) (f : S → α → S) (g : S → Z) (I : Nat → S → Prop) {s0 : S} (h0 : I 0 s0) (hB : ∀ k s, k < l.length → I k s → B (e s, (k : Int)) = some (.inl (e (f s (l.getD k d)), ((k + 1 : Nat) : Int))) ∧ I (k + 1) (f s (l.getD k d))) (he : ∀ s, I l.length s → B (e s, (l.length : Int)) = some (.inr (g s))) :
    loopO B (e s0, (0 : Int)) = some (g (l.foldl f s0)) := by
  obtain ⟨z, h1, h2⟩ := loop_count (B := B) (fun k x => ∃ s, x = (e s, (k : Int)) ∧ s = (l.take k).foldl f s0 ∧ I k s) l.length (fun z => z = g (l.foldl f s0)) (x := (e s0, (0 : Int))) ⟨s0, rfl, by simp, h0⟩ (by
      rintro k x hk ⟨s, rfl, e1, e2⟩
      obtain ⟨b1, b2⟩ := hB k s hk e2
      refine ⟨_, b1, _, rfl, ?_, b2⟩
      rw [List.take_add_one, List.getElem?_eq_getElem hk, List.foldl_append, ← e1, getD_lt hk]
      rfl) (by
      rintro x ⟨s, rfl, e1, e2⟩
      exact ⟨_, he s e2, by rw [e1, List.take_length]⟩)
  rw [h1, h2]
theorem fold_filter {α : Type} (p : α → Bool) : ∀ (l o : List α), l.foldl (fun o x => if p x = true then o ++ [x] else o) o = o ++ l.filter p
  | [], o => by simp
  | x :: l, o => by
    rw [List.foldl_cons, fold_filter p l]
    by_cases h : p x = true
    · rw [if_pos h, List.filter_cons_of_pos h]; simp
    · rw [if_neg h, List.filter_cons_of_neg h]
def orAll (l : List Nat) : Nat := l.foldl (· ||| ·) 0
theorem or_bit (i : Nat) : ∀ (l : List Nat) (a : Nat), (l.foldl (· ||| ·) a).testBit i = true ↔ a.testBit i = true ∨ ∃ n ∈ l, n.testBit i = true
  | [], a => by simp
  | n :: l, a => by
    rw [List.foldl_cons, or_bit i l, Nat.testBit_or, Bool.or_eq_true]
    simp only [List.mem_cons, exists_eq_or_imp]
    exact or_assoc
theorem orAll_bit {l : List Nat} {i : Nat} : (orAll l).testBit i = true ↔ ∃ n ∈ l, n.testBit i = true := by
  unfold orAll
  rw [or_bit]
  simp
theorem sub_iff {t s : Nat} : t &&& s = t ↔ ∀ i, t.testBit i = true → s.testBit i = true := by
  constructor
  · intro h i hi
    rw [← h, Nat.testBit_and, Bool.and_eq_true] at hi
    exact hi.2
  · intro h
    apply Nat.eq_of_testBit_eq
    intro i
    rw [Nat.testBit_and]
    cases hc : t.testBit i with
    | false => rfl
    | true => rw [h i hc]; rfl
theorem le_of_sub {t s : Nat} (h : t &&& s = t) : t ≤ s := by rw [← h]; exact Nat.and_le_right
theorem andNot_iff {t s : Nat} (hs : s < 65536) : (t &&& (2 ^ IntKind.bits .u16 - 1 - s)) = 0 ↔ t &&& s = t ∧ t < 65536 ∨ (t &&& (2 ^ IntKind.bits .u16 - 1 - s)) = 0 := by
  constructor
  · intro h; exact .inr h
  · rintro (⟨h, h2⟩ | h)
    · apply Nat.eq_of_testBit_eq
      intro i
      rw [Nat.zero_testBit, Nat.testBit_and]
      show (t.testBit i && (65536 - 1 - s).testBit i) = false
      rw [show 65536 - 1 - s = 2 ^ 16 - (s + 1) by omega, Nat.testBit_two_pow_sub_succ (by omega)]
      cases hc : t.testBit i with
      | false => rfl
      | true => rw [sub_iff.1 h i hc]; simp
    · exact h
theorem andNot_sub {t s : Nat} (hs : s < 65536) (ht : t < 65536) : (t &&& (2 ^ IntKind.bits .u16 - 1 - s)) = 0 ↔ t &&& s = t := by
  constructor
  · intro h
    refine sub_iff.2 fun i hi => ?_
    have h2 : (t &&& (2 ^ IntKind.bits .u16 - 1 - s)).testBit i = false := by rw [h]; simp
    rw [Nat.testBit_and, hi, show 2 ^ IntKind.bits .u16 - 1 - s = 2 ^ 16 - (s + 1) by (show 65536 - 1 - s = _; omega), Nat.testBit_two_pow_sub_succ (by omega)] at h2
    have hi16 : i < 16 := by
      refine Classical.byContradiction fun hn => ?_
      have := Nat.testBit_lt_two_pow (x := t) (i := i) (Nat.lt_of_lt_of_le ht (show 2 ^ 16 ≤ 2 ^ i from Nat.pow_le_pow_right (by decide) (by omega)))
      rw [hi] at this; cases this
    simpa [hi16] using h2
  · intro h; exact (andNot_iff hs).2 (.inl ⟨h, ht⟩)
def below (ns : List Nat) (s : Nat) : Nat := orAll (ns.filter fun t => t != s && (t &&& s == t))
theorem below_eq (ns : List Nat) (s : Nat) : below ns s = ns.foldl (fun a t => if (t != s && (t &&& s == t)) = true then a ||| t else a) 0 := by
  unfold below orAll
  rw [List.foldl_filter]
theorem or_16 {a b : Nat} (ha : a < 65536) (hb : b < 65536) : a ||| b < 65536 := Nat.or_lt_two_pow (n := 16) ha hb
theorem below_loop {ns : List Nat} (hb : ∀ n ∈ ns, n < 65536) (hl : ns.length ≤ 300) {s : Nat} (hs : s < 65536) :
    loopO (fun x : Int × Int => lat_Firm_L2 (toI ns) (s : Int) (ns.length : Int) x.1 x.2) ((0 : Int), (0 : Int)) = some ((below ns s : Nat) : Int) := by
  have hlen : (toI ns).length = ns.length := toI_len ns
  rw [below_eq]
  refine fold_loop (B := fun x : Int × Int => lat_Firm_L2 (toI ns) (s : Int) (ns.length : Int) x.1 x.2) (l := ns) (d := 0) (fun a : Nat => (a : Int)) _ (fun a : Nat => (a : Int)) (fun _ a => a < 65536) (s0 := 0) (by decide) (fun k a hk ha => ?_) (fun a ha => ?_)
  · have hbk := hb _ (mem_getD' (d := 0) hk)
    refine ⟨?_, ?_⟩
    · unfold lat_Firm_L2
      dsimp only
      rw [if_true' (dec_t (by omega)), ck_in (by omega), letO_def, mergeO_def]
      simp only [Int.toNat_natCast, toI_getD]
      rw [or_N (k := .u16) (by rw [max16]; omega) (by rw [max16]; omega), and_N (k := .u16) (by rw [max16]; omega) (by rw [max16]; omega), inc64 (by omega)]
      by_cases h1 : ns.getD k 0 = s
      · rw [if_false' (by rw [h1]; simp), if_false' (by rw [h1]; simp)]
      · by_cases h2 : ns.getD k 0 &&& s = ns.getD k 0
        · rw [if_true' (by rw [Bool.and_eq_true]; exact ⟨by rw [bne_iff_ne]; exact_mod_cast h1, by rw [beq_iff_eq]; exact_mod_cast h2⟩), if_true' (by rw [Bool.and_eq_true]; exact ⟨by rw [bne_iff_ne]; exact h1, by rw [beq_iff_eq]; exact h2⟩)]
        · rw [if_false' (by rw [Bool.and_eq_false_iff]; exact .inr (by rw [beq_eq_false_iff_ne]; exact_mod_cast h2)), if_false' (by rw [Bool.and_eq_false_iff]; exact .inr (by rw [beq_eq_false_iff_ne]; exact h2))]
    · split
      · exact or_16 ha hbk
      · exact ha
  · unfold lat_Firm_L2
    rw [if_false' (dec_f (by omega))]
def firm (ns : List Nat) : List Nat := (ns.drop 1).filter fun s => below ns s != s
theorem firm_run {ns : List Nat} (hb : ∀ n ∈ ns, n < 65536) : (LatOk ns ∧ lat_Firm (toI ns) = some (toI (firm ns), 0)) ∨ ∃ c : Int, c ≠ 0 ∧ lat_Check (toI ns) = some c ∧ lat_Firm (toI ns) = some ([], c) := by
  have hlen : (toI ns).length = ns.length := toI_len ns
  obtain ⟨c, c1, c2⟩ := chk hb
  by_cases h0 : c = 0
  · left
    have hL := c2.1 h0
    have hl3 := hL.len3
    have hl1 := hL.len
    refine ⟨hL, ?_⟩
    unfold lat_Firm
    rw [bind_of c1, if_false' (by rw [h0]; rfl), ck_in (by omega), letO_def, letO_def, hlen, Int.toNat_natCast, show (toI ns).take ns.length = toI ns by rw [← hlen, List.take_length], toI_drop, toI_len]
    have h := fold_loop (B := fun x : List Int × Int => lat_Firm_L1 (toI ns) (toI (ns.drop 1)) ((ns.drop 1).length : Int) x.1 x.2) (l := ns.drop 1) (d := 0) toI (fun o s => if (below ns s != s) = true then o ++ [s] else o) toI (fun k o => o.length ≤ k) (s0 := []) (by simp) (fun k o hk ho => by
      have hkl : k < ns.length := by rw [List.length_drop] at hk; omega
      have hbk := hb _ (List.mem_of_mem_drop (mem_getD' (d := 0) hk))
      have hl2 : (toI (ns.drop 1)).length = (ns.drop 1).length := toI_len _
      unfold lat_Firm_L1
      dsimp only
      rw [if_true' (dec_t (by omega)), ck_in (by omega), letO_def, letO_def, hlen]
      simp only [Int.toNat_natCast, toI_getD]
      rw [bind_of (below_loop hb hl3 hbk)]
      by_cases h1 : below ns ((ns.drop 1).getD k 0) = (ns.drop 1).getD k 0
      · rw [if_false' (by rw [h1]; simp), if_neg (by rw [h1]; simp)]
        unfold lat_Firm_J3
        rw [inc64 (by omega)]
        exact ⟨rfl, by omega⟩
      · rw [if_true' (by rw [bne_iff_ne]; exact_mod_cast h1), if_pos (by rw [bne_iff_ne]; exact h1), ck_in (le_maxL (by
          have : (toI o).length = o.length := toI_len o
          simp only [List.length_cons, List.length_nil]
          omega))]
        unfold lat_Firm_J3
        rw [inc64 (by omega)]
        exact ⟨by simp, by simp; omega⟩) (fun o ho => by
      unfold lat_Firm_L1
      rw [if_false' (dec_f (by omega))])
    have h2 : loopO (fun x : List Int × Int => lat_Firm_L1 (toI ns) (toI (ns.drop 1)) ((ns.drop 1).length : Int) x.1 x.2) (([] : List Int), (0 : Int)) = some (toI (firm ns)) := by
      rw [fold_filter, List.nil_append] at h
      exact h
    rw [bind_of h2]
  · right
    refine ⟨c, h0, c1, ?_⟩
    unfold lat_Firm
    rw [bind_of c1, if_true' (by rw [bne_iff_ne]; exact h0)]
/-- Each set is all the firm sets in it, taken together. -/
theorem firm_all {ns : List Nat} (hP : LatP ns) : ∀ s, s ∈ ns → orAll ((firm ns).filter fun t => (t &&& s == t)) = s := by
  intro s
  induction s using Nat.strongRecOn with
  | ind s ih =>
    intro hs
    apply Nat.eq_of_testBit_eq
    intro i
    rw [Bool.eq_iff_iff, orAll_bit]
    constructor
    · rintro ⟨t, ht, hi⟩
      have := (List.mem_filter.1 ht).2
      rw [beq_iff_eq] at this
      exact sub_iff.1 this i hi
    · intro hi
      by_cases hf : s ∈ firm ns
      · exact ⟨s, List.mem_filter.2 ⟨hf, by simp⟩, hi⟩
      · have hd : s ∈ ns.drop 1 := by
          obtain ⟨k, hk, e⟩ := (mem_getD (d := 0)).1 hs
          cases k with
          | zero =>
            rw [hP.zero] at e
            rw [← e] at hi
            simp at hi
          | succ k =>
            refine (mem_getD (d := 0)).2 ⟨k, by rw [List.length_drop]; omega, ?_⟩
            rw [← e]
            simp only [List.getD_eq_getElem?_getD, List.getElem?_drop]
            rw [Nat.add_comm]
        have hbs : below ns s = s := by
          refine Classical.byContradiction fun hn => hf (List.mem_filter.2 ⟨hd, ?_⟩)
          rw [bne_iff_ne]; exact hn
        have hi2 := hi
        rw [← hbs] at hi2
        obtain ⟨t, ht, hti⟩ := orAll_bit.1 hi2
        obtain ⟨t1, t2⟩ := List.mem_filter.1 ht
        rw [Bool.and_eq_true, bne_iff_ne, beq_iff_eq] at t2
        have hlt : t < s := by have := le_of_sub t2.2; omega
        have := ih t hlt t1
        rw [← this] at hti
        obtain ⟨u, hu, hui⟩ := orAll_bit.1 hti
        obtain ⟨u1, u2⟩ := List.mem_filter.1 hu
        rw [beq_iff_eq] at u2
        refine ⟨u, List.mem_filter.2 ⟨u1, ?_⟩, hui⟩
        rw [beq_iff_eq]
        exact sub_iff.2 fun j hj => sub_iff.1 t2.2 j (sub_iff.1 u2 j hj)
theorem equal_run {a b : List Int} (hl : a.length ≤ 1000000) : slices_Equal_Luint16_uint16 a b = some (decide (a = b)) := by
  unfold slices_Equal_Luint16_uint16
  by_cases h : a.length = b.length
  · rw [if_false' (by rw [h]; simp), letO_def]
    obtain ⟨e1, e2⟩ := eq_loop a b (0 : Int) (B := fun x : Int => slices_Equal_Luint16_uint16_L1 a b (a.length : Int) x) h (fun k hk => by
      unfold slices_Equal_Luint16_uint16_L1
      rw [if_true' (dec_t (by omega)), ck_in (by omega), ck_in (by omega), inc64 (by omega)]
      simp only [Int.toNat_natCast]
      exact ⟨fun e => by rw [if_false' (by rw [e]; simp)], fun e => by rw [if_true' (by rw [bne_iff_ne]; exact e)]⟩) (by
      unfold slices_Equal_Luint16_uint16_L1
      rw [if_false' (dec_f (by omega))])
    by_cases e : a = b
    · rw [bindE_inl (e1 e), decide_eq_true e]
    · rw [bindE_inr (e2 e), decide_eq_false e]
  · rw [if_true' (by rw [bne_iff_ne]; exact_mod_cast h), decide_eq_false (fun e => h (by rw [e]))]
theorem firm3 : lat_Firm [(0 : Int), (1 : Int), (2 : Int), (3 : Int)] = some ([(1 : Int), (2 : Int)], 0) := by
  have hb : ∀ n ∈ [0, 1, 2, 3], n < 65536 := by decide
  rcases firm_run hb with ⟨_, h⟩ | ⟨c, h0, h1, _⟩
  · exact h.trans (congrArg some (by decide))
  · exfalso
    obtain ⟨c', c1, c2⟩ := chk hb
    rw [h1] at c1
    cases c1
    refine h0 (c2.2 ⟨⟨by decide, by decide, ?_, ?_⟩, by decide, by decide⟩)
    · intro i hi
      have : i < 4 := hi
      rcases (by omega : i = 0 ∨ i = 1 ∨ i = 2 ∨ i = 3) with rfl | rfl | rfl | rfl <;> decide
    · intro i hi
      have : i + 1 < 4 := hi
      rcases (by omega : i = 0 ∨ i = 1 ∨ i = 2) with rfl | rfl | rfl <;> decide
theorem firm_law (l : List Int) (hl : ∀ x ∈ l, 0 ≤ x ∧ x ≤ 65535) : LatFirm l = some true := by
  obtain ⟨ns, rfl⟩ := toI_of (l := l) (fun x h => (hl x h).1)
  have hb : ∀ n ∈ ns, n < 65536 := fun n hn => by have := (hl _ (toI_mem.2 hn)).2; omega
  have hlen : (toI ns).length = ns.length := toI_len ns
  unfold LatFirm
  rw [bind_of firm3, letO_def, equal_run (by decide), ck_in (by intro _; rfl), if_false' (by decide)]
  rcases firm_run hb with ⟨hL, h⟩ | ⟨c, h0, h1, h⟩
  · have hl3 := hL.len3
    rw [bind_of h, if_false' (by rfl), letO_def]
    have hfl : (firm ns).length ≤ ns.length := by
      have := List.length_filter_le (fun s => below ns s != s) (ns.drop 1)
      rw [List.length_drop] at this
      unfold firm
      omega
    have hfb : ∀ n ∈ firm ns, n < 65536 := fun n hn => hb n (List.mem_of_mem_drop (List.mem_filter.1 hn).1)
    rw [bindE_inl (all_loop (l := ns) (d := 0) (e := Sum.inl ()) (B := fun x : Int => LatFirm_L1 (toI ns) (toI (firm ns), (0 : Int)) ((toI ns).length : Int) x) (fun k hk => by
      have hbk := hb _ (mem_getD' (d := 0) hk)
      unfold LatFirm_L1
      rw [if_true' (dec_t (by omega)), ck_in (by omega), letO_def, letO_def]
      simp only [Int.toNat_natCast, toI_getD, toI_len]
      have hin := fold_loop (B := fun x : Int × Int => LatFirm_L2 (toI (firm ns), (0 : Int)) ((ns.getD k 0 : Nat) : Int) ((firm ns).length : Int) x.1 x.2) (l := firm ns) (d := 0) (fun a : Nat => (a : Int)) (fun a t => if (t &&& ns.getD k 0 == t) = true then a ||| t else a) (fun a : Nat => (a : Int)) (fun _ a => a < 65536) (s0 := 0) (by decide) (fun j a hj ha => by
        have hfj := hfb _ (mem_getD' (d := 0) hj)
        have hl2 : (toI (firm ns)).length = (firm ns).length := toI_len _
        refine ⟨?_, ?_⟩
        · unfold LatFirm_L2
          dsimp only
          rw [if_true' (dec_t (by omega)), ck_in (by omega), letO_def, mergeO_def]
          simp only [Int.toNat_natCast, toI_getD]
          rw [or_N (k := .u16) (by rw [max16]; omega) (by rw [max16]; omega), andNot_N (k := .u16) (by rw [max16]; omega) (by rw [max16]; omega), inc64 (by omega)]
          have hx := andNot_sub hbk hfj
          by_cases h2 : (firm ns).getD j 0 &&& ns.getD k 0 = (firm ns).getD j 0
          · rw [if_true' (by rw [beq_iff_eq]; exact_mod_cast hx.2 h2), if_true' (by rw [beq_iff_eq]; exact h2)]
          · rw [if_false' (by rw [beq_eq_false_iff_ne]; intro e; exact h2 (hx.1 (by exact_mod_cast e))), if_false' (by rw [beq_eq_false_iff_ne]; exact h2)]
        · split
          · exact or_16 ha hfj
          · exact ha) (fun a ha => by
        unfold LatFirm_L2
        rw [if_false' (dec_f (by omega))])
      have hfo : (firm ns).foldl (fun a t => if (t &&& ns.getD k 0 == t) = true then a ||| t else a) 0 = ns.getD k 0 := by
        have := firm_all hL.toLatP _ (mem_getD' (d := 0) hk)
        unfold orAll at this
        rw [List.foldl_filter] at this
        exact this
      rw [hfo] at hin
      have hin2 : loopO (fun x : Int × Int => LatFirm_L2 (toI (firm ns), (0 : Int)) ((ns.getD k 0 : Nat) : Int) ((firm ns).length : Int) x.1 x.2) ((0 : Int), (0 : Int)) = some ((ns.getD k 0 : Nat) : Int) := hin
      rw [bind_of hin2, if_false' (by simp), inc64 (by omega)]) (by
      unfold LatFirm_L1
      rw [if_false' (dec_f (by omega))]))]
  · rw [bind_of h, if_true' (by rw [bne_iff_ne]; exact h0), h1, letO_def, ck_in (by intro _; rfl)]
    simp
end Go.Proofs.Ytaachifkgcdeoaa.Lt
