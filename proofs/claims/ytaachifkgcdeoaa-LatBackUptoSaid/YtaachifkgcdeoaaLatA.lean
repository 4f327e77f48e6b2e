/- Lattices of sets: what Check asks. -/
import Derived.Test.YtaachifkgcdeoaaPure2
import Derived.Test.YtaachifkgcdeoaaLtDefs
open Go Go.Proofs.Ytaachifkgcdeoaa.Sy Go.Proofs.Ytaachifkgcdeoaa.Pu
set_option linter.unusedVariables false
set_option linter.unusedSimpArgs false
namespace Go.Proofs.Ytaachifkgcdeoaa.Lt
/-- Sets in their order, the empty one first. -/
structure LatP (ns : List Nat) : Prop where
  len : 1 ≤ ns.length
  zero : ns.getD 0 0 = 0
  bits : ∀ i, i < ns.length → ns.getD i 0 < 4096
  mono : ∀ i, i + 1 < ns.length → ns.getD i 0 < ns.getD (i + 1) 0
structure LatOk (ns : List Nat) : Prop extends LatP ns where
  len3 : ns.length ≤ 300
  cl : ∀ a ∈ ns, ∀ b ∈ ns, (a ||| b) ∈ ns ∧ (a &&& b) ∈ ns
theorem LatP.lt {ns : List Nat} (h : LatP ns) {i j : Nat} (hij : i < j) (hj : j < ns.length) : ns.getD i 0 < ns.getD j 0 := by
  induction j with
  | zero => omega
  | succ j ih =>
    have := h.mono j hj
    by_cases e : i = j
    · rw [e]; exact this
    · have := ih (by omega) (by omega)
      omega
theorem max16 : IntKind.max .u16 = 65535 := by decide
theorem mg_set {m : List (Int × Int)} {k v : Int} (a : Int) : mgetu16I (msetu16I m k v) a = if a = k then v else mgetu16I m a := by
  by_cases e : a = k
  · rw [if_pos e, e]; exact mget_same (kt := .int .u16) (vt := .int .i64) rfl m k v
  · rw [if_neg e]; exact mget_other (kt := .int .u16) (vt := .int .i64) rfl m k v e
theorem take_mem {ns : List Nat} {k a : Nat} (hk : k < ns.length) : a ∈ ns.take (k + 1) ↔ a ∈ ns.take k ∨ a = ns.getD k 0 := by
  rw [List.take_add_one, List.getElem?_eq_getElem hk, getD_lt hk]
  simp only [Option.toList, List.mem_append, List.mem_singleton]
theorem chk1 {ns : List Nat} (hl : 1 ≤ ns.length) (hl2 : ns.length ≤ 4096) (hb : ∀ n ∈ ns, n < 65536) :
    ∃ z, loopO (fun x : List (Int × Int) × Int => lat_Check_L1 (toI ns) (ns.length : Int) x.1 x.2) (([] : List (Int × Int)), (0 : Int)) = some z ∧
      ((∃ m, z = .inl m ∧ (∀ i, i < ns.length → ns.getD i 0 < 4096) ∧ (∀ i, i + 1 < ns.length → ns.getD i 0 < ns.getD (i + 1) 0) ∧ ∀ a : Nat, mgetu16I m (a : Int) = if a ∈ ns then 1 else 0) ∨ (∃ c : Int, z = .inr c ∧ c ≠ 0 ∧ ¬ LatP ns)) := by
  refine loop_countE (fun k x => x.2 = (k : Int) ∧ (∀ i, i < k → ns.getD i 0 < 4096) ∧ (∀ i, i + 1 < k → ns.getD i 0 < ns.getD (i + 1) 0) ∧ ∀ a : Nat, mgetu16I x.1 (a : Int) = if a ∈ ns.take k then 1 else 0) ns.length _ ⟨rfl, fun i hi => by omega, fun i hi => by omega, fun a => by simp [mgetu16I, mgetL]; rfl⟩ ?_ ?_
  · rintro k ⟨m, kk⟩ hk ⟨e1, e2, e3, e4⟩
    dsimp only at e1 e2 e3 e4
    subst e1
    have hbk := hb _ (mem_getD' (d := 0) hk)
    have hlen : (toI ns).length = ns.length := toI_len ns
    unfold lat_Check_L1
    dsimp only
    rw [if_true' (dec_t (by omega)), ck_in (by omega), letO_def, ck_in (by omega)]
    simp only [Int.toNat_natCast, toI_getD]
    have hs : arR .shr .u16 ((ns.getD k 0 : Nat) : Int) (12 : Int) = ((ns.getD k 0 / 4096 : Nat) : Int) := shr_N (k := .u16) (n := 12) (by decide)
    rw [hs]
    by_cases h1 : ns.getD k 0 < 4096
    · rw [if_false' (by
        have : ns.getD k 0 / 4096 = 0 := Nat.div_eq_of_lt h1
        rw [this]; rfl)]
      have hpk : 0 < k → ns.getD (arR .sub .i64 (k : Int) 1).toNat 0 = ns.getD (k - 1) 0 ∧ 0 ≤ arR .sub .i64 (k : Int) 1 ∧ arR .sub .i64 (k : Int) 1 < ((toI ns).length : Int) := fun hp => by
        rw [sub64 (by omega) (by omega), show ((k : Int) - 1).toNat = k - 1 by omega]
        exact ⟨rfl, by omega, by omega⟩
      rw [ck_in (fun h => (hpk (by have := of_decide_eq_true h; omega)).2)]
      by_cases h2 : 0 < k ∧ ns.getD k 0 ≤ ns.getD (k - 1) 0
      · rw [if_true' (by
          rw [Bool.and_eq_true]
          exact ⟨dec_t (by omega), dec_t (by rw [(hpk h2.1).1]; omega)⟩)]
        refine .inr ⟨_, rfl, .inr ⟨4, rfl, by decide, fun hP => ?_⟩⟩
        have := hP.mono (k - 1) (by omega)
        rw [show k - 1 + 1 = k by omega] at this
        omega
      · rw [if_false' (by
          rw [Bool.and_eq_false_iff]
          by_cases hp : 0 < k
          · right
            refine dec_f ?_
            rw [(hpk hp).1]
            have : ¬ ns.getD k 0 ≤ ns.getD (k - 1) 0 := fun h => h2 ⟨hp, h⟩
            omega
          · exact .inl (dec_f (by omega))), letO_def, inc64 (by omega)]
        refine .inl ⟨_, rfl, rfl, fun i hi => ?_, fun i hi => ?_, fun a => ?_⟩
        · by_cases e : i = k
          · rw [e]; exact h1
          · exact e2 i (by omega)
        · by_cases e : i + 1 = k
          · rw [e]
            have : ¬ ns.getD k 0 ≤ ns.getD (k - 1) 0 := fun h => h2 ⟨by omega, h⟩
            rw [show i = k - 1 by omega]
            omega
          · exact e3 i (by omega)
        · dsimp only
          rw [mg_set, e4 a]
          by_cases e : a = ns.getD k 0
          · rw [if_pos (by exact_mod_cast e), if_pos ((take_mem hk).2 (.inr e))]
          · rw [if_neg (by exact_mod_cast e)]
            by_cases e5 : a ∈ ns.take k
            · rw [if_pos e5, if_pos ((take_mem hk).2 (.inl e5))]
            · rw [if_neg e5, if_neg (fun h => ((take_mem hk).1 h).elim e5 e)]
    · rw [if_true' (by
        have : 0 < ns.getD k 0 / 4096 := Nat.div_pos (by omega) (by omega)
        rw [bne_iff_ne]; omega)]
      exact .inr ⟨_, rfl, .inr ⟨1, rfl, by decide, fun hP => h1 (hP.bits k hk)⟩⟩
  · rintro ⟨m, kk⟩ ⟨e1, e2, e3, e4⟩
    dsimp only at e1 e2 e3 e4
    subst e1
    unfold lat_Check_L1
    dsimp only
    rw [if_false' (dec_f (by omega))]
    exact ⟨_, rfl, .inl ⟨m, rfl, e2, e3, fun a => by rw [e4 a, List.take_length]⟩⟩
theorem chk3 {ns : List Nat} {m : List (Int × Int)} (hl2 : ns.length ≤ 300) (hb : ∀ n ∈ ns, n < 65536) (hm : ∀ a : Nat, mgetu16I m (a : Int) = if a ∈ ns then 1 else 0) {s : Nat} (hs : s < 65536) :
    ∃ z, loopO (fun x : Int => lat_Check_L3 (toI ns) m (s : Int) (ns.length : Int) x) (0 : Int) = some z ∧ ((z = .inl () ∧ ∀ t ∈ ns, (s ||| t) ∈ ns ∧ (s &&& t) ∈ ns) ∨ (z = .inr (.inr (.inr 4)) ∧ ∃ t ∈ ns, ¬ ((s ||| t) ∈ ns ∧ (s &&& t) ∈ ns))) := by
  have hlen : (toI ns).length = ns.length := toI_len ns
  have h := find_loop (B := fun x : Int => lat_Check_L3 (toI ns) m (s : Int) (ns.length : Int) x) (l := ns) (d := 0) (P := fun t => !(decide ((s ||| t) ∈ ns) && decide ((s &&& t) ∈ ns))) (g := fun _ => Sum.inr (Sum.inr (Sum.inr (4 : Int)))) (e := Sum.inl ()) (fun k hk => by
    have hbk := hb _ (mem_getD' (d := 0) hk)
    unfold lat_Check_L3
    rw [if_true' (dec_t (by omega)), ck_in (by omega), letO_def]
    simp only [Int.toNat_natCast, toI_getD]
    rw [or_N (k := .u16) (by rw [max16]; omega) (by rw [max16]; omega), and_N (k := .u16) (by rw [max16]; omega) (by rw [max16]; omega), hm, hm, inc64 (by omega)]
    by_cases h1 : (s ||| ns.getD k 0) ∈ ns <;> by_cases h2 : (s &&& ns.getD k 0) ∈ ns <;> simp only [h1, h2, if_true, if_false, decide_true, decide_false, Bool.and_true, Bool.and_false, Bool.not_true, Bool.not_false, Bool.false_eq_true] <;> rfl) (by
    unfold lat_Check_L3
    rw [if_false' (dec_f (by omega))])
  rw [h]
  refine ⟨_, rfl, ?_⟩
  cases hf : ns.findIdx? (fun t => !(decide ((s ||| t) ∈ ns) && decide ((s &&& t) ∈ ns))) with
  | none =>
    rw [List.findIdx?_eq_none_iff] at hf
    exact .inl ⟨rfl, fun t ht => by simpa using hf t ht⟩
  | some j =>
    obtain ⟨h1, h2, _⟩ := find_at (d := 0) hf
    refine .inr ⟨rfl, _, mem_getD' (d := 0) h1, fun hh => ?_⟩
    rw [decide_eq_true hh.1, decide_eq_true hh.2] at h2
    cases h2
theorem chk {ns : List Nat} (hb : ∀ n ∈ ns, n < 65536) : ∃ c : Int, lat_Check (toI ns) = some c ∧ (c = 0 ↔ LatOk ns) := by
  have hlen : (toI ns).length = ns.length := toI_len ns
  unfold lat_Check
  rw [hlen]
  by_cases h1 : 1 ≤ ns.length ∧ ns.length ≤ 4096
  · rw [if_false' (by rw [Bool.or_eq_false_iff]; exact ⟨dec_f (by omega), dec_f (by omega)⟩), ck_in (by omega), toI_getD]
    by_cases h2 : ns.getD 0 0 = 0
    · rw [if_false' (by rw [h2]; rfl), letO_def]
      obtain ⟨z, z1, z2⟩ := chk1 h1.1 h1.2 hb
      rcases z2 with ⟨m, rfl, m1, m2, m3⟩ | ⟨c, rfl, c1, c2⟩
      · rw [bindE_inl z1]
        by_cases h3 : ns.length ≤ 300
        · rw [if_false' (dec_f (by omega)), letO_def]
          have hP : LatP ns := ⟨h1.1, h2, m1, m2⟩
          obtain ⟨y, y1, y2⟩ := loop_countE (B := fun x : Int => lat_Check_L2 (toI ns) m (ns.length : Int) x) (fun k x => x = (k : Int) ∧ ∀ i, i < k → ∀ t ∈ ns, (ns.getD i 0 ||| t) ∈ ns ∧ (ns.getD i 0 &&& t) ∈ ns) ns.length (fun z => (z = .inl () ∧ ∀ s ∈ ns, ∀ t ∈ ns, (s ||| t) ∈ ns ∧ (s &&& t) ∈ ns) ∨ (z = .inr 4 ∧ ∃ s ∈ ns, ∃ t ∈ ns, ¬ ((s ||| t) ∈ ns ∧ (s &&& t) ∈ ns))) (x := (0 : Int)) ⟨rfl, fun i hi => by omega⟩ (by
            rintro k x hk ⟨rfl, e⟩
            have hbk := hb _ (mem_getD' (d := 0) hk)
            unfold lat_Check_L2
            rw [if_true' (dec_t (by omega)), ck_in (by omega), letO_def, letO_def, hlen]
            simp only [Int.toNat_natCast, toI_getD]
            obtain ⟨w, w1, w2⟩ := chk3 h3 hb m3 hbk
            rcases w2 with ⟨rfl, w3⟩ | ⟨rfl, t, ht, w3⟩
            · rw [bindE_inl w1, inc64 (by omega)]
              refine .inl ⟨_, rfl, rfl, fun i hi => ?_⟩
              by_cases e1 : i = k
              · rw [e1]; exact w3
              · exact e i (by omega)
            · rw [bindE_inr w1]
              exact .inr ⟨_, rfl, .inr ⟨rfl, _, mem_getD' (d := 0) hk, t, ht, w3⟩⟩) (by
            rintro x ⟨rfl, e⟩
            unfold lat_Check_L2
            rw [if_false' (dec_f (by omega))]
            refine ⟨_, rfl, .inl ⟨rfl, fun s hs t ht => ?_⟩⟩
            obtain ⟨i, hi, rfl⟩ := (mem_getD (d := 0)).1 hs
            exact e i hi t ht)
          rcases y2 with ⟨rfl, y2⟩ | ⟨rfl, s, hs, t, ht, y2⟩
          · rw [bindE_inl y1]
            exact ⟨0, rfl, fun _ => ⟨hP, h3, y2⟩, fun _ => rfl⟩
          · rw [bindE_inr y1]
            exact ⟨4, rfl, (fun h => by cases h), fun h => absurd (h.cl s hs t ht) y2⟩
        · rw [if_true' (dec_t (by omega))]
          exact ⟨2, rfl, (fun h => by cases h), fun h => absurd h.len3 h3⟩
      · rw [bindE_inr z1]
        exact ⟨c, rfl, fun h => absurd h c1, fun h => absurd h.toLatP c2⟩
    · rw [if_true' (by rw [bne_iff_ne]; exact_mod_cast h2)]
      exact ⟨4, rfl, (fun h => by cases h), fun h => absurd h.zero h2⟩
  · rw [if_true' (by rw [Bool.or_eq_true]; by_cases h : ns.length < 1; exact .inl (dec_t (by omega)); exact .inr (dec_t (by omega)))]
    exact ⟨2, rfl, (fun h => by cases h), fun h => absurd ⟨h.len, by have := h.len3; omega⟩ h1⟩
end Go.Proofs.Ytaachifkgcdeoaa.Lt
