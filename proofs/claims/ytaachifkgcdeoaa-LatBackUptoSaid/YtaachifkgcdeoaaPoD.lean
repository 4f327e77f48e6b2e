/- The law of Back: BIRKHOFF. -/
import Derived.Test.YtaachifkgcdeoaaPoC
open Go Go.Proofs.Ytaachifkgcdeoaa.Sy Go.Proofs.Ytaachifkgcdeoaa.Pu
set_option linter.unusedVariables false
set_option linter.unusedSimpArgs false
namespace Go.Proofs.Ytaachifkgcdeoaa.Lt
theorem nodup_at {F : List Nat} (h : F.Nodup) {i j : Nat} (hi : i < F.length) (hj : j < F.length) (e : F.getD i 0 = F.getD j 0) : i = j := by
  rw [getD_lt hi, getD_lt hj] at e
  rcases Nat.lt_trichotomy i j with h1 | h1 | h1
  · exact absurd e (List.pairwise_iff_getElem.1 h i j hi hj h1)
  · exact h1
  · exact absurd e.symm (List.pairwise_iff_getElem.1 h j i hj hi h1)
theorem back_law (N : Int) (ps : List PR) (hl : ps.length ≤ 4294967296) : LatBack (N, ps, ()) = some true := by
  unfold LatBack
  have hP2 : Po 2 [((0 : Int), (1 : Int), ())] := ⟨⟨by decide, fun x hx => by rw [List.mem_singleton.1 hx]; decide⟩, by decide, fun k hk => by
    rcases (by omega : k = 0 ∨ k = 1) with rfl | rfl <;> decide⟩
  have h2 : lat_Downs ((2 : Int), [((0 : Int), (1 : Int), ())], ()) = some ([(0 : Int), (1 : Int), (3 : Int)], 0) :=
    (downs_ok (n := 2) (by decide) hP2).trans (congrArg some (by decide))
  rw [bind_of h2, letO_def, equal_run (by decide), ck_in (by intro _; rfl), if_false' (by decide)]
  rcases downs_no (N := N) hl with ⟨n, rfl, hn, hP⟩ | ⟨c, c1, c2⟩
  · have hd := downs_ok hn hP
    obtain ⟨r, hr⟩ : ∃ r, r = W ps n := ⟨_, rfl⟩
    rw [← hr] at hd
    have hO : Ord r n := ⟨fun a b c ha hb hc h1 h2 => by rw [hr] at *; exact W_trans n b a c hb h1 h2, fun a ha => by rw [hr]; exact hP.irr a ha⟩
    have h2n : 2 ^ n ≤ 4096 := Nat.le_trans (Nat.pow_le_pow_right (by decide) hn) (by decide)
    obtain ⟨ns, hns⟩ : ∃ ns, ns = downs r n := ⟨_, rfl⟩
    have hb : ∀ s ∈ ns, s < 65536 := fun s hs => by
      rw [hns] at hs
      have := (mem_downs.1 hs).1
      omega
    have hLP : LatP ns := by rw [hns]; exact downs_latp hn
    have hlen4 : ns.length ≤ 4096 := by
      have := List.length_filter_le (dnB r n) (List.range (2 ^ n))
      rw [List.length_range] at this
      rw [hns]
      unfold downs
      omega
    have hcl : ∀ a ∈ ns, ∀ b ∈ ns, (a ||| b) ∈ ns ∧ (a &&& b) ∈ ns := by rw [hns]; exact downs_cl
    rw [← hns] at hd
    rw [bind_of hd, if_false' (by rfl)]
    dsimp only
    rcases firm_run hb with ⟨hL, hf⟩ | ⟨c, h0, h1, hf⟩
    · have hl3 := hL.len3
      obtain ⟨F, hF⟩ : ∃ F, F = firm ns := ⟨_, rfl⟩
      have hmem : ∀ s, s ∈ F ↔ ∃ k, k < n ∧ s = dnk r n k := fun s => by rw [hF, hns]; exact mem_firm hn hO
      have hFn : F.Nodup := by
        rw [hF]
        unfold firm
        have h1 : ns.Nodup := by rw [hns]; exact downs_nodup r n
        exact (h1.sublist (List.drop_sublist 1 ns)).filter _
      have hFb : ∀ s ∈ F, s < 65536 := fun s hs => by
        obtain ⟨k, hk, rfl⟩ := (hmem s).1 hs
        have : dnk r n k < 2 ^ n := mkN_lt _ _
        omega
      have hFl : F.length = n := by
        have h1 : F.length ≤ ((List.range n).map (dnk r n)).length := inj_len hFn id (fun s hs => by
          obtain ⟨k, hk, rfl⟩ := (hmem s).1 hs
          exact List.mem_map.2 ⟨k, List.mem_range.2 hk, rfl⟩) (fun _ _ _ _ e => e)
        have h2 : (List.range n).length ≤ F.length := inj_len List.nodup_range (dnk r n) (fun k hk => (hmem _).2 ⟨k, List.mem_range.1 hk, rfl⟩) (fun a ha b hb' e => dnk_inj hO (List.mem_range.1 ha) (List.mem_range.1 hb') e)
        rw [List.length_map, List.length_range] at h1
        rw [List.length_range] at h2
        omega
      obtain ⟨σ, hσ⟩ := Classical.axiomOfChoice (r := fun i k => i < n → k < n ∧ F.getD i 0 = dnk r n k) (fun i => by
        by_cases hi : i < n
        · obtain ⟨k, hk, e⟩ := (hmem _).1 (mem_getD' (l := F) (k := i) (d := 0) (by omega))
          exact ⟨k, fun _ => ⟨hk, e⟩⟩
        · exact ⟨0, fun h => absurd h hi⟩)
      obtain ⟨τ, hτ⟩ := Classical.axiomOfChoice (r := fun k i => k < n → i < n ∧ F.getD i 0 = dnk r n k) (fun k => by
        by_cases hk : k < n
        · obtain ⟨i, hi, e⟩ := (mem_getD (d := 0)).1 ((hmem (dnk r n k)).2 ⟨k, hk, rfl⟩)
          exact ⟨i, fun _ => ⟨by omega, e⟩⟩
        · exact ⟨0, fun h => absurd h hk⟩)
      have hστ : ∀ k, k < n → σ (τ k) = k := fun k hk => by
        obtain ⟨t1, t2⟩ := hτ k hk
        obtain ⟨s1, s2⟩ := hσ (τ k) t1
        exact dnk_inj hO s1 hk (s2.symm.trans t2)
      have hτσ : ∀ i, i < n → τ (σ i) = i := fun i hi => by
        obtain ⟨s1, s2⟩ := hσ i hi
        obtain ⟨t1, t2⟩ := hτ (σ i) s1
        exact nodup_at hFn (by omega) (by omega) (t2.trans s2.symm)
      have hsub : ∀ a b, a < n → b < n → ((a ≠ b ∧ F.getD a 0 &&& F.getD b 0 = F.getD a 0) ↔ r (σ a) (σ b) = true) := fun a b ha hb' => by
        obtain ⟨a1, a2⟩ := hσ a ha
        obtain ⟨b1, b2⟩ := hσ b hb'
        rw [a2, b2, dnk_sub hO a1 b1]
        constructor
        · rintro ⟨h1, h2 | h2⟩
          · refine absurd ?_ h1
            rw [← hτσ a ha, ← hτσ b hb', h2]
          · exact h2
        · intro h2
          refine ⟨fun e => ?_, .inr h2⟩
          rw [e, hO.ir _ b1] at h2; cases h2
      rw [← hF] at hf
      obtain ⟨Lq, q1, q2, q3, q4⟩ := back_pairs hFb (by omega) (0 : Int)
      have hback : lat_Back (toI ns) = some (((n : Int), Lq, ()), 0) := by
        unfold lat_Back
        rw [bind_of hf, if_false' (by rfl)]
        dsimp only
        rw [toI_len, letO_def, letO_def, bind_of q1, hFl]
      rw [bind_of hback, if_false' (by rfl)]
      rw [hFl] at q3 q4
      have hpr : ∀ a b, pr0 Lq a b = true ↔ a < n ∧ b < n ∧ r (σ a) (σ b) = true := fun a b => by
        unfold pr0
        rw [List.any_eq_true]
        constructor
        · rintro ⟨x, hx, h1⟩
          obtain ⟨a', b', h2, h3, h4, rfl⟩ := (q4 x).1 hx
          rw [Bool.and_eq_true, beq_iff_eq, beq_iff_eq] at h1
          rw [show a = a' by have := h1.1; dsimp only at this; omega, show b = b' by have := h1.2; dsimp only at this; omega]
          exact ⟨h2, h3, (hsub a' b' h2 h3).1 h4⟩
        · rintro ⟨h2, h3, h4⟩
          exact ⟨((a : Int), (b : Int), ()), (q4 _).2 ⟨a, b, h2, h3, (hsub a b h2 h3).2 h4, rfl⟩, by simp⟩
      have hWq : ∀ a b, W Lq n a b = true ↔ a < n ∧ b < n ∧ r (σ a) (σ b) = true := fun a b => by
        constructor
        · intro h
          exact W_min (R := fun a b => a < n ∧ b < n ∧ r (σ a) (σ b) = true) (fun a b h => (hpr a b).1 h) (fun a b c h1 h2 => ⟨h1.1, h2.2.1, hO.tr _ _ _ (hσ a h1.1).1 (hσ b h1.2.1).1 (hσ c h2.2.1).1 h1.2.2 h2.2.2⟩) n a b h
        · intro h
          exact W_up ((hpr a b).2 h)
      have hPq : Po n Lq := by
        have hnn : n * n ≤ 12 * 12 := Nat.mul_le_mul hn hn
        refine ⟨⟨by omega, fun x hx => ?_⟩, by omega, fun k hk => ?_⟩
        · obtain ⟨a', b', h2, h3, _, rfl⟩ := (q4 x).1 hx
          dsimp only
          omega
        · rw [Bool.eq_false_iff]
          intro h
          have := ((hWq k k).1 h).2.2
          rw [hO.ir _ (hσ k hk).1] at this; cases this
      have hdq := downs_ok hn hPq
      obtain ⟨L, l1, l2, _, l4⟩ := close_ok hP
      have e1 : (downs (W Lq n) n).length = ns.length := by
        rw [hns]
        refine Nat.le_antisymm ?_ ?_
        · refine downs_len (σ := τ) (fun k hk => (hτ k hk).1) (fun i hi => ⟨σ i, (hσ i hi).1, hτσ i hi⟩) (fun a b ha hb' => ?_)
          rw [hWq, hστ a ha, hστ b hb']
          exact ⟨fun h => ⟨(hτ a ha).1, (hτ b hb').1, h⟩, fun h => h.2.2⟩
        · refine downs_len (σ := σ) (fun i hi => (hσ i hi).1) (fun k hk => ⟨τ k, (hτ k hk).1, hστ k hk⟩) (fun a b ha hb' => ?_)
          rw [hWq]
          exact ⟨fun h => h.2.2, fun h => ⟨ha, hb', h⟩⟩
      have e2 : Lq.length = L.length := by
        refine Nat.le_antisymm ?_ ?_
        · refine inj_len q2 (fun x : PR => (((σ x.1.toNat : Nat) : Int), ((σ x.2.1.toNat : Nat) : Int), ())) (fun x hx => ?_) (fun x hx y hy e => ?_)
          · obtain ⟨a, b, h2, h3, h4, rfl⟩ := (q4 x).1 hx
            dsimp only
            rw [Int.toNat_natCast, Int.toNat_natCast]
            refine (l4 _).2 ⟨σ a, σ b, (hσ a h2).1, (hσ b h3).1, ?_, rfl⟩
            have := (hsub a b h2 h3).1 h4
            rw [hr] at this
            exact this
          · obtain ⟨a, b, h2, h3, _, rfl⟩ := (q4 x).1 hx
            obtain ⟨a', b', h2', h3', _, rfl⟩ := (q4 y).1 hy
            simp only [Int.toNat_natCast, Prod.mk.injEq, and_true] at e
            have f1 : a = a' := by rw [← hτσ a h2, ← hτσ a' h2', Int.ofNat.inj e.1]
            have f2 : b = b' := by rw [← hτσ b h3, ← hτσ b' h3', Int.ofNat.inj e.2]
            rw [f1, f2]
        · refine inj_len l2 (fun x : PR => (((τ x.1.toNat : Nat) : Int), ((τ x.2.1.toNat : Nat) : Int), ())) (fun x hx => ?_) (fun x hx y hy e => ?_)
          · obtain ⟨a, b, h2, h3, h4, rfl⟩ := (l4 x).1 hx
            dsimp only
            rw [Int.toNat_natCast, Int.toNat_natCast]
            refine (q4 _).2 ⟨τ a, τ b, (hτ a h2).1, (hτ b h3).1, (hsub _ _ (hτ a h2).1 (hτ b h3).1).2 ?_, rfl⟩
            rw [hστ a h2, hστ b h3, hr]
            exact h4
          · obtain ⟨a, b, h2, h3, _, rfl⟩ := (l4 x).1 hx
            obtain ⟨a', b', h2', h3', _, rfl⟩ := (l4 y).1 hy
            simp only [Int.toNat_natCast, Prod.mk.injEq, and_true] at e
            have f1 : a = a' := by rw [← hστ a h2, ← hστ a' h2', Int.ofNat.inj e.1]
            have f2 : b = b' := by rw [← hστ b h3, ← hστ b' h3', Int.ofNat.inj e.2]
            rw [f1, f2]
      rw [bind_of hdq, bind_of l1]
      dsimp only
      rw [toI_len, toI_len, e1, e2]
      simp
    · have hlt : 300 < ns.length := by
        refine Classical.byContradiction fun hx => h0 ?_
        obtain ⟨c', d1, d2⟩ := chk hb
        rw [h1] at d1
        rw [Option.some.inj d1]
        exact d2.2 ⟨hLP, by omega, hcl⟩
      have h2' := chk_large hLP hb hlt hlen4
      rw [h1] at h2'
      have hc := Option.some.inj h2'
      have hback : lat_Back (toI ns) = some (((0 : Int), [], ()), c) := by
        unfold lat_Back
        rw [bind_of hf, if_true' (by rw [bne_iff_ne]; exact h0)]
      rw [bind_of hback, if_true' (by rw [bne_iff_ne]; exact h0), hc, toI_len, dec_t (by omega)]
      rfl
  · rw [bind_of c1, if_true' (by rw [bne_iff_ne]; exact c2)]
    rfl
end Go.Proofs.Ytaachifkgcdeoaa.Lt
