/- What the functions compute, on plain data, and what follows from it, part 2: no condition. -/
import Derived.Test.YtifabpmjiphhdaaGreatPlain1
namespace Go.Proofs.YtifabpmjiphhdaaGreat.As
open Go
section
set_option maxRecDepth 4000
open Go
variable {n : Nat}
theorem IsName_any (s : Str) (hn : 100 < n) : agraffebase_IsName n s = some (nameB s) := by
  by_cases h : s.length ≤ 20
  · exact IsName_eq s n (by omega) (by omega)
  · have h1 : 12 < s.length := by omega
    have h2 : ¬ s.length ≤ 12 := by omega
    rw [agraffebase_IsName]
    cases s with
    | nil => simp at h1
    | cons c r =>
      have h3 : ¬ r.length < 12 := by simp at h1; omega
      have h4 : 12 < r.length + 1 := by simpa using h1
      simp [h4, nameB, h3, gcall]
theorem name_len {s : Str} (h : nameB s = true) : s.length ≤ 12 := by
  cases s with
  | nil => simp
  | cons c r =>
    simp only [nameB, Bool.and_eq_true, decide_eq_true_eq] at h
    simp; omega
theorem CheckStock_any (a0 : List Stocked) (hn : 100 < n) : agrafferef08_CheckStock n a0 = some (stockC a0) := by
  rw [agrafferef08_CheckStock, stockC]
  by_cases hlen : 60 < a0.length
  · simp [hlen]
  simp only [hlen, decide_false, cond_false, withK_eq]
  rw [loop_first (st := fun v => v) (E := stockE a0) (err := some) (k := some 0) (len := a0.length) ?_ ?_ n 0 (by omega) (by omega) (fun j h => by omega)]
  · rw [Nat.sub_zero]; exact bif_id
  · intro back v hv _
    rw [agrafferef08_CheckStock_L1]
    have hI := IsName_any (n := n) (ix a0 v).Part hn
    have hF := FindStock_eq n (a0.take v) (ix a0 v).Part (by simp; omega) (by simp; omega)
    have hle : v ≤ a0.length := by omega
    simp only [hv, hle, decide_true, cond_true, hI, Option.bind_some, hF, agraffebase_Within, gcall_some_, nI_of (by omega : v + 1 ≤ 9223372036854775807), chk_t, stockE]
    cases nameB (ix a0 v).Part <;> cases decide ((0 : Int) ≤ findI (byPart (ix a0 v).Part) (a0.take v)) <;> simp only [Bool.not_true, Bool.not_false, cond_true, cond_false] <;> first | rfl | skip
    cases ((!((decide (0 ≤ (ix a0 v).Cents)) && (decide ((ix a0 v).Cents ≤ 1000000000)))) || (!((decide (0 ≤ (ix a0 v).Count)) && (decide ((ix a0 v).Count ≤ 10000))))) <;> rfl
  · intro back _
    rw [agrafferef08_CheckStock_L1]
    simp
theorem stock_names {s : List Stocked} (h : stockC s = 0) : ∀ x ∈ s, x.Part.length ≤ 20 := fun x hx => by
  obtain ⟨i, hi, rfl⟩ := mem_ix.1 hx
  unfold stockC at h
  by_cases hl : 60 < s.length
  · simp [hl] at h
  simp only [hl, decide_false, cond_false] at h
  have h1 := firstE_zero h i (by omega) (by omega)
  unfold stockE at h1
  cases hb : nameB (ix s i).Part with
  | true => have := name_len hb; omega
  | false => rw [hb] at h1; simp at h1
theorem CheckFindings_any {t : List Task} {f : List Finding} (h : OkT t) (hfl : f.length ≤ 900) (hn : 1000 < n) : agrafferef08_CheckFindings n t f = some (findsE n t f) := by
  have hlen := h.len
  rw [agrafferef08_CheckFindings, CheckTasks_ref h hn, findsE]
  simp only [Option.bind_some]
  cases tasksE n t != 0
  · by_cases hl : 40 < f.length
    · simp [hl]
    simp only [hl, decide_false, cond_false, withK_eq]
    have e0 : (([] : List Str), 0) = (fun v => ((f.take v).map Finding.Name, v)) 0 := by simp
    rw [e0, loop_first (st := fun v => ((f.take v).map Finding.Name, v)) (E := findE t f) (err := some) (k := some 0) (len := f.length) (fun back v hv _ => ?_) (fun back _ => ?_) n 0 (by omega) (by omega) (fun j h => by omega), Nat.sub_zero, bif_id]
    · rw [agrafferef08_CheckFindings_L1]
      have hmap : ((f.take v).map Finding.Name).any (isS (ix f v).Name) = (f.take v).any (fun y => y.Name == (ix f v).Name) := by
        rw [List.any_map]; rfl
      by_cases ht : 20 < (ix f v).Tasks.length
      · simp only [hv, decide_true, cond_true, IsName_any (n := n) (ix f v).Name (by omega), Option.bind_some, HasText2_eq (n := n) ((f.take v).map Finding.Name) (ix f v).Name (by simp; omega) (by simp; omega), hmap, ht, findE]
        rw [chk_of (room_of (by simp; omega) (by simp; omega))]
        cases nameB (ix f v).Name <;> cases (f.take v).any (fun y => y.Name == (ix f v).Name) <;> rfl
      simp only [hv, decide_true, cond_true, IsName_any (n := n) (ix f v).Name (by omega), Option.bind_some, HasText2_eq (n := n) ((f.take v).map Finding.Name) (ix f v).Name (by simp; omega) (by simp; omega), hmap, known_ref (n := n) (t := t) (ix f v).Tasks hn (by omega) (by omega), nI_of (by omega : v + 1 ≤ 9223372036854775807), chk_t, findE]
      rw [chk_of (room_of (by simp; omega) (by simp; omega)), List.take_succ_eq_append_getElem hv, List.map_append, ix_eq hv]
      cases nameB f[v].Name <;> cases (f.take v).any (fun y => y.Name == f[v].Name) <;> cases decide (20 < f[v].Tasks.length) <;> rfl
    · rw [agrafferef08_CheckFindings_L1]
      simp
  · rfl
theorem finds_ok {t : List Task} {f : List Finding} (h : findsE n t f = 0) (hl : f.length ≤ 40) : ∀ x ∈ f, x.Name.length ≤ 20 ∧ x.Tasks.length ≤ 20 := fun x hx => by
  obtain ⟨i, hi, rfl⟩ := mem_ix.1 hx
  obtain ⟨h0, _⟩ := finds_zero h
  unfold findsE at h
  rw [h0] at h
  simp only [bne_self_eq_false, cond_false, show ¬ 40 < f.length by omega, decide_false] at h
  have h1 := firstE_zero h i (by omega) (by omega)
  unfold findE at h1
  cases hb : nameB (ix f i).Name with
  | false => rw [hb] at h1; simp at h1
  | true =>
    rw [hb] at h1
    have := name_len hb
    refine ⟨by omega, ?_⟩
    by_cases c : 20 < (ix f i).Tasks.length
    · rw [decide_eq_true c] at h1
      cases hh : (f.take i).any (fun y => y.Name == (ix f i).Name) <;> rw [hh] at h1 <;> simp at h1
    · omega
theorem finds_one {t : List Task} {f : List Finding} (h : findsE n t f = 0) (hl : f.length ≤ 40) {i : Nat} (hi : i < f.length) : findsE n t [ix f i] = 0 := by
  obtain ⟨h0, _⟩ := finds_zero h
  unfold findsE at h ⊢
  rw [h0] at h ⊢
  simp only [bne_self_eq_false, cond_false, show ¬ 40 < f.length by omega, decide_false] at h
  have h1 := firstE_zero h i (by omega) (by omega)
  have : findE t [ix f i] 0 = 0 := by
    unfold findE at h1 ⊢
    show (bif !nameB (ix f i).Name then (4 : Int) else bif ([] : List Finding).any (fun y => y.Name == (ix f i).Name) then 5 else bif decide (20 < (ix f i).Tasks.length) then 8 else known t (ix f i).Tasks) = 0
    revert h1
    cases nameB (ix f i).Name <;> cases (f.take i).any (fun y => y.Name == (ix f i).Name) <;> cases decide (20 < (ix f i).Tasks.length) <;> simp
  show (bif decide (40 < 1) then (8 : Int) else firstE (findE t [ix f i]) 0 1) = 0
  simp [firstE, this]
theorem top_parts {s : List Stocked} (hs : stockC s = 0) (h12 : s.length ≤ 12) {d : List PartCount} {m : List (Str × Int)} {K : Int} (hp : d.Perm (m.map fun x : Str × Int => PartCount.mk x.1 x.2)) (hm : Mp s m K) (hK : K ≤ 1000000) {c : Int} (hc : 0 ≤ c) (hc1 : c ≤ 1000000000000) (hn : 1000 < n) (kk : Int → Option Bool) :
    loopN (agraffetop_TopEstimateOnce_L2 n s (0, d) kk) n (c, 0) = kk (c + valM s m) := by
  have hml := hm.len
  have hdl : d.length = m.length := by rw [hp.length_eq]; simp
  have hb : ∀ i, i < d.length → ¬ findI (byPart (ix d i).Part) s < 0 ∧ 0 ≤ pf s d i ∧ pf s d i ≤ 1000000000000000 := by
    intro i hi
    have hx := hp.mem_iff.1 (ix_mem hi)
    rw [List.mem_map] at hx
    obtain ⟨x, hxm, e⟩ := hx
    have h1 := hm.kn x.1 (List.mem_map_of_mem hxm)
    have h2 := hm.vl x hxm
    have e1 : (ix d i).Part = x.1 := by rw [← e]
    have e2 : (ix d i).Count = x.2 := by rw [← e]
    obtain ⟨_, b, _, _⟩ := findI_pos h1
    have h3 := (stock_ok hs).2 _ b
    unfold pf priceOf
    rw [e1, e2]
    refine ⟨h1, Int.mul_nonneg h2.1 h3.1, ?_⟩
    have := Int.mul_le_mul (Int.le_trans h2.2 hK) h3.2 h3.1 (by decide)
    exact this
  have hv : valM s m = sm (pf s d) d.length := by
    have e1 : sm (pf s d) d.length = (d.map fun x => x.Count * priceOf s x.Part).sum := sm_list (fun x : PartCount => x.Count * priceOf s x.Part) d
    rw [e1, perm_sum (hp.map _), List.map_map]
    rfl
  rw [hv]
  refine loop_fold (st := fun v => c + sm (pf s d) v) (len := d.length) (fun back v hvv => ?_) (fun back => ?_) n (by omega) (by simp [sm])
  · have a1 := sm_nn (f := pf s d) v fun i hi => (hb i (by omega)).2.1
    have a2 := sm_le (f := pf s d) (c := 1000000000000000) v fun i hi => (hb i (by omega)).2.2
    obtain ⟨b1, b2, b3⟩ := hb v hvv
    obtain ⟨q1, q2, _, _⟩ := findI_pos b1
    simp only [agraffetop_TopEstimateOnce_L2, hvv, decide_true, cond_true, FindStock_eq n s _ (by omega : s.length < n) (by omega), Option.bind_some, b1, decide_false, cond_false]
    rw [show (ix d v).Count * (ix s (findI (byPart (ix d v).Part) s).toNat).Cents = pf s d v from rfl, chk_of (inB_of q1 q2), chk_of (by simp; exact q2), chk_of (inI_of (by omega) (by omega)), chk_of (inI_of (by omega) (by omega)), chk_of (nI_of (by omega))]
    simp only [sm]
    rw [Int.add_assoc]
  · simp [agraffetop_TopEstimateOnce_L2]
theorem top_cents {t : List Task} (ht : OkT t) (h0 : tasksE n t = 0) {l : List Str} {y : Int} (hl : setE t l = 0) (hll : l.length ≤ 63) (hn : 1000 < n) (kk : Int → Option Bool) :
    (0 ≤ sm (fun v => (taskOf t (ix l v)).Cents) l.length ∧ sm (fun v => (taskOf t (ix l v)).Cents) l.length ≤ 1000000000000) ∧ loopN (agraffetop_TopEstimateOnce_L1 n t (0, l, y) kk) n (0, 0) = kk (sm (fun v => (taskOf t (ix l v)).Cents) l.length) := by
  have hlen := ht.len
  have hk := (set_ok hl).1
  have hb : ∀ i, i < l.length → 0 ≤ (taskOf t (ix l i)).Cents ∧ (taskOf t (ix l i)).Cents ≤ 1000000000 := fun i hi => (nums_of h0 (hk _ (ix_mem hi))).1
  have A : ∀ v, v ≤ l.length → 0 ≤ sm (fun v => (taskOf t (ix l v)).Cents) v ∧ sm (fun v => (taskOf t (ix l v)).Cents) v ≤ 1000000000000 := fun v hv => by
    have a1 := sm_nn (f := fun v => (taskOf t (ix l v)).Cents) v fun i hi => (hb i (by omega)).1
    have a2 := sm_le (f := fun v => (taskOf t (ix l v)).Cents) (c := 1000000000) v fun i hi => (hb i (by omega)).2
    omega
  refine ⟨A _ (Nat.le_refl _), ?_⟩
  refine loop_fold (st := fun v => sm (fun v => (taskOf t (ix l v)).Cents) v) (len := l.length) (fun back v hv => ?_) (fun back => ?_) n (by omega) rfl
  · obtain ⟨k1, k2, k3, k4⟩ := known_ix (hk _ (ix_mem hv))
    have a := A v (by omega)
    have b := hb v hv
    simp only [agraffetop_TopEstimateOnce_L1, hv, decide_true, cond_true, Find_eq t (ix l v) (by omega : t.length < n) (by omega), Option.bind_some, k1, k2, chk_t]
    rw [show ix t (findI (byName (ix l v)) t).toNat = taskOf t (ix l v) from rfl, chk_of (inI_of (by omega) (by omega)), chk_of (nI_of (by omega))]
    rfl
  · simp [agraffetop_TopEstimateOnce_L1]
theorem pure_TopEstimateOnce (a0 : List Task) (a1 : List Stocked) (a2 : List Finding) : agraffetop_TopEstimateOnce 2000 a0 a1 a2 = some true := by
  rw [agraffetop_TopEstimateOnce]
  simp only [agraffetop_estimated, Option.bind_some, Bool.not_true, cond_false, withK_eq, Few_eq (n := 2000) a0 (by omega)]
  cases hf : fewB a0
  · simp [gcall]
  by_cases c1 : 8 < a0.length
  · simp [c1, gcall]
  by_cases c2 : 8 < a1.length
  · simp [c2, gcall]
  by_cases c3 : 4 < a2.length
  · simp [c3, gcall]
  have ok := few_ok hf
  have hlen := ok.len
  simp only [Bool.not_true, Bool.false_or, c1, c2, c3, decide_false, Bool.or_self, Bool.not_false, CheckFindings_any (n := 2000) ok (by omega : a2.length ≤ 900) (by omega), CheckStock_any (n := 2000) a1 (by omega), gcall_t, Option.bind_some]
  by_cases h0 : findsE 2000 a0 a2 = 0
  · by_cases h1 : stockC a1 = 0
    · obtain ⟨t0, hkn⟩ := finds_zero h0
      have s2 := stock_names h1
      have hz := finds_ok h0 (by omega)
      have hok : OkF a2 := ⟨by omega, fun x hx => by have := hz x hx; exact ⟨this.1, by omega⟩⟩
      have hT : ∀ x ∈ a2, x.Tasks.length ≤ 23 := fun x hx => by have := (hz x hx).2; omega
      obtain ⟨W, w1, w2, w3, w4⟩ := wanted_eq (n := 2000) (f := a2) (by omega) hT (by omega)
      have hWk : Kn a0 W := fun x hx => by
        obtain ⟨y, hy, hx⟩ := (w3 x).1 hx
        exact hkn y hy x hx
      have hWz := set_zero hWk w2
      simp only [h0, h1, bne_self_eq_false, Bool.not_false, gcall_t, Option.bind_some, Bool.or_self, cond_false, estimate_eq (n := 2000) ok (s := a1) hok (by omega) hT w2 w3 (by omega), est_res (n := 2000) ok t0 s2 (by omega) (by omega) hWz (by omega)]
      by_cases hl : firstE (lackT a0 a1) 0 a0.length = 0
      · obtain ⟨b, b1, b2, b3, b4⟩ := est_good (n := 2000) ok t0 h1 hl (by omega) (by omega) hWk
        obtain ⟨_, p2, p3, p4⟩ := setP_spec (n := 2000) t0 (by omega) (by omega) b
        have hpk := setP_kn (n := 2000) t0 (by omega) (by omega) b
        have hpl : (setP 2000 a0 b).length ≤ 8 := by have := rawN_len a0 b a0.length; omega
        have hpz := set_zero hpk p3
        have hk : ∀ i, i < a0.length → lacks a1 (ix a0 i).Parts = false := fun i hi => by
          have := firstE_zero hl i (by omega) (by omega)
          unfold lackT at this
          cases c : lacks a1 (ix a0 i).Parts with
          | false => rfl
          | true => rw [c] at this; simp at this
        have hbz : ∀ i, i < (setP 2000 a0 b).length → setL a0 a1 (setP 2000 a0 b) i = 0 := fun i hi => by
          obtain ⟨_, q1, _⟩ := idx_facts (hpk _ (ix_mem hi))
          unfold setL
          rw [show taskOf a0 (ix (setP 2000 a0 b) i) = ix a0 (idx a0 (ix (setP 2000 a0 b) i)) from rfl, hk _ q1]
          rfl
        obtain ⟨d, m, K, e1, e2, e3, e4, e5⟩ := parts_res (n := 2000) ok t0 h1 (by omega) hpz (by omega) hbz (by omega)
        simp only [b3, bne_self_eq_false, cond_false, set_ref (n := 2000) (t := a0) (l := setP 2000 a0 b) (by omega) (by omega) (by omega), hpz, Option.bind_some, e1, Bool.false_or]
        have cost_b : ∀ c, 0 ≤ costA a0 a1 (setP 2000 a0 c) ∧ costA a0 a1 (setP 2000 a0 c) ≤ 100000000000000 := fun c => by
          rw [← cost_bits (n := 2000) t0 (by omega) (by omega)]
          have := sm'_bounds (f := fun i => taskC a1 (ix a0 i)) (p := fun i => c.testBit i) (c := 11000000000000) (by omega) a0.length fun i hi => task_ok t0 h1 hi (hk i hi)
          have h8 : (a0.length : Int) ≤ 8 := by omega
          omega
        let Vf : Nat → List Str := fun i => (agrafferef08_Wanted 2000 [ix a2 i]).getD []
        have hVf : ∀ i, i < a2.length → Asc (Vf i) ∧ (∀ x, x ∈ Vf i ↔ ∃ y ∈ [ix a2 i], x ∈ y.Tasks) ∧ (Vf i).length ≤ 161 := fun i hi => by
          obtain ⟨V, v1, v2, v3, v4⟩ := wanted_eq (n := 2000) (f := [ix a2 i]) (by simp) (fun x hx => by rw [List.mem_singleton.1 hx]; exact hT _ (ix_mem hi)) (by omega)
          have : Vf i = V := by simp only [Vf, v1]; rfl
          rw [this]; exact ⟨v2, v3, v4⟩
        have hVW : ∀ i, i < a2.length → ∀ x ∈ Vf i, x ∈ W := fun i hi x hx => by
          obtain ⟨y, hy, hxy⟩ := ((hVf i hi).2.1 x).1 hx
          rw [List.mem_singleton.1 hy] at hxy
          exact (w3 x).2 ⟨_, ix_mem hi, hxy⟩
        have hVk : ∀ i, i < a2.length → Kn a0 (Vf i) := fun i hi x hx => hWk x (hVW i hi x hx)
        have hE : ∀ i, i < a2.length → restore_Estimate 2000 a0 a1 [ix a2 i] = some (estE 2000 a0 a1 (Vf i)) ∧ (estE 2000 a0 a1 (Vf i)).1 = 0 ∧ (estE 2000 a0 a1 (Vf i)).2.2 ≤ costA a0 a1 (setP 2000 a0 b) ∧ 0 ≤ (estE 2000 a0 a1 (Vf i)).2.2 := fun i hi => by
          obtain ⟨v2, v3, v4⟩ := hVf i hi
          obtain ⟨b', q1, q2, q3, q4⟩ := est_good (n := 2000) ok t0 h1 hl (by omega) (by omega) (hVk i hi)
          have hz1 := hz _ (ix_mem hi)
          have hok1 : OkF [ix a2 i] := ⟨by simp, fun x hx => by rw [List.mem_singleton.1 hx]; exact ⟨hz1.1, by omega⟩⟩
          refine ⟨?_, by rw [q3], ?_, by rw [q3]; exact (cost_b b').1⟩
          · rw [estimate_eq (n := 2000) ok (s := a1) hok1 (by simp) (fun x hx => by rw [List.mem_singleton.1 hx]; exact hT _ (ix_mem hi)) v2 v3 (by omega), finds_one h0 (by omega) hi]
            exact est_res (n := 2000) ok t0 s2 (by omega) (by omega) (set_zero (hVk i hi) v2) (by omega)
          · rw [q3]; exact q4 b b1 (goodP_mono (hVW i hi) b2)
        have fin : costA a0 a1 (setP 2000 a0 b) ≤ sm (fun i => (estE 2000 a0 a1 (Vf i)).2.2) a2.length := by
          obtain ⟨b', q1, q2, q3⟩ := est_sub (n := 2000) ok t0 h1 hl (by omega) (by omega) Vf a2.length W hVk fun x hx => by
            obtain ⟨y, hy, hxy⟩ := (w3 x).1 hx
            obtain ⟨i, hi, rfl⟩ := mem_ix.1 hy
            exact ⟨i, hi, ((hVf i hi).2.1 x).2 ⟨_, List.mem_singleton.2 rfl, hxy⟩⟩
          exact Int.le_trans (b4 b' q1 q2) q3
        obtain ⟨g1, g2⟩ := top_cents (n := 2000) ok t0 (y := costA a0 a1 (setP 2000 a0 b)) hpz (by omega) (by omega) fun v12 => loopN (agraffetop_TopEstimateOnce_L2 2000 a1 (0, d) fun v17 => bif (v17 != costA a0 a1 (setP 2000 a0 b)) then some false else loopN (agraffetop_TopEstimateOnce_L3 2000 a0 a1 a2 (0, setP 2000 a0 b, costA a0 a1 (setP 2000 a0 b)) fun v22 => some (decide (costA a0 a1 (setP 2000 a0 b) ≤ v22))) 2000 (0, 0)) 2000 (v12, 0)
        have tot : sm (fun v => (taskOf a0 (ix (setP 2000 a0 b) v)).Cents) (setP 2000 a0 b).length + valM a1 m = costA a0 a1 (setP 2000 a0 b) := by
          rw [e5, ← setF_sum, ← sm_add]
          exact sm_congr _ fun i _ => rfl
        have g3 := top_parts (n := 2000) h1 (by omega) e2 e3 e4 g1.1 g1.2 (by omega) fun v17 => bif (v17 != costA a0 a1 (setP 2000 a0 b)) then some false else loopN (agraffetop_TopEstimateOnce_L3 2000 a0 a1 a2 (0, setP 2000 a0 b, costA a0 a1 (setP 2000 a0 b)) fun v22 => some (decide (costA a0 a1 (setP 2000 a0 b) ≤ v22))) 2000 (0, 0)
        rw [tot] at g3
        refine (g2.trans g3).trans ?_
        simp only [bne_self_eq_false, cond_false]
        have hcb := cost_b b
        refine (loop_fold (st := fun v => sm (fun i => (estE 2000 a0 a1 (Vf i)).2.2) v) (len := a2.length) (k := some (decide (costA a0 a1 (setP 2000 a0 b) ≤ sm (fun i => (estE 2000 a0 a1 (Vf i)).2.2) a2.length))) (fun back v hv => ?_) (fun back => ?_) 2000 (by omega) rfl).trans ?_
        · obtain ⟨k1, k2, k3, k4⟩ := hE v hv
          have hd : List.take (v + 1 - v) (List.drop v a2) = [ix a2 v] := by
            rw [show v + 1 - v = 1 by omega, drop_ix hv]; rfl
          have n1 := sm_nn (f := fun i => (estE 2000 a0 a1 (Vf i)).2.2) v fun i hi => (hE i (by omega)).2.2.2
          have n2 := sm_le (f := fun i => (estE 2000 a0 a1 (Vf i)).2.2) (c := 100000000000000) v fun i hi => Int.le_trans (hE i (by omega)).2.2.1 hcb.2
          have h4 : (v : Int) ≤ 4 := by omega
          simp only [agraffetop_TopEstimateOnce_L3, hv, decide_true, cond_true, nI_of (by omega : v + 1 ≤ 9223372036854775807), chk_t, show v + 1 ≤ a2.length by omega, show v ≤ v + 1 by omega, hd, k1, k2, Option.bind_some, bne_self_eq_false, Bool.false_or, show ¬ costA a0 a1 (setP 2000 a0 b) < (estE 2000 a0 a1 (Vf v)).2.2 by omega, decide_false, cond_false]
          rw [chk_of (inI_of (by omega) (by omega))]
          rfl
        · simp [agraffetop_TopEstimateOnce_L3]
        · rw [decide_eq_true fin]
      · have he : estE 2000 a0 a1 W = (6, [], 0) := by unfold estE; rw [h1, bne_t hl]; rfl
        simp [he]
    · simp [h0, bne_t h1]
  · simp [bne_t h0, gcall]
end
end Go.Proofs.YtifabpmjiphhdaaGreat.As
