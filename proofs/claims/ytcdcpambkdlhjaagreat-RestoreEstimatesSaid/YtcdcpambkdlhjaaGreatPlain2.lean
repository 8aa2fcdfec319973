/- What the functions compute, on plain data, and what follows from it, part 2: no condition. -/
import Derived.Test.YtcdcpambkdlhjaaGreatPlain1
namespace Go.Proofs.YtcdcpambkdlhjaaGreat.As
open Go
section
set_option maxRecDepth 4000
open Go
variable {n : Nat}
theorem ContainsFinding2_eq (f : List Finding) (s : Str) (l : List Str) (hf : f.length ≤ 900) (hn : 1000 < n) : slices_ContainsFunc_Finding_2 n f s l = some (f.any fun y => y.Name == s) := by
  rw [slices_ContainsFunc_Finding_2, slices_IndexFunc_Finding_2, withK_eq, loop_findI (l := f) (p := fun y => y.Name == s) (fun back v' hv' => ?_) (fun back => ?_) n (by omega)]
  · simp only [Option.bind_some, findI_any]
  · rw [slices_IndexFunc_Finding_2_L1]
    simp only [hv', decide_true, cond_true, restore_CheckFindings_f1, Option.bind_some, nI_of (by omega : v' + 1 ≤ 9223372036854775807), chk_t]
  · rw [slices_IndexFunc_Finding_2_L1]
    simp
theorem CheckFindings2_res {t : List Task} {f : List Finding} (h : OkT t) (hf : OkF f) (hn : 1000 < n) : restore_CheckFindings_2 n t f = some (findsE n t f) := by
  have hlen := h.len
  have hfl := hf.1
  rw [restore_CheckFindings_2, CheckTasks_res h hn, findsE]
  simp only [Option.bind_some]
  cases tasksE n t != 0
  · by_cases hl : 40 < f.length
    · simp [hl]
    simp only [hl, decide_false, cond_false, withK_eq]
    rw [loop_errs (E := findE t f) (len := f.length) (k := 0) (fun back v hv => ?_) (fun back => ?_) (by omega), bif_int]
    · rw [restore_CheckFindings_2_L1]
      have hx := hf.2 _ (ix_mem hv)
      have hle : v ≤ f.length := by omega
      simp only [hv, hle, decide_true, cond_true, isName_eq (ix f v).Name n (by omega) (by omega), Option.bind_some, chk_t, ContainsFinding2_eq (n := n) (f.take v) (ix f v).Name (ix f v).Tasks (by simp; omega) hn, known_res (n := n) (t := t) (ix f v).Tasks hn (by omega) (by omega), nI_of (by omega : v + 1 ≤ 9223372036854775807), findE]
      cases nameB (ix f v).Name <;> cases (f.take v).any (fun y => y.Name == (ix f v).Name) <;> cases decide (20 < (ix f v).Tasks.length) <;> rfl
    · rw [restore_CheckFindings_2_L1]
      simp
  · rfl
theorem CheckFindings_ref2 (t : List Task) (f : List Finding) : agrafferef08_CheckFindings_2 n t f = agrafferef08_CheckFindings n t f := by rfl
theorem finds_zero {t : List Task} {f : List Finding} (h : findsE n t f = 0) : tasksE n t = 0 ∧ ∀ y ∈ f, ∀ x ∈ y.Tasks, t.any (byName x) = true := by
  unfold findsE at h
  by_cases h0 : tasksE n t = 0
  · refine ⟨h0, fun y hy x hx => ?_⟩
    rw [h0] at h
    simp only [bne_self_eq_false, cond_false] at h
    by_cases hl : 40 < f.length
    · simp [hl] at h
    simp only [hl, decide_false, cond_false] at h
    obtain ⟨v, hv, rfl⟩ := mem_ix.1 hy
    have h1 := firstE_zero h v (by omega) (by omega)
    unfold findE at h1
    have h2 : known t (ix f v).Tasks = 0 := by
      revert h1
      cases nameB (ix f v).Name <;> cases (f.take v).any (fun y => y.Name == (ix f v).Name) <;> cases decide (20 < (ix f v).Tasks.length) <;> simp
    obtain ⟨q, hq, rfl⟩ := mem_ix.1 hx
    have h3 := firstE_zero h2 q (by omega) (by omega)
    unfold knownE at h3
    cases c : t.any (byName (ix (ix f v).Tasks q)) with
    | true => rfl
    | false => rw [c] at h3; simp at h3
  · rw [bne_t h0] at h; exact absurd h h0
theorem flat_len {f : List Finding} (hT : ∀ x ∈ f, x.Tasks.length ≤ 23) : (f.flatMap Finding.Tasks).length ≤ 23 * f.length := by
  induction f with
  | nil => simp
  | cons y f ih =>
    have h1 := hT y (by simp)
    have h2 := ih fun x hx => hT x (by simp [hx])
    simp only [List.flatMap_cons, List.length_append, List.length_cons]; omega
theorem estimate_eq {t : List Task} (ok : OkT t) {s : List Stocked} {f : List Finding} (hF : OkF f) (hf : f.length ≤ 7) (hT : ∀ x ∈ f, x.Tasks.length ≤ 23) {W : List Str} (hW : Asc W) (hW2 : ∀ x, x ∈ W ↔ ∃ y ∈ f, x ∈ y.Tasks) (hn : 1000 < n) :
    restore_Estimate n t s f = bif findsE n t f != 0 then some (findsE n t f, [], 0) else restore_Cheapest n t s W := by
  rw [restore_Estimate, CheckFindings2_res ok hF hn]
  simp only [Option.bind_some, withK_eq]
  cases findsE n t f != 0
  · simp only [cond_false]
    have e0 : (([] : List Str), 0) = (fun v => ((f.take v).flatMap Finding.Tasks, v)) 0 := by simp
    rw [e0]
    refine loop_through (st := fun v => ((f.take v).flatMap Finding.Tasks, v)) (len := f.length) (fun back v hv => ?_) (fun back => ?_) n (by omega)
    · rw [restore_Estimate_L1]
      have h1 := flat_len (f := f.take v) fun x hx => hT x (List.mem_of_mem_take hx)
      have h2 := hT _ (ix_mem hv)
      have h3 : (f.take v).length ≤ 7 := by simp; omega
      simp only [hv, decide_true, cond_true]
      rw [chk_of (room_of (by simp only [List.length_append]; omega) (by simp only [List.length_append]; omega)), chk_of (nI_of (by omega)), List.take_succ_eq_append_getElem hv, List.flatMap_append, ix_eq hv]
      simp
    · rw [restore_Estimate_L1]
      simp only [Nat.lt_irrefl, decide_false, cond_false, List.take_length]
      have h1 := flat_len hT
      have hp := sortL_perm (f.flatMap Finding.Tasks)
      have hsl := hp.length_eq
      rw [sortS_eq (by omega), Option.bind_some, chk_of (decide_eq_true hsl.symm)]
      have hS : Sorted (sortL (f.flatMap Finding.Tasks)) := fun i j h1 h2 => by
        have := List.pairwise_iff_getElem.1 (sortL_srt (f.flatMap Finding.Tasks)) i j (by omega) h2 h1
        rw [ix_eq h2, ix_eq (by omega)]; exact this
      obtain ⟨c, c1, c2, c3, c4⟩ := compact_eq (n := n) hS (by omega) hn
      have : c = W := Asc.ext c2 hW fun x => by
        rw [c3, hp.mem_iff, hW2, List.mem_flatMap]
      rw [c1, Option.bind_some, this]
      cases restore_Cheapest n t s W with
      | none => rfl
      | some r => rfl
  · rfl
def estE (n : Nat) (t : List Task) (s : List Stocked) (W : List Str) : Int × List Str × Int :=
  bif stockC s != 0 then (stockC s, [], 0) else bif firstE (lackT t s) 0 t.length != 0 then (6, [], 0) else (0, (encB t s (bestOf (costA t s) (goodP n t W) (setP n t) (2 ^ t.length))).1, (encB t s (bestOf (costA t s) (goodP n t W) (setP n t) (2 ^ t.length))).2)
theorem est_res {t : List Task} (ok : OkT t) (h0 : tasksE n t = 0) {s : List Stocked} (hs2 : ∀ x ∈ s, x.Part.length ≤ 20) (hN : t.length ≤ 9) {W : List Str} (hwl : W.length ≤ 900) (hw : setE t W = 0) (hn : 1000 < n) : restore_Cheapest n t s W = some (estE n t s W) := by
  unfold estE
  by_cases h1 : stockC s = 0
  · rw [cheapest_res (n := n) ok h0 h1 hs2 hN hwl hw hn, h1]
    simp only [bne_self_eq_false, cond_false]
    cases firstE (lackT t s) 0 t.length != 0 <;> rfl
  · rw [cheapest_err (n := n) ok hs2 (want := W) hwl hn h1 (by rw [h0, bne_t h1]; rfl), bne_t h1]; rfl
theorem est_ref {t : List Task} (ok : OkT t) (h0 : tasksE n t = 0) {s : List Stocked} (hN : t.length ≤ 9) {W : List Str} (hwl : W.length ≤ 900) (hw : setE t W = 0) (hn : 1000 < n) (h1 : stockC s = 0) : agrafferef08_Cheapest n t s W = some (estE n t s W) := by
  unfold estE
  rw [cheapest_ref (n := n) ok h0 h1 hN hwl hw hn, h1]
  simp only [bne_self_eq_false, cond_false]
  cases firstE (lackT t s) 0 t.length != 0 <;> rfl
theorem est_len {t : List Task} (ok : OkT t) (h0 : tasksE n t = 0) {s : List Stocked} (hN : t.length ≤ 9) {W : List Str} (hw : setE t W = 0) (hn : 1000 < n) : (estE n t s W).2.1.length ≤ 900 := by
  unfold estE
  cases stockC s != 0
  · cases firstE (lackT t s) 0 t.length != 0
    · simp only [cond_false]
      obtain ⟨b, b1, b2, b3, b4⟩ := best_some (n := n) ok h0 (s := s) (by omega) hn (set_ok hw).1
      rw [b3]
      have := (setP_spec (n := n) h0 (by omega) hn b).2.1
      have := rawN_len t b t.length
      show (setP n t b).length ≤ 900
      omega
    · simp
  · simp
theorem pure_RestoreEstimates (a0 : List Task) (a1 : List Stocked) (a2 : List Finding) : agraffelaw08_RestoreEstimates 2000 a0 a1 a2 = some true := by
  rw [agraffelaw08_RestoreEstimates]
  simp only [agraffelaw08_awake, Option.bind_some, Bool.not_true, cond_false, withK_eq, Few_eq (n := 2000) a0 (by omega), stocked_law_eq (n := 2000) a1 (by omega), gcall_some_]
  cases hf : fewB a0
  · simp
  cases hst : stockedB a1
  · simp
  simp only [Bool.not_true, Bool.not_false, cond_true, Bool.or_self, Bool.false_or]
  by_cases hl : 6 < a2.length
  · simp [hl]
  simp only [hl, decide_false, cond_false]
  have ok := few_ok hf
  have hlen := ok.len
  obtain ⟨s1, s2⟩ := stockedB_ok hst
  let E : Nat → Int := fun v => bif decide (20 < (ix a2 v).Name.length) || !textsB (ix a2 v).Tasks 23 then 1 else 0
  have hE : ∀ v, E v = 0 → (ix a2 v).Name.length ≤ 20 ∧ (ix a2 v).Tasks.length ≤ 23 := by
    intro v hv
    simp only [E] at hv
    cases hb : decide (20 < (ix a2 v).Name.length) || !textsB (ix a2 v).Tasks 23
    · simp only [Bool.or_eq_false_iff, decide_eq_false_iff_not, Bool.not_eq_false'] at hb
      have := textsB_len hb.2
      exact ⟨by omega, by omega⟩
    · rw [hb] at hv; simp at hv
  refine (loop_first (st := fun v => v) (E := E) (err := fun _ => some true) (k := some true) (len := a2.length) (fun back v hv _ => ?_) (fun back hz => ?_) 2000 0 (by omega) (by omega) (fun j h => by omega)).trans ?_
  · rw [agraffelaw08_RestoreEstimates_L1]
    simp only [hv, decide_true, cond_true, texts_eq (n := 2000) (ix a2 v).Tasks 23 (by omega) (by omega), gcall_some_, Option.bind_some]
    have e : (decide (20 < (ix a2 v).Name.length) || !(bif !decide (20 < (ix a2 v).Name.length) then textsB (ix a2 v).Tasks 23 else default)) = (decide (20 < (ix a2 v).Name.length) || !textsB (ix a2 v).Tasks 23) := by
      cases decide (20 < (ix a2 v).Name.length) <;> simp
    rw [e]
    simp only [E]
    cases hb : decide (20 < (ix a2 v).Name.length) || !textsB (ix a2 v).Tasks 23
    · simp only [cond_false, nI_of (by omega : v + 1 ≤ 9223372036854775807), chk_t]
      simp
    · simp
  · have hz' : ∀ x ∈ a2, x.Name.length ≤ 20 ∧ x.Tasks.length ≤ 23 := fun x hx => by
      obtain ⟨i, hi, rfl⟩ := mem_ix.1 hx
      exact hE i (hz i hi)
    have hok : OkF a2 := ⟨by omega, fun x hx => by have := hz' x hx; exact ⟨this.1, by omega⟩⟩
    have hT : ∀ x ∈ a2, x.Tasks.length ≤ 23 := fun x hx => (hz' x hx).2
    obtain ⟨W, w1, w2, w3, w4⟩ := wanted_eq (n := 2000) (f := a2) (by omega) hT (by omega)
    rw [agraffelaw08_RestoreEstimates_L1]
    simp only [Nat.lt_irrefl, decide_false, cond_false, Copied_eq (n := 2000) ok (by omega), Option.bind_some, agraffelaw08_stock, room_of (b := 32) (n := a1.length) (by omega) (by omega), room_of (b := 40) (n := a2.length) (by omega) (by omega), chk_t, estimate_eq (n := 2000) ok (s := a1) hok (by omega) hT w2 w3 (by omega), CheckFindings_ref (n := 2000) ok hok (by omega)]
    by_cases h0 : findsE 2000 a0 a2 = 0
    · obtain ⟨t0, hkn⟩ := finds_zero h0
      have hWk : Kn a0 W := fun x hx => by
        obtain ⟨y, hy, hx⟩ := (w3 x).1 hx
        exact hkn y hy x hx
      have hWz := set_zero hWk w2
      have h9 : a0.length ≤ 9 := by
        have h60 := (tasks_zero t0).1
        simp only [fewB, Bool.and_eq_true, Bool.not_eq_true', Bool.or_eq_false_iff, Bool.and_eq_false_iff, decide_eq_false_iff_not] at hf
        omega
      have hEl := est_len (n := 2000) ok t0 (s := a1) h9 hWz (by omega)
      simp only [h0, bne_self_eq_false, cond_false, BEq.rfl, cond_true, CheckStock_ref 2000 a1 s2 (by omega), Option.bind_some, est_res (n := 2000) ok t0 s2 h9 (by omega) hWz (by omega), w1]
      by_cases h1 : stockC a1 = 0
      · simp only [h1, BEq.rfl, cond_true, est_ref (n := 2000) ok t0 h9 (by omega) hWz (by omega) h1, Option.bind_some, bne_self_eq_false, Bool.or_self, Bool.not_false, gcall_t, Texts_refl (n := 2000) (l := (estE 2000 a0 a1 W).2.1) hEl (by omega), Bool.not_true, cond_false]
        by_cases hg : ((estE 2000 a0 a1 W).1 != 0 || decide (a2.length = 0)) = true
        · rw [hg]; simp
        have hg' : ((estE 2000 a0 a1 W).1 != 0 || decide (a2.length = 0)) = false := by simpa using hg
        obtain ⟨hg1, hg2⟩ := Bool.or_eq_false_iff.1 hg'
        have hl0 : 0 < a2.length := by have := of_decide_eq_false hg2; omega
        simp only [hg', hl0, decide_true, Bool.or_true, chk_t, Bool.false_or]
        by_cases hk : (ix a2 0).Tasks.length = 0
        · simp [hk]
        have hk1 : 1 ≤ (ix a2 0).Tasks.length := by omega
        simp only [hk, decide_false, cond_false, hk1, decide_true, chk_t]
        rw [chk_of (room_of (by simp; omega) (by simp; omega)), CheckFindings_ref2]
        have hm0 := ix_mem hl0
        have hT2 : ∀ x ∈ a2 ++ ([(Finding.mk ([122, 122] : Str) (List.take 1 ((ix a2 0).Tasks)))] : List Finding), x.Name.length ≤ 20 ∧ x.Tasks.length ≤ 23 := fun x hx => by
          rcases List.mem_append.1 hx with h | h
          · exact hz' x h
          · rw [List.mem_singleton.1 h]; simp; omega
        have hok2 : OkF (a2 ++ ([(Finding.mk ([122, 122] : Str) (List.take 1 ((ix a2 0).Tasks)))] : List Finding)) := ⟨by simp; omega, fun x hx => by have := hT2 x hx; exact ⟨this.1, by omega⟩⟩
        have w3' : ∀ x, x ∈ W ↔ ∃ y ∈ a2 ++ ([(Finding.mk ([122, 122] : Str) (List.take 1 ((ix a2 0).Tasks)))] : List Finding), x ∈ y.Tasks := fun x => by
          rw [w3]
          constructor
          · rintro ⟨y, h1, h2⟩; exact ⟨y, by simp [h1], h2⟩
          · rintro ⟨y, h1, h2⟩
            rcases List.mem_append.1 h1 with h | h
            · exact ⟨y, h, h2⟩
            · rw [List.mem_singleton.1 h] at h2
              exact ⟨ix a2 0, hm0, List.mem_of_mem_take h2⟩
        rw [CheckFindings_ref (n := 2000) ok hok2 (by omega), Option.bind_some]
        by_cases h2 : findsE 2000 a0 (a2 ++ ([(Finding.mk ([122, 122] : Str) (List.take 1 ((ix a2 0).Tasks)))] : List Finding)) = 0
        · simp only [h2, bne_self_eq_false, cond_false, estimate_eq (n := 2000) ok (s := a1) hok2 (by simp; omega) (fun x hx => (hT2 x hx).2) w2 w3' (by omega), est_res (n := 2000) ok t0 s2 h9 (by omega) hWz (by omega), Option.bind_some, BEq.rfl, Bool.and_true]
          have hg3 : ((estE 2000 a0 a1 W).1 == 0) = true := by simpa using hg1
          rw [hg3]
          simp only [gcall_t, Texts_refl (n := 2000) (l := (estE 2000 a0 a1 W).2.1) hEl (by omega), Option.bind_some, Bool.and_self]
        · rw [bne_t h2]; rfl
      · have hb2 : (stockC a1 == 0) = false := by rw [beq_eq_false_iff_ne]; exact h1
        have he : estE 2000 a0 a1 W = (stockC a1, [], 0) := by unfold estE; rw [bne_t h1]; rfl
        simp [hb2, he, bne_t h1, Texts_refl (n := 2000) (l := []) (by simp) (by omega), h1]
    · have hb2 : (findsE 2000 a0 a2 == 0) = false := by rw [beq_eq_false_iff_ne]; exact h0
      simp [hb2, bne_t h0, Texts_refl (n := 2000) (l := []) (by simp) (by omega), h0]
  · cases firstE E 0 (a2.length - 0) != 0 <;> rfl
end
end Go.Proofs.YtcdcpambkdlhjaaGreat.As
