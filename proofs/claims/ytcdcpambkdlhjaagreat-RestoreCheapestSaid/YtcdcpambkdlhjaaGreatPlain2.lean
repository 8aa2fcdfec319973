/- What the functions compute, on plain data, and what follows from it, part 2: no condition. -/
import Derived.Test.YtcdcpambkdlhjaaGreatPlain1
namespace Go.Proofs.YtcdcpambkdlhjaaGreat.As
open Go
section
set_option maxRecDepth 4000
open Go
variable {n : Nat}
theorem i64n (m : Nat) (h : m < 2 ^ 63) : IntKind.i64.wrap ((m : Nat) : Int) = ((m : Nat) : Int) := by
  have : (2 : Nat) ^ 63 = 9223372036854775808 := by decide
  exact inI_wrap (inI_of (by omega) (by omega))
theorem bit64 (b i : Nat) (hb : b < 2 ^ 63) (hi : i ≤ 62) : (iAnd .i64 (Int.fdiv ((b : Nat) : Int) (2 ^ (min ((i : Nat) : Int).toNat 64))) 1 == (1 : Int)) = b.testBit i := by
  have e1 : min ((i : Nat) : Int).toNat 64 = i := by omega
  rw [e1]
  have e2 : Int.fdiv ((b : Nat) : Int) (2 ^ i) = ((b / 2 ^ i : Nat) : Int) := by
    rw [show (2 : Int) ^ i = ((2 ^ i : Nat) : Int) by simp, Int.fdiv_eq_ediv_of_nonneg _ (Int.natCast_nonneg _)]
    rfl
  rw [e2]
  have h1 : b / 2 ^ i < 2 ^ 64 := Nat.lt_of_le_of_lt (Nat.div_le_self _ _) (Nat.lt_trans hb (by decide))
  have e3 : iAnd .i64 ((b / 2 ^ i : Nat) : Int) 1 = ((b / 2 ^ i &&& 1 : Nat) : Int) := by
    unfold iAnd
    have e4 : (BitVec.ofInt IntKind.i64.bits ((b / 2 ^ i : Nat) : Int)).toNat = b / 2 ^ i := ofInt64 _ h1
    have e5 : (BitVec.ofInt IntKind.i64.bits 1).toNat = 1 := by decide
    rw [BitVec.toNat_and, e4, e5]
    exact i64n _ (Nat.lt_of_le_of_lt Nat.and_le_right (by decide))
  rw [e3, Nat.and_one_is_mod, ← Nat.toNat_testBit]
  cases b.testBit i <;> rfl
theorem less_eq {l m : List Str} (hl : l.length ≤ 900) (hm : m.length ≤ 900) (hn : 1000 < n) : agrafferef08_less_2 n l m = some (lexB l m) := by
  rw [agrafferef08_less_2, withK_eq]
  have key : ∀ k v, v ≤ l.length → v ≤ m.length → l.length - v < k → loopN (agrafferef08_less_2_L1 l m fun (_ : Unit) => some (decide (l.length < m.length))) k v = some (lexB (l.drop v) (m.drop v)) := by
    intro k
    induction k with
    | zero => intro v h; omega
    | succ k ih =>
      intro v h1 h2 h3
      rw [loopN_s]
      by_cases hv : v < l.length
      · by_cases hw : v < m.length
        · simp only [agrafferef08_less_2_L1, hv, hw, decide_true, Bool.and_self, cond_true, chk_t]
          rw [drop_ix hv, drop_ix hw]
          simp only [lexB]
          cases e : (ix l v == ix m v)
          · rfl
          · simp only [Bool.not_true, cond_false, cond_true, nI_of (by omega : v + 1 ≤ 9223372036854775807), chk_t]
            exact ih (v + 1) (by omega) (by omega) (by omega)
        · have hm' : m.drop v = [] := List.drop_eq_nil_of_le (by omega)
          simp only [agrafferef08_less_2_L1, hv, hw, decide_true, decide_false, Bool.and_false, cond_false, show ¬ l.length < m.length by omega]
          rw [drop_ix hv, hm']
          rfl
      · have hl' : l.drop v = [] := List.drop_eq_nil_of_le (by omega)
        simp only [agrafferef08_less_2_L1, hv, decide_false, Bool.false_and, cond_false]
        rw [hl']
        by_cases hw : v < m.length
        · rw [drop_ix hw]
          simp only [show l.length < m.length by omega, decide_true]
          rfl
        · have hm' : m.drop v = [] := List.drop_eq_nil_of_le (by omega)
          simp only [show ¬ l.length < m.length by omega, decide_false]
          rw [hm']
          rfl
  have := key n 0 (by omega) (by omega) (by omega)
  simpa using this
theorem closure2_eq (t : List Task) (a b : List Str) : agrafferef08_Closure_2 n t a b = agrafferef08_Closure n t a b := by rfl
theorem cost2_eq (t : List Task) (s : List Stocked) (b : List Str) : agrafferef08_Cost_2 n t s b = agrafferef08_Cost n t s b := by rfl
theorem all_names {t : List Task} (ok : OkT t) (h0 : tasksE n t = 0) (hn : 1000 < n) (k1 : List Str → Option (Int × List Str × Int)) :
    ∃ nm, Asc nm ∧ nm.length = t.length ∧ (∀ x, x ∈ nm ↔ t.any (byName x) = true) ∧ loopN (agrafferef08_Cheapest_L1 n t k1) n ([], 0) = k1 nm := by
  have hlen := ok.len
  obtain ⟨s2, back2, ⟨out, rfl, p1, p2, p3⟩, r2⟩ := loop_inv (F := agrafferef08_Cheapest_L1 n t k1) (len := t.length) (P := fun v st => ∃ out, st = (out, v) ∧ Asc out ∧ out.length = v ∧ ∀ x, x ∈ out ↔ ∃ i, i < v ∧ (ix t i).Name = x) (fun back v st hv hP => by
    obtain ⟨out, rfl, p1, p2, p3⟩ := hP
    have hnot : (ix t v).Name ∉ out := fun c => by
      obtain ⟨i, h1, h2⟩ := (p3 _).1 c
      have := idx_ix h0 (show i < t.length by omega)
      rw [h2, idx_ix h0 hv] at this
      omega
    obtain ⟨d, g1, g2, g3, g4⟩ := put_spec (n := n) p1 hnot (by omega) hn
    refine ⟨(d, v + 1), ⟨d, rfl, g2, by omega, fun x => ?_⟩, ?_⟩
    · rw [g3, p3]
      constructor
      · rintro (⟨i, h1, h2⟩ | rfl)
        · exact ⟨i, by omega, h2⟩
        · exact ⟨v, by omega, rfl⟩
      · rintro ⟨i, h1, h2⟩
        by_cases e : i = v
        · subst e; exact .inr h2.symm
        · exact .inl ⟨i, by omega, h2⟩
    · simp only [agrafferef08_Cheapest_L1, hv, decide_true, cond_true, g1, Option.bind_some, nI_of (by omega : v + 1 ≤ 9223372036854775807), chk_t]) n 0 ([], 0) (by omega) (by omega) ⟨[], rfl, List.Pairwise.nil, rfl, fun x => by simp⟩
  refine ⟨out, p1, p2, fun x => ?_, ?_⟩
  · rw [p3, any_byName]
    constructor
    · rintro ⟨i, h1, h2⟩; exact ⟨_, ix_mem h1, h2⟩
    · rintro ⟨y, h1, h2⟩
      obtain ⟨i, hi, rfl⟩ := mem_ix.1 h1
      exact ⟨i, hi, h2⟩
  · rw [r2]; simp [agrafferef08_Cheapest_L1]
def setR (nm : List Str) (b v : Nat) : List Str := ((List.range v).filter fun i => b.testBit i).map (ix nm)
theorem setR_succ (nm : List Str) (b v : Nat) : setR nm b (v + 1) = bif b.testBit v then setR nm b v ++ [ix nm v] else setR nm b v := by
  unfold setR
  rw [List.range_succ, List.filter_append, List.map_append]
  cases h : b.testBit v <;> simp [h]
theorem setR_len (nm : List Str) (b v : Nat) : (setR nm b v).length ≤ v := by
  have := List.length_filter_le (fun i => b.testBit i) (List.range v)
  simpa [setR] using this
theorem setR_mem {nm : List Str} {b v : Nat} {s : Str} : s ∈ setR nm b v ↔ ∃ i, i < v ∧ b.testBit i = true ∧ ix nm i = s := by
  simp only [setR, List.mem_map, List.mem_filter, List.mem_range]
  constructor
  · rintro ⟨i, ⟨h1, h2⟩, h3⟩; exact ⟨i, h1, h2, h3⟩
  · rintro ⟨i, h1, h2, h3⟩; exact ⟨i, ⟨h1, h2⟩, h3⟩
theorem range_ix : ∀ (nm : List Str) v, v ≤ nm.length → (List.range v).map (ix nm) = nm.take v := by
  intro nm v
  induction v with
  | zero => intro _; rfl
  | succ v ih =>
    intro hv
    rw [List.range_succ, List.map_append, ih (by omega), List.take_succ_eq_append_getElem (by omega)]
    simp [ix_eq (show v < nm.length by omega)]
theorem setR_asc {nm : List Str} (h : Asc nm) (b : Nat) : Asc (setR nm b nm.length) := by
  have e := range_ix nm nm.length (Nat.le_refl _)
  rw [List.take_length] at e
  have hs : List.Sublist (setR nm b nm.length) nm := by
    conv => rhs; rw [← e]
    exact List.Sublist.map _ List.filter_sublist
  exact List.Pairwise.sublist hs h
theorem setR_loop {nm : List Str} (hl : nm.length ≤ 62) {b : Nat} (hb : b < 2 ^ 62) (hn : 1000 < n) (k3 : List Str → Option (Int × List Str × Int)) : loopN (agrafferef08_Cheapest_L2 nm b k3) n ([], 0) = k3 (setR nm b nm.length) := by
  refine loop_fold (st := fun v => setR nm b v) (len := nm.length) (fun back v hv => ?_) (fun back => ?_) n (by omega) rfl
  · have hr := setR_len nm b v
    simp only [agrafferef08_Cheapest_L2, hv, decide_true, cond_true, withK_eq, Int.natCast_nonneg, chk_t, bit64 b v (Nat.lt_trans hb (by decide)) (by omega), nI_of (by omega : v + 1 ≤ 9223372036854775807), setR_succ]
    cases b.testBit v
    · rfl
    · rw [cond_true, cond_true, chk_of (room_of (by simp; omega) (by simp; omega))]
  · simp [agrafferef08_Cheapest_L2]
def goodR (t : List Task) (want nm : List Str) (b : Nat) : Bool := closE t want (setR nm b nm.length) == 0
def encR (t : List Task) (s : List Stocked) : Option (List Str) → List Str × Int × Bool
  | none => ([], 0, false)
  | some a => (a, costA t s a, true)
theorem setF_sum (t : List Task) (s : List Stocked) (l : List Str) : sm (setF t s l) l.length = costA t s l := sm_list (fun x => taskC s (taskOf t x)) l
theorem step3a {t : List Task} (ok : OkT t) (h0 : tasksE n t = 0) {s : List Stocked} (hs : stockC s = 0) (hN : t.length ≤ 12) (hk : ∀ i, i < t.length → lacks s (ix t i).Parts = false) (hn : 1000 < n) {want nm : List Str} (hwl : want.length ≤ 900) (ha : Asc nm) (hnl : nm.length = t.length) (hnm : ∀ x, x ∈ nm ↔ t.any (byName x) = true)
    (k5 : Int × List Str → Option (Int × List Str × Int)) (back : List Str × Int × Bool × Nat → Option (Int × List Str × Int)) {b : Nat} (hb : b < 2 ^ nm.length) (v18 : List Str) (v19 : Int) (v20 : Bool) (h18 : v18.length ≤ 900) :
    agrafferef08_Cheapest_L3 n t s want nm k5 back (v18, v19, v20, b) = bif goodR t want nm b && ((!v20 || decide (costA t s (setR nm b nm.length) < v19)) || (costA t s (setR nm b nm.length) == v19) && (decide ((setR nm b nm.length).length < v18.length) || decide ((setR nm b nm.length).length = v18.length) && lexB (setR nm b nm.length) v18)) then
      back (setR nm b nm.length, costA t s (setR nm b nm.length), true, b + 1) else back (v18, v19, v20, b + 1) := by
  have hp : 2 ^ nm.length ≤ 2 ^ 12 := Nat.pow_le_pow_right (by omega) (by omega)
  have h12 : (2 : Nat) ^ 12 = 4096 := by decide
  have h62 : (2 : Nat) ^ 62 = 4611686018427387904 := by decide
  have h63 : (2 : Nat) ^ 63 = 9223372036854775808 := by decide
  have e1 : IntKind.i64.wrap (1 * 2 ^ (min ((nm.length : Nat) : Int).toNat 64)) = ((2 ^ nm.length : Nat) : Int) := by
    rw [show min ((nm.length : Nat) : Int).toNat 64 = nm.length by omega, Int.one_mul, show (2 : Int) ^ nm.length = ((2 ^ nm.length : Nat) : Int) by simp]
    exact i64n _ (by omega)
  have e2 : ((b : Nat) : Int) < ((2 ^ nm.length : Nat) : Int) := by omega
  have hl := setR_len nm b nm.length
  have hkn : Kn t (setR nm b nm.length) := fun x hx => by
    obtain ⟨i, h1, _, rfl⟩ := setR_mem.1 hx
    exact (hnm _).1 (ix_mem h1)
  have hz := set_zero hkn (setR_asc ha b)
  have hlz : firstE (setL t s (setR nm b nm.length)) 0 (setR nm b nm.length).length = 0 := firstE_all fun j h1 h2 => by
    obtain ⟨_, q1, _⟩ := idx_facts (hkn _ (ix_mem (show j < (setR nm b nm.length).length by omega)))
    unfold setL
    rw [show taskOf t (ix (setR nm b nm.length) j) = ix t (idx t (ix (setR nm b nm.length) j)) from rfl, hk _ q1]; rfl
  simp only [agrafferef08_Cheapest_L3, Int.natCast_nonneg, decide_true, chk_t, e1, e2, cond_true, withK_eq, setR_loop (n := n) (nm := nm) (by omega) (by omega : b < 2 ^ 62) hn, closure2_eq, clos_ref (n := n) ok hwl (by omega : (setR nm b nm.length).length ≤ 900) hkn hn, Option.bind_some, nI_of (by omega : b + 1 ≤ 9223372036854775807), cost2_eq, Cost_ref (n := n) ok h0 hs hz (by omega) hn, hlz, bne_self_eq_false, cond_false, setF_sum, less_eq (n := n) (l := setR nm b nm.length) (m := v18) (by omega) h18 hn, gcall_some_]
  have e3 : (closE t want (setR nm b nm.length) != 0) = !goodR t want nm b := rfl
  rw [e3]
  cases goodR t want nm b with
  | false => rfl
  | true =>
    simp only [Bool.not_true, cond_false, Bool.true_and]
    congr 1
    cases v20 <;> cases decide (costA t s (setR nm b nm.length) < v19) <;> cases (costA t s (setR nm b nm.length) == v19) <;> cases decide ((setR nm b nm.length).length < v18.length) <;> cases decide ((setR nm b nm.length).length = v18.length) <;> rfl
theorem step3 {t : List Task} (ok : OkT t) (h0 : tasksE n t = 0) {s : List Stocked} (hs : stockC s = 0) (hN : t.length ≤ 12) (hk : ∀ i, i < t.length → lacks s (ix t i).Parts = false) (hn : 1000 < n) {want nm : List Str} (hwl : want.length ≤ 900) (ha : Asc nm) (hnl : nm.length = t.length) (hnm : ∀ x, x ∈ nm ↔ t.any (byName x) = true)
    (k5 : Int × List Str → Option (Int × List Str × Int)) (back : List Str × Int × Bool × Nat → Option (Int × List Str × Int)) {b : Nat} (hb : b < 2 ^ nm.length) :
    agrafferef08_Cheapest_L3 n t s want nm k5 back ((encR t s (bestOf (costA t s) (goodR t want nm) (fun b => setR nm b nm.length) b)).1, (encR t s (bestOf (costA t s) (goodR t want nm) (fun b => setR nm b nm.length) b)).2.1, (encR t s (bestOf (costA t s) (goodR t want nm) (fun b => setR nm b nm.length) b)).2.2, b) =
      back ((encR t s (bestOf (costA t s) (goodR t want nm) (fun b => setR nm b nm.length) (b + 1))).1, (encR t s (bestOf (costA t s) (goodR t want nm) (fun b => setR nm b nm.length) (b + 1))).2.1, (encR t s (bestOf (costA t s) (goodR t want nm) (fun b => setR nm b nm.length) (b + 1))).2.2, b + 1) := by
  simp only [bestOf]
  cases hB : bestOf (costA t s) (goodR t want nm) (fun b => setR nm b nm.length) b with
  | none =>
    refine (step3a ok h0 hs hN hk hn hwl ha hnl hnm k5 back hb [] 0 false (by simp)).trans ?_
    cases goodR t want nm b <;> rfl
  | some a =>
    obtain ⟨⟨b', h1, h2, rfl⟩, _⟩ := bestOf_some hB
    have l2 := setR_len nm b' nm.length
    refine (step3a ok h0 hs hN hk hn hwl ha hnl hnm k5 back hb (setR nm b' nm.length) (costA t s (setR nm b' nm.length)) true (by omega)).trans ?_
    cases goodR t want nm b with
    | false => rfl
    | true =>
      have e5 : ((!true || decide (costA t s (setR nm b nm.length) < costA t s (setR nm b' nm.length))) || (costA t s (setR nm b nm.length) == costA t s (setR nm b' nm.length)) && (decide ((setR nm b nm.length).length < (setR nm b' nm.length).length) || decide ((setR nm b nm.length).length = (setR nm b' nm.length).length) && lexB (setR nm b nm.length) (setR nm b' nm.length))) = ltK (costA t s) (setR nm b nm.length) (setR nm b' nm.length) := rfl
      rw [e5]
      simp only [Bool.true_and]
      cases ltK (costA t s) (setR nm b nm.length) (setR nm b' nm.length) <;> rfl
end
section
set_option maxRecDepth 4000
open Go
variable {n : Nat}
theorem best_eq {t : List Task} (h0 : tasksE n t = 0) {s : List Stocked} (hN : t.length ≤ 12) (hn : 1000 < n) {want nm : List Str} (ha : Asc nm) (hnl : nm.length = t.length) (hnm : ∀ x, x ∈ nm ↔ t.any (byName x) = true) :
    bestOf (costA t s) (goodP n t want) (setP n t) (2 ^ t.length) = bestOf (costA t s) (goodR t want nm) (fun b => setR nm b nm.length) (2 ^ nm.length) := by
  refine bestOf_eq (fun b hb hp => ?_) (fun b hb hp => ?_)
  · obtain ⟨b', h1, h2⟩ := code_ex (fun j => decide (ix nm j ∈ setP n t b)) nm.length
    have e : setR nm b' nm.length = setP n t b := by
      refine Asc.ext (setR_asc ha b') (setP_spec h0 hN hn b).2.2.1 fun x => ?_
      rw [setR_mem]
      constructor
      · rintro ⟨i, k1, k2, rfl⟩
        rw [h2] at k2
        simp only [Bool.and_eq_true, decide_eq_true_eq] at k2
        exact k2.2
      · intro hx
        obtain ⟨i, hi, rfl⟩ := mem_ix.1 ((hnm x).2 (setP_kn h0 hN hn b x hx))
        exact ⟨i, hi, by rw [h2]; simp [hi, hx], rfl⟩
    exact ⟨b', h1, by unfold goodR; rw [e]; exact hp, e⟩
  · have hkn : Kn t (setR nm b nm.length) := fun x hx => by
      obtain ⟨i, h1, _, rfl⟩ := setR_mem.1 hx
      exact (hnm _).1 (ix_mem h1)
    obtain ⟨b', h1, h2⟩ := code_ex (fun j => decide ((ix t j).Name ∈ setR nm b nm.length)) t.length
    have e : setP n t b' = setR nm b nm.length := by
      refine Asc.ext (setP_spec h0 hN hn b').2.2.1 (setR_asc ha b) fun x => ?_
      rw [(setP_spec h0 hN hn b').2.2.2]
      constructor
      · rintro ⟨i, k1, k2, rfl⟩
        rw [h2] at k2
        simp only [Bool.and_eq_true, decide_eq_true_eq] at k2
        exact k2.2
      · intro hx
        obtain ⟨_, k2, k3⟩ := idx_facts (hkn x hx)
        exact ⟨_, k2, by rw [h2]; simp [k2, k3, hx], k3⟩
    exact ⟨b', h1, by unfold goodP; rw [e]; exact hp, e⟩
theorem best_some {t : List Task} (ok : OkT t) (h0 : tasksE n t = 0) {s : List Stocked} (hN : t.length ≤ 12) (hn : 1000 < n) {want : List Str} (hw : Kn t want) : ∃ b, b < 2 ^ t.length ∧ goodP n t want b = true ∧ bestOf (costA t s) (goodP n t want) (setP n t) (2 ^ t.length) = some (setP n t b) ∧ ∀ b', b' < 2 ^ t.length → goodP n t want b' = true → ltK (costA t s) (setP n t b') (setP n t b) = false := by
  cases hB : bestOf (costA t s) (goodP n t want) (setP n t) (2 ^ t.length) with
  | some a =>
    obtain ⟨⟨b, h1, h2, rfl⟩, h4⟩ := bestOf_some hB
    exact ⟨b, h1, h2, rfl, h4⟩
  | none =>
    exfalso
    obtain ⟨b, h1, h2⟩ := code_ex (fun _ => true) t.length
    have hall : ∀ x, t.any (byName x) = true → x ∈ setP n t b := fun x hx => by
      rw [setP_mem h0 hN hn hx, h2]
      simp [(idx_facts hx).2.1]
    have hg := bestOf_none hB b h1
    have : goodP n t want b = true := by
      unfold goodP
      rw [closE_iff]
      refine ⟨fun x hx => hall x (hw x hx), fun x hx => ?_⟩
      obtain ⟨_, q1, _⟩ := idx_facts (setP_kn h0 hN hn b x hx)
      obtain ⟨k1, k2⟩ := names_known h0 q1
      rw [show taskOf t x = ix t (idx t x) from rfl]
      refine ⟨fun y hy => hall y (k1 y hy), fun g hg => ?_⟩
      have hgl := (right_of (n := n) (t := t) ?_ h0).group _ (ix_mem q1) g hg
      · exact ⟨ix g 0, ix_mem hgl, hall _ (k2 g hg _ (ix_mem hgl))⟩
      · exact ok
    rw [this] at hg; cases hg
theorem lack_eq {t : List Task} (h0 : tasksE n t = 0) {s : List Stocked} {nm : List Str} (hnm : ∀ x, x ∈ nm ↔ t.any (byName x) = true) : (firstE (setL t s nm) 0 nm.length != 0) = (firstE (lackT t s) 0 t.length != 0) := by
  by_cases h : firstE (lackT t s) 0 t.length = 0
  · have : firstE (setL t s nm) 0 nm.length = 0 := firstE_all fun j h1 h2 => by
      obtain ⟨_, q1, _⟩ := idx_facts ((hnm _).1 (ix_mem (show j < nm.length by omega)))
      exact firstE_zero h (idx t (ix nm j)) (by omega) (by omega)
    rw [h, this]
  · have : ¬ firstE (setL t s nm) 0 nm.length = 0 := fun c => h (firstE_all fun i h1 h2 => by
      have hi : i < t.length := by omega
      obtain ⟨j, hj, e⟩ := mem_ix.1 ((hnm _).2 (known_at hi))
      have := firstE_zero c j (by omega) (by omega)
      unfold setL at this
      rw [e, uniq_of h0 hi] at this
      exact this)
    rw [bne_t h, bne_t this]
theorem cheapest_ref {t : List Task} (ok : OkT t) (h0 : tasksE n t = 0) {s : List Stocked} (hs : stockC s = 0) (hN : t.length ≤ 9) {want : List Str} (hwl : want.length ≤ 900) (hw : setE t want = 0) (hn : 1000 < n) :
    agrafferef08_Cheapest n t s want = bif firstE (lackT t s) 0 t.length != 0 then some (6, [], 0) else some (0, (encB t s (bestOf (costA t s) (goodP n t want) (setP n t) (2 ^ t.length))).1, (encB t s (bestOf (costA t s) (goodP n t want) (setP n t) (2 ^ t.length))).2) := by
  have hlen := ok.len
  have hkn : Kn t want := (set_ok hw).1
  rw [agrafferef08_Cheapest]
  simp only [withK_eq]
  obtain ⟨nm, ha, hnl, hnm, hloop⟩ := all_names (n := n) ok h0 hn (fun (v5 : List Str) =>
      (agrafferef08_Cost n t s v5).bind fun y6 =>
      bif !y6.2 then
        some (6, ([] : List Str), 0)
      else
        bif decide (14 < t.length) then
          some (8, ([] : List Str), 0)
        else
          loopN (agrafferef08_Cheapest_L3 n t s want v5 fun (v33, v34) => some (0, v34, v33)) n (([] : List Str), 0, false, 0))
  refine hloop.trans ?_
  have hz := set_zero (fun x hx => (hnm x).1 hx) ha
  simp only [Cost_ref (n := n) ok h0 hs hz (by omega) hn, Option.bind_some, lack_eq h0 hnm]
  by_cases hl : firstE (lackT t s) 0 t.length = 0
  · have hk : ∀ i, i < t.length → lacks s (ix t i).Parts = false := fun i hi => by
      have := firstE_zero hl i (by omega) (by omega)
      unfold lackT at this
      cases c : lacks s (ix t i).Parts with
      | false => rfl
      | true => rw [c] at this; simp at this
    have hp : 2 ^ nm.length ≤ 2 ^ 9 := Nat.pow_le_pow_right (by omega) (by omega)
    have h9 : (2 : Nat) ^ 9 = 512 := by decide
    obtain ⟨b, b1, b2, b3, _⟩ := best_some ok h0 (s := s) (by omega) hn hkn
    simp only [hl, bne_self_eq_false, cond_false, Bool.not_true, show ¬ 14 < t.length by omega, decide_false]
    have := loop_through (F := agrafferef08_Cheapest_L3 n t s want nm fun (v33, v34) => some (0, v34, v33)) (st := fun b => ((encR t s (bestOf (costA t s) (goodR t want nm) (fun b => setR nm b nm.length) b)).1, (encR t s (bestOf (costA t s) (goodR t want nm) (fun b => setR nm b nm.length) b)).2.1, (encR t s (bestOf (costA t s) (goodR t want nm) (fun b => setR nm b nm.length) b)).2.2, b)) (len := 2 ^ nm.length)
      (k := some (0, (encR t s (bestOf (costA t s) (goodR t want nm) (fun b => setR nm b nm.length) (2 ^ nm.length))).1, (encR t s (bestOf (costA t s) (goodR t want nm) (fun b => setR nm b nm.length) (2 ^ nm.length))).2.1)) (fun back b hb => step3 ok h0 hs (by omega) hk hn hwl ha hnl hnm _ back hb) (fun back => ?_) n (by omega)
    · refine this.trans ?_
      rw [← best_eq h0 (by omega) hn ha hnl hnm, b3]
      rfl
    · have e1 : IntKind.i64.wrap (1 * 2 ^ (min ((nm.length : Nat) : Int).toNat 64)) = ((2 ^ nm.length : Nat) : Int) := by
        rw [show min ((nm.length : Nat) : Int).toNat 64 = nm.length by omega, Int.one_mul, show (2 : Int) ^ nm.length = ((2 ^ nm.length : Nat) : Int) by simp]
        have h63 : (2 : Nat) ^ 63 = 9223372036854775808 := by decide
        exact i64n _ (by omega)
      simp only [agrafferef08_Cheapest_L3, e1, Int.lt_irrefl, decide_false, cond_false, Int.natCast_nonneg, decide_true, chk_t]
  · simp [bne_t hl]
theorem cheapest_err {t : List Task} (ok : OkT t) {s : List Stocked} (hs2 : ∀ x ∈ s, x.Part.length ≤ 20) {want : List Str} (hwl : want.length ≤ 900) (hn : 1000 < n) {e : Int} (he : e ≠ 0) (h : (bif tasksE n t != 0 then tasksE n t else bif stockC s != 0 then stockC s else setE t want) = e) : restore_Cheapest n t s want = some (e, [], 0) := by
  have hlen := ok.len
  subst h
  rw [restore_Cheapest, CheckTasks_res ok hn]
  simp only [Option.bind_some, CheckStock_res n s hs2 (by omega), set_res (n := n) (t := t) (l := want) (by omega) hwl hn]
  by_cases h0 : tasksE n t = 0
  · by_cases h1 : stockC s = 0
    · by_cases h2 : setE t want = 0
      · simp [h0, h1, h2] at he
      · simp [h0, h1, bne_t h2]
    · simp [h0, bne_t h1]
  · simp [bne_t h0]
theorem pure_RestoreCheapest (a0 : List Task) (a1 : List Stocked) (a2 : List Str) : agraffelaw08_RestoreCheapest 2000 a0 a1 a2 = some true := by
  rw [agraffelaw08_RestoreCheapest]
  simp only [agraffelaw08_awake, Option.bind_some, Bool.not_true, cond_false, withK_eq, Few_eq (n := 2000) a0 (by omega), stocked_law_eq (n := 2000) a1 (by omega), texts_eq (n := 2000) a2 12 (by omega) (by omega), gcall_some_]
  cases hf : fewB a0
  · simp
  cases hst : stockedB a1
  · simp
  cases hs : textsB a2 12
  · simp
  have ok := few_ok hf
  obtain ⟨s1, s2⟩ := stockedB_ok hst
  have ls := textsB_len hs
  have hlen := ok.len
  simp only [Bool.not_true, Bool.not_false, Bool.or_self, cond_true, cond_false, Copied_eq (n := 2000) ok (by omega), Option.bind_some, agraffelaw08_stock, agraffebase_CopyTexts_2, room_of (b := 32) (n := a1.length) (by omega) (by omega), room_of (b := 16) (n := a2.length) (by omega) (by omega), chk_t, CheckTasks_ref (n := 2000) ok (by omega), CheckStock_ref 2000 a1 s2 (by omega), set_ref (n := 2000) (t := a0) (l := a2) (by omega) (by omega) (by omega)]
  by_cases h0 : tasksE 2000 a0 = 0
  · by_cases h1 : stockC a1 = 0
    · by_cases h2 : setE a0 a2 = 0
      · have h9 : a0.length ≤ 9 := by
          have h60 := (tasks_zero h0).1
          simp only [fewB, Bool.and_eq_true, Bool.not_eq_true', Bool.or_eq_false_iff, Bool.and_eq_false_iff, decide_eq_false_iff_not] at hf
          omega
        have hkn : Kn a0 a2 := (set_ok h2).1
        simp only [h0, h1, h2, BEq.rfl, cond_true, cheapest_res (n := 2000) ok h0 h1 s2 h9 (by omega) h2 (by omega), cheapest_ref (n := 2000) ok h0 h1 h9 (by omega) h2 (by omega)]
        by_cases hl : firstE (lackT a0 a1) 0 a0.length = 0
        · have hk : ∀ i, i < a0.length → lacks a1 (ix a0 i).Parts = false := fun i hi => by
            have := firstE_zero hl i (by omega) (by omega)
            unfold lackT at this
            cases c : lacks a1 (ix a0 i).Parts with
            | false => rfl
            | true => rw [c] at this; simp at this
          obtain ⟨b, b1, b2, b3, b4⟩ := best_some ok h0 (s := a1) (by omega) (by omega : 1000 < 2000) hkn
          obtain ⟨_, p2, p3, p4⟩ := setP_spec h0 (by omega) (by omega : 1000 < 2000) b
          have pl : (setP 2000 a0 b).length ≤ 12 := by have := rawN_len a0 b a0.length; omega
          have pk := setP_kn h0 (by omega) (by omega : 1000 < 2000) b
          have pz := set_zero pk p3
          have pc : closE a0 a2 (setP 2000 a0 b) = 0 := by unfold goodP at b2; exact eq_of_beq b2
          have ht := right_of ok h0
          obtain ⟨d, ks, e1, d1, tk, d2⟩ := byFirst_res (n := 2000) ht (by omega) h0 (want := a2) (by omega) h2 (by omega)
          have dk : Kn a0 d := fun x hx => tk.kn x ((d2 x).1 hx)
          have dz := set_zero dk d1
          have dl : d.length ≤ a0.length := Inv.len ⟨d1.nodup, dk⟩
          have dc : closE a0 a2 d = 0 := clos_zero ht (fun x hx => (d2 x).2 (tk.seed x hx)) dk fun x hx y hy => by
            rcases tk.cl x ((d2 x).1 hx) with c | c
            · simp at c
            · exact (d2 y).2 (c y hy)
          have dlz : firstE (setL a0 a1 d) 0 d.length = 0 := firstE_all fun j h1 h2 => by
            obtain ⟨_, q1, _⟩ := idx_facts (dk _ (ix_mem (show j < d.length by omega)))
            exact firstE_zero hl (idx a0 (ix d j)) (by omega) (by omega)
          have hle : costA a0 a1 (setP 2000 a0 b) ≤ costA a0 a1 d := by
            obtain ⟨b', c1, c2⟩ := code_ex (fun j => decide ((ix a0 j).Name ∈ d)) a0.length
            have e : setP 2000 a0 b' = d := by
              refine Asc.ext (setP_spec h0 (by omega) (by omega : 1000 < 2000) b').2.2.1 d1 fun x => ?_
              rw [(setP_spec h0 (by omega) (by omega : 1000 < 2000) b').2.2.2]
              constructor
              · rintro ⟨i, k1, k2, rfl⟩
                rw [c2] at k2
                simp only [Bool.and_eq_true, decide_eq_true_eq] at k2
                exact k2.2
              · intro hx
                obtain ⟨_, k2, k3⟩ := idx_facts (dk x hx)
                exact ⟨_, k2, by rw [c2]; simp [k2, k3, hx], k3⟩
            have := b4 b' c1 (by unfold goodP; rw [e, dc]; rfl)
            rw [e] at this
            have h : ¬ ltK (costA a0 a1) d (setP 2000 a0 b) = true := by simp [this]
            rw [ltK_iff] at h
            omega
          simp only [hl, bne_self_eq_false, cond_false, Option.bind_some, b3, encB, Bool.or_self, Bool.not_false, gcall_t, Texts_refl (n := 2000) (l := setP 2000 a0 b) (by omega) (by omega), Bool.not_true, Bool.or_false, e1, restore_Cost, CheckTasks_res (n := 2000) ok (by omega), h0, CheckStock_res 2000 a1 s2 (by omega), h1, set_res (n := 2000) (t := a0) (l := d) (by omega) (by omega) (by omega), dz, withK_eq, Cost_res (n := 2000) ok h0 h1 dz (by omega) (by omega), dlz, setF_sum, Copied_eq (n := 2000) ok (by omega), room_of (b := 16) (n := (setP 2000 a0 b).length) (by omega) (by omega), chk_t, closure_res (n := 2000) ok (want := a2) (set := setP 2000 a0 b) (by omega) (by omega) (by omega), h2, pz, pc, BEq.rfl, Bool.and_self, Bool.true_and]
          simp [hle]
        · have hb : (firstE (lackT a0 a1) 0 a0.length != 0) = true := bne_t hl
          simp [hb, Texts_refl (n := 2000) (l := []) (by simp) (by omega)]
      · have hb2 : (setE a0 a2 == 0) = false := by rw [beq_eq_false_iff_ne]; exact h2
        simp [h0, h1, hb2, cheapest_err (n := 2000) ok s2 (want := a2) (by omega) (by omega) h2 (by rw [h0, h1]; rfl), bne_t h2, Texts_refl (n := 2000) (l := []) (by simp) (by omega)]
    · have hb2 : (stockC a1 == 0) = false := by rw [beq_eq_false_iff_ne]; exact h1
      simp [h0, hb2, cheapest_err (n := 2000) ok s2 (want := a2) (by omega) (by omega) h1 (by rw [h0, bne_t h1]; rfl), bne_t h1, Texts_refl (n := 2000) (l := []) (by simp) (by omega)]
  · have hb2 : (tasksE 2000 a0 == 0) = false := by rw [beq_eq_false_iff_ne]; exact h0
    simp [hb2, cheapest_err (n := 2000) ok s2 (want := a2) (by omega) (by omega) h0 (by rw [bne_t h0]; rfl), bne_t h0, Texts_refl (n := 2000) (l := []) (by simp) (by omega)]
end
end Go.Proofs.YtcdcpambkdlhjaaGreat.As
