/- What the functions compute, on plain data, and what follows from it, part 2: no condition. -/
import Derived.Test.YtifabpmjiphhdaaGreatPlain1
namespace Go.Proofs.YtifabpmjiphhdaaGreat.As
open Go
section
set_option maxRecDepth 4000
open Go
variable {n : Nat}
theorem glue {d : List PartCount} {a m b : Nat} (h1 : Srt pLt d a m) (h2 : Srt pLt d (m + 1) b) (h3 : ∀ q, a ≤ q → q < m → pLt (ix d m) (ix d q) = false) (h4 : ∀ q, m < q → q < b → pLt (ix d q) (ix d m) = false) : Srt pLt d a b := by
  intro i j k1 k2 k3
  by_cases c1 : j < m
  · exact h1 i j k1 k2 c1
  · by_cases c2 : m < i
    · exact h2 i j (by omega) k2 k3
    · by_cases c3 : i = m
      · rw [c3]; exact h4 j (by omega) k3
      · by_cases c4 : j = m
        · rw [c4]; exact h3 i k1 (by omega)
        · exact ordStr.letr _ _ _ (h3 i k1 (by omega)) (h4 j (by omega) k3)
theorem Rg.all {d d' : List PartCount} {a b : Nat} {P : PartCount → Prop} (r : Rg a b d d') (h : ∀ q, a ≤ q → q < b → P (ix d q)) : ∀ q, a ≤ q → q < b → P (ix d' q) := by
  intro q h1 h2
  obtain ⟨p, g1, g2, g3⟩ := r.inn q h1 h2
  rw [g3]; exact h p g1 g2
theorem orc {c b : Bool} (h : c = true → b = true) : (!c || b) = true := by
  cases c with
  | true => exact h rfl
  | false => rfl
theorem withK_p {α β : Type} {j : α → Option β} {f : (α → Option β) → Option β} {P : Option β → Prop} (Q : α → Prop) (h1 : ∀ k : α → Option β, (∀ x, Q x → P (k x)) → P (f k)) (h2 : ∀ x, Q x → P (j x)) : P (withK j f) := h1 j h2
def PS (N K : Nat) (f : List PartCount × Int × Int × Int → Option (List PartCount)) : Prop :=
  ∀ (d : List PartCount) (a b : Nat) (l : Int), d.length = N → a ≤ b → b ≤ N → b - a < K → Lo d a b → 0 ≤ l → l ≤ 1000 → ∃ d', f (d, (a : Int), (b : Int), l) = some d' ∧ Rg a b d d' ∧ Srt pLt d' a b
theorem pdq_L1 {N K : Nat} (hN : N ≤ 900) (hn : 1000 < n) {self : List PartCount × Int × Int × Int → Option (List PartCount)} (hS : PS N K self) : ∀ m a b (d : List PartCount) (bal part : Bool) (l : Int), b - a < m → b - a ≤ K → d.length = N → a ≤ b → b ≤ N → Lo d a b → 0 ≤ l → l ≤ 1000 →
    ∃ d', loopN (q10k n self) m ((a : Int), d, bal, part, (b : Int), l) = some d' ∧ Rg a b d d' ∧ Srt pLt d' a b := by
  intro m
  induction m with
  | zero => intro a b d bal part l h; omega
  | succ m ih =>
    intro a b d bal part l hm hK hd hab hb hlo hl0 hl1
    rw [loopN_s, q10k]
    rw [chk_of (by first | exact inI_of (by omega) (by omega) | exact inB_of (by omega) (by omega) | exact inI_of (by simp only [List.length_set]; omega) (by simp only [List.length_set]; omega) | exact inB_of (by omega) (by simp only [List.length_set, sw2_len]; omega) | exact decide_eq_true (by first | omega | (simp only [List.length_set, sw2_len]; omega)))]
    by_cases c12 : (b : Int) - (a : Int) ≤ 12
    · rw [decide_eq_true c12, c_t]
      obtain ⟨d', g1, g2, g3⟩ := ins_ok (n := n) hN hn hab hb hd
      rw [g1, Option.bind_some, chk_of (decide_eq_true (by rw [g2.len]))]
      exact ⟨d', rfl, g2, g3⟩
    rw [decide_eq_false c12, c_f]
    cases hl : l == (0 : Int) with
    | true =>
      rw [c_t]
      obtain ⟨d', g1, g2, g3⟩ := heap_ok (n := n) hN hn (a := a) (b := b) (by omega) hb hd
      rw [g1, Option.bind_some, chk_of (decide_eq_true (by rw [g2.len]))]
      exact ⟨d', rfl, g2, g3⟩
    | false =>
    rw [c_f]
    have hlne : l ≠ 0 := by simpa using hl
    have J3 : ∀ (d3 : List PartCount) (p : Nat) (l1 : Int), Rg a b d d3 → a ≤ p → p < b → 0 ≤ l1 → l1 ≤ 1000 → ∃ d',
        (chk (!(decide ((0 : Int) < (a : Int))) || inI ((a : Int) - 1)) <|
                  chk (!(decide ((0 : Int) < (a : Int))) || inB ((a : Int) - 1) d3.length) <|
                  chk (!(decide ((0 : Int) < (a : Int))) || decide (((a : Int) - 1).toNat < d3.length)) <|
                  chk (!(decide ((0 : Int) < (a : Int))) || inB (p : Int) d3.length) <|
                  chk (!(decide ((0 : Int) < (a : Int))) || decide ((p : Int).toNat < d3.length)) <|
                  (gcall (decide ((0 : Int) < (a : Int))) (q4k n (ix d3 (((a : Int) - 1).toNat)) (ix d3 (p : Int).toNat))).bind fun y50 =>
                  bif (decide ((0 : Int) < (a : Int))) && (!(decide (y50 < (0 : Int)))) then
                    (q11k n d3 (a : Int) (b : Int) (p : Int)).bind fun y51 =>
                    chk (decide (d3.length = y51.2.length)) <|
                    loopN (q10k n self) m (y51.1, y51.2, bal, part, (b : Int), l1)
                  else
                    (q21k n d3 (a : Int) (b : Int) (p : Int)).bind fun y52 =>
                    chk (decide (d3.length = y52.2.1.length)) <|
                    chk (inI (y52.1 - (a : Int))) <|
                    chk (inI ((b : Int) - y52.1)) <|
                    chk ((8 != 0 && inI (Int.tdiv ((b : Int) - (a : Int)) 8))) <|
                    bif decide ((y52.1 - (a : Int)) < ((b : Int) - y52.1)) then
                      (self (y52.2.1, (a : Int), y52.1, l1)).bind fun y53 =>
                      chk (decide (y52.2.1.length = y53.length)) <|
                      chk (inI (y52.1 + 1)) <|
                      loopN (q10k n self) m (y52.1 + 1, y53, decide ((Int.tdiv ((b : Int) - (a : Int)) 8) ≤ (y52.1 - (a : Int))), y52.2.2, (b : Int), l1)
                    else
                      chk (inI (y52.1 + 1)) <|
                      (self (y52.2.1, y52.1 + 1, (b : Int), l1)).bind fun y54 =>
                      chk (decide (y52.2.1.length = y54.length)) <|
                      loopN (q10k n self) m ((a : Int), y54, decide ((Int.tdiv ((b : Int) - (a : Int)) 8) ≤ ((b : Int) - y52.1)), y52.2.2, y52.1, l1)) = some d' ∧ Rg a b d d' ∧ Srt pLt d' a b := by
      intro d3 p l1 r3 hp1 hp2 h10 h11
      have hl3 : d3.length = N := by rw [r3.len]; exact hd
      have lo3 : Lo d3 a b := hlo.rg r3
      have z0 : decide ((0 : Int) < (a : Int)) = decide (0 < a) := decide_eq_decide.2 (by omega)
      simp only [z0, pt1, Int.toNat_natCast, f1V, gq, gqn, cmpV_lt, gcall_some_, Option.bind_some, BEq.rfl, Bool.not_true, Bool.false_and, Bool.false_or]
      rw [chk_of (orc fun hc => by have hc := of_decide_eq_true hc; (first | exact inI_of (by omega) (by omega) | exact inB_of (by omega) (by omega) | exact inI_of (by simp only [List.length_set]; omega) (by simp only [List.length_set]; omega) | exact inB_of (by omega) (by simp only [List.length_set, sw2_len]; omega) | exact decide_eq_true (by first | omega | (simp only [List.length_set, sw2_len]; omega)))), chk_of (orc fun hc => by have hc := of_decide_eq_true hc; (first | exact inI_of (by omega) (by omega) | exact inB_of (by omega) (by omega) | exact inI_of (by simp only [List.length_set]; omega) (by simp only [List.length_set]; omega) | exact inB_of (by omega) (by simp only [List.length_set, sw2_len]; omega) | exact decide_eq_true (by first | omega | (simp only [List.length_set, sw2_len]; omega)))), chk_of (orc fun hc => by have hc := of_decide_eq_true hc; (first | exact inI_of (by omega) (by omega) | exact inB_of (by omega) (by omega) | exact inI_of (by simp only [List.length_set]; omega) (by simp only [List.length_set]; omega) | exact inB_of (by omega) (by simp only [List.length_set, sw2_len]; omega) | exact decide_eq_true (by first | omega | (simp only [List.length_set, sw2_len]; omega)))), chk_of (orc fun hc => by have hc := of_decide_eq_true hc; (first | exact inI_of (by omega) (by omega) | exact inB_of (by omega) (by omega) | exact inI_of (by simp only [List.length_set]; omega) (by simp only [List.length_set]; omega) | exact inB_of (by omega) (by simp only [List.length_set, sw2_len]; omega) | exact decide_eq_true (by first | omega | (simp only [List.length_set, sw2_len]; omega)))), chk_of (orc fun hc => by have hc := of_decide_eq_true hc; (first | exact inI_of (by omega) (by omega) | exact inB_of (by omega) (by omega) | exact inI_of (by simp only [List.length_set]; omega) (by simp only [List.length_set]; omega) | exact inB_of (by omega) (by simp only [List.length_set, sw2_len]; omega) | exact decide_eq_true (by first | omega | (simp only [List.length_set, sw2_len]; omega))))]
      cases ht : decide (0 < a) && !pLt (ix d3 (a - 1)) (ix d3 p) with
      | true =>
        rw [c_t]
        obtain ⟨t1, t2⟩ := Bool.and_eq_true_iff.1 ht
        have t1 := of_decide_eq_true t1
        have t2 := nbP_f t2
        obtain ⟨q, d4, g1, g2, g3, g4, g5, g6⟩ := pteq_ok (n := n) hN hn hp1 hp2 hb hl3
        rw [g1, Option.bind_some, chk_of (decide_eq_true (by rw [g4.len]))]
        have hl4 : d4.length = N := by rw [g4.len]; exact hl3
        have lo4 : Lo d4 a b := lo3.rg g4
        have e4 : ix d4 (a - 1) = ix d3 (a - 1) := g4.out _ (by omega)
        obtain ⟨d5, k1, k2, k3⟩ := ih q b d4 bal part l1 (by omega) (by omega) hl4 g3 hb (fun x h1 h2 _ => ordStr.letr _ _ _ (g5 (q - 1) (by omega) (by omega)) (ordStr.asym _ _ (g6 x h1 h2))) h10 h11
        refine ⟨d5, k1, (r3.trans g4).trans (k2.mono (by omega) (Nat.le_refl _) (by omega)), fun i j h1 h2 h3 => ?_⟩
        by_cases c1 : q ≤ i
        · exact k3 i j c1 h2 h3
        · have hi : pLt (ix d3 p) (ix d5 i) = false := by rw [k2.out i (by omega)]; exact g5 i h1 (by omega)
          by_cases c2 : j < q
          · rw [k2.out j (by omega)]
            have a1 := lo4 j (by omega) (by omega) t1
            rw [e4] at a1
            exact ordStr.letr _ _ _ (ordStr.letr _ _ _ hi t2) a1
          · exact ordStr.letr _ _ _ hi (Rg.all (P := fun x => pLt x (ix d3 p) = false) k2 (fun x h1 h2 => ordStr.asym _ _ (g6 x h1 h2)) j (by omega) h3)
      | false =>
        rw [c_f]
        obtain ⟨q, d4, f, g1, g2, g3, g4, g5, g6⟩ := part_ok (n := n) hN hn hp1 hp2 hb hl3
        rw [g1, Option.bind_some]
        have hl4 : d4.length = N := by rw [g4.len]; exact hl3
        have lo4 : Lo d4 a b := lo3.rg g4
        have e8 : Int.tdiv ((b : Int) - (a : Int)) 8 = (((b - a) / 8 : Nat) : Int) := by
          rw [Int.tdiv_eq_ediv_of_nonneg (by omega)]; omega
        simp only [e8]
        rw [chk_of (decide_eq_true (by rw [g4.len])), chk_of (by first | exact inI_of (by omega) (by omega) | exact inB_of (by omega) (by omega) | exact inI_of (by simp only [List.length_set]; omega) (by simp only [List.length_set]; omega) | exact inB_of (by omega) (by simp only [List.length_set, sw2_len]; omega) | exact decide_eq_true (by first | omega | (simp only [List.length_set, sw2_len]; omega))), chk_of (by first | exact inI_of (by omega) (by omega) | exact inB_of (by omega) (by omega) | exact inI_of (by simp only [List.length_set]; omega) (by simp only [List.length_set]; omega) | exact inB_of (by omega) (by simp only [List.length_set, sw2_len]; omega) | exact decide_eq_true (by first | omega | (simp only [List.length_set, sw2_len]; omega))), chk_of (by rw [inI_of (by omega) (by omega)]; rfl)]
        by_cases ch : (q : Int) - (a : Int) < (b : Int) - (q : Int)
        · rw [decide_eq_true ch, c_t]
          obtain ⟨d5, k1, k2, k3⟩ := hS d4 a q l1 hl4 g2 (by omega) (by omega) (lo4.mono (by omega)) h10 h11
          rw [k1, Option.bind_some, chk_of (decide_eq_true (by rw [k2.len])), chk_of (by first | exact inI_of (by omega) (by omega) | exact inB_of (by omega) (by omega) | exact inI_of (by simp only [List.length_set]; omega) (by simp only [List.length_set]; omega) | exact inB_of (by omega) (by simp only [List.length_set, sw2_len]; omega) | exact decide_eq_true (by first | omega | (simp only [List.length_set, sw2_len]; omega))), show (q : Int) + 1 = ((q + 1 : Nat) : Int) by omega]
          have hl5 : d5.length = N := by rw [k2.len]; exact hl4
          have hq5 : ix d5 q = ix d4 q := k2.out q (by omega)
          have up5 : ∀ x, q + 1 ≤ x → x < b → pLt (ix d5 x) (ix d5 q) = false := fun x h1 h2 => by
            rw [k2.out x (by omega), hq5]; exact g6 x (by omega) h2
          have dn5 : ∀ x, a ≤ x → x < q → pLt (ix d4 q) (ix d5 x) = false := Rg.all (P := fun x => pLt (ix d4 q) x = false) k2 (fun x h1 h2 => ordStr.asym _ _ (g5 x h1 h2))
          obtain ⟨d6, m1, m2, m3⟩ := ih (q + 1) b d5 (decide ((((b - a) / 8 : Nat) : Int) ≤ (q : Int) - (a : Int))) f l1 (by omega) (by omega) hl5 (by omega) hb (fun x h1 h2 _ => by rw [Nat.add_sub_cancel]; exact up5 x h1 h2) h10 h11
          refine ⟨d6, m1, ((r3.trans g4).trans (k2.mono (Nat.le_refl _) (by omega) (by omega))).trans (m2.mono (by omega) (Nat.le_refl _) (by omega)), glue (m := q) (fun i j h1 h2 h3 => ?_) m3 (fun x h1 h2 => ?_) (fun x h1 h2 => ?_)⟩
          · rw [m2.out i (by omega), m2.out j (by omega)]; exact k3 i j h1 h2 h3
          · rw [m2.out q (by omega), m2.out x (by omega), hq5]; exact dn5 x h1 h2
          · rw [m2.out q (by omega)]
            exact Rg.all (P := fun y => pLt y (ix d5 q) = false) m2 up5 x (by omega) h2
        · rw [decide_eq_false ch, c_f, chk_of (by first | exact inI_of (by omega) (by omega) | exact inB_of (by omega) (by omega) | exact inI_of (by simp only [List.length_set]; omega) (by simp only [List.length_set]; omega) | exact inB_of (by omega) (by simp only [List.length_set, sw2_len]; omega) | exact decide_eq_true (by first | omega | (simp only [List.length_set, sw2_len]; omega))), show (q : Int) + 1 = ((q + 1 : Nat) : Int) by omega]
          have up4 : ∀ x, q + 1 ≤ x → x < b → pLt (ix d4 x) (ix d4 q) = false := fun x h1 h2 => g6 x (by omega) h2
          obtain ⟨d5, k1, k2, k3⟩ := hS d4 (q + 1) b l1 hl4 (by omega) hb (by omega) (fun x h1 h2 _ => by rw [Nat.add_sub_cancel]; exact up4 x h1 h2) h10 h11
          rw [k1, Option.bind_some, chk_of (decide_eq_true (by rw [k2.len]))]
          have hl5 : d5.length = N := by rw [k2.len]; exact hl4
          have hq5 : ix d5 q = ix d4 q := k2.out q (by omega)
          have up5 : ∀ x, q + 1 ≤ x → x < b → pLt (ix d5 x) (ix d5 q) = false := by
            rw [hq5]; exact Rg.all (P := fun y => pLt y (ix d4 q) = false) k2 up4
          have lo5 : Lo d5 a b := lo4.rg (k2.mono (by omega) (Nat.le_refl _) (by omega))
          obtain ⟨d6, m1, m2, m3⟩ := ih a q d5 (decide ((((b - a) / 8 : Nat) : Int) ≤ (b : Int) - (q : Int))) f l1 (by omega) (by omega) hl5 g2 (by omega) (lo5.mono (by omega)) h10 h11
          refine ⟨d6, m1, ((r3.trans g4).trans (k2.mono (by omega) (Nat.le_refl _) (by omega))).trans (m2.mono (Nat.le_refl _) (by omega) (by omega)), glue (m := q) m3 (fun i j h1 h2 h3 => ?_) (fun x h1 h2 => ?_) (fun x h1 h2 => ?_)⟩
          · rw [m2.out i (by omega), m2.out j (by omega)]; exact k3 i j h1 h2 h3
          · rw [m2.out q (by omega)]
            exact Rg.all (P := fun y => pLt (ix d5 q) y = false) m2 (fun y h1 h2 => by
              rw [k2.out y (by omega), hq5]; exact ordStr.asym _ _ (g5 y h1 h2)) x h1 h2
          · rw [m2.out q (by omega), m2.out x (by omega)]; exact up5 x (by omega) h2
    refine withK_p (P := fun y => ∃ d', y = some d' ∧ Rg a b d d' ∧ Srt pLt d' a b) (fun x : List PartCount × Int => Rg a b d x.1 ∧ 0 ≤ x.2 ∧ x.2 ≤ 1000) (fun k1 hk => ?_) (fun x hx => ?_)
    · cases bal with
      | true => rw [Bool.not_true, c_f]; exact hk (d, l) ⟨.refl _, hl0, hl1⟩
      | false =>
        rw [Bool.not_false, c_t]
        obtain ⟨d1, g1, g2⟩ := brk_ok (n := n) hN hn (a := a) (b := b) (by omega) hb hd
        rw [g1, Option.bind_some, chk_of (decide_eq_true (by rw [g2.len])), chk_of (by first | exact inI_of (by omega) (by omega) | exact inB_of (by omega) (by omega) | exact inI_of (by simp only [List.length_set]; omega) (by simp only [List.length_set]; omega) | exact inB_of (by omega) (by simp only [List.length_set, sw2_len]; omega) | exact decide_eq_true (by first | omega | (simp only [List.length_set, sw2_len]; omega)))]
        exact hk (d1, l - 1) ⟨g2, by show 0 ≤ l - 1; omega, by show l - 1 ≤ 1000; omega⟩
    obtain ⟨d1, l1⟩ := x
    obtain ⟨r1, h10, h11⟩ := hx
    have hld1 : d1.length = N := by rw [r1.len]; exact hd
    obtain ⟨p, h, g1, g2, g3⟩ := choose_ok (n := n) hN (d := d1) hld1 (a := a) (b := b) (by omega) hb
    show ∃ d', Option.bind _ _ = some d' ∧ Rg a b d d' ∧ Srt pLt d' a b
    rw [g1, Option.bind_some]
    refine withK_p (P := fun y => ∃ d', y = some d' ∧ Rg a b d d' ∧ Srt pLt d' a b) (fun x : List PartCount × Int × Int => Rg a b d x.1 ∧ ∃ q : Nat, x.2.1 = (q : Int) ∧ a ≤ q ∧ q < b) (fun k2 hk => ?_) (fun x hx => ?_)
    · cases h == (2 : Int) with
      | true =>
        rw [c_t]
        obtain ⟨d2, k1, k3⟩ := rev_ok (n := n) hN hn (a := a) (b := b) hb hld1
        rw [k1, Option.bind_some, chk_of (decide_eq_true (by rw [k3.len])), chk_of (by first | exact inI_of (by omega) (by omega) | exact inB_of (by omega) (by omega) | exact inI_of (by simp only [List.length_set]; omega) (by simp only [List.length_set]; omega) | exact inB_of (by omega) (by simp only [List.length_set, sw2_len]; omega) | exact decide_eq_true (by first | omega | (simp only [List.length_set, sw2_len]; omega))), chk_of (by first | exact inI_of (by omega) (by omega) | exact inB_of (by omega) (by omega) | exact inI_of (by simp only [List.length_set]; omega) (by simp only [List.length_set]; omega) | exact inB_of (by omega) (by simp only [List.length_set, sw2_len]; omega) | exact decide_eq_true (by first | omega | (simp only [List.length_set, sw2_len]; omega))), chk_of (by first | exact inI_of (by omega) (by omega) | exact inB_of (by omega) (by omega) | exact inI_of (by simp only [List.length_set]; omega) (by simp only [List.length_set]; omega) | exact inB_of (by omega) (by simp only [List.length_set, sw2_len]; omega) | exact decide_eq_true (by first | omega | (simp only [List.length_set, sw2_len]; omega)))]
        exact hk (d2, (b : Int) - 1 - ((p : Int) - (a : Int)), 1) ⟨r1.trans k3, b - 1 - (p - a), by show (b : Int) - 1 - ((p : Int) - (a : Int)) = _; omega, by omega, by omega⟩
      | false => rw [c_f]; exact hk (d1, (p : Int), h) ⟨r1, p, rfl, g2, g3⟩
    obtain ⟨d2, v46, v47⟩ := x
    obtain ⟨r2, q, hq, q1, q2⟩ := hx
    have hq : v46 = (q : Int) := hq
    subst hq
    have hld2 : d2.length = N := by rw [r2.len]; exact hd
    refine withK_p (P := fun y => ∃ d', y = some d' ∧ Rg a b d d' ∧ Srt pLt d' a b) (fun x : List PartCount => Rg a b d x) (fun k3 hk => ?_) (fun x hx => ?_)
    · cases (bal && part) && (v47 == (1 : Int)) with
      | true =>
        rw [c_t]
        obtain ⟨d3, f, k1, k2, k4⟩ := pis_ok (n := n) hN hn (a := a) (b := b) (by omega) hb hld2 (hlo.rg r2)
        rw [k1, Option.bind_some, chk_of (decide_eq_true (by rw [k2.len]))]
        cases f with
        | true => exact ⟨d3, rfl, r2.trans k2, k4 rfl⟩
        | false => exact hk d3 (r2.trans k2)
      | false => rw [c_f]; exact hk d2 r2
    exact J3 x q l1 hx q1 q2 h10 h11
theorem pdq_ok {N : Nat} (hN : N ≤ 900) (hn : 1000 < n) : ∀ K, PS N K (loopN (q12k n) K) := by
  intro K
  induction K with
  | zero => intro d a b l _ _ _ h; omega
  | succ K ih =>
    intro d a b l hd hab hb hK hlo h0 h1
    rw [loopN_s, q12k]
    exact pdq_L1 hN hn ih n a b d true true l (by omega) (by omega) hd hab hb hlo h0 h1
def lenOK (l : Nat) : Bool := match q124k 0 (l : Int) with
  | some y => decide (0 ≤ y) && decide (y ≤ 1000)
  | none => false
def lenAll : Nat → Bool
  | 0 => true
  | l + 1 => lenOK l && lenAll l
theorem lenAll_ok : lenAll 901 = true := by kernel_rfl
theorem lenAll_at : ∀ m l, lenAll m = true → l < m → lenOK l = true := by
  intro m
  induction m with
  | zero => intro l h h1; omega
  | succ m ih =>
    intro l h h1
    obtain ⟨g1, g2⟩ : lenOK m = true ∧ lenAll m = true := by simpa [lenAll] using h
    by_cases c : l = m
    · rw [c]; exact g1
    · exact ih l g2 (by omega)
theorem len_ok {l : Nat} (h2 : l ≤ 900) : ∃ y : Int, q124k n (l : Int) = some y ∧ 0 ≤ y ∧ y ≤ 1000 := by
  have h := lenAll_at 901 l lenAll_ok (by omega)
  unfold lenOK at h
  have e : q124k n (l : Int) = q124k 0 (l : Int) := rfl
  rw [e]
  cases g : q124k 0 (l : Int) with
  | none => rw [g] at h; cases h
  | some y =>
    rw [g] at h
    have := Bool.and_eq_true_iff.1 h
    exact ⟨y, rfl, of_decide_eq_true this.1, of_decide_eq_true this.2⟩
theorem sortS_ok (hn : 1000 < n) {d : List PartCount} (hN : d.length ≤ 900) : ∃ d', q33k n d = some d' ∧ d'.Perm d ∧ Srt pLt d' 0 d.length := by
  obtain ⟨y, h1, h2, h3⟩ := len_ok (n := n) hN
  obtain ⟨d', g1, g2, g3⟩ := pdq_ok hN hn n d 0 d.length y rfl (Nat.zero_le _) (Nat.le_refl _) (by omega) (fun q _ _ h => by omega) h2 h3
  unfold q33k
  rw [wrap_u (by omega) (by omega), h1, Option.bind_some]
  have g1' : q89k n d 0 ((d.length : Nat) : Int) y = some d' := g1
  rw [g1', Option.bind_some, chk_of (decide_eq_true (by rw [g2.len]))]
  exact ⟨d', rfl, g2.perm, g3⟩
end
section
set_option maxRecDepth 4000
open Go
variable {n : Nat}
def inL (set : List Str) (s : Str) : Bool := set.any (isS s)
theorem order2_res {t : List Task} (h : OkT t) {set : List Str} (hset : set.length ≤ 900) (hn : 1000 < n) : q112k n t set = some (ordF t (inL set) n []) := by
  have hlen := h.len
  rw [q112k]
  refine order_loop (fun back out hi => ?_) n [] (Inv.nil t) (by simp; omega)
  have hol := hi.len
  rw [q162k]
  have h1 : ∀ s, q50k n s set out = some (inL set s && !out.any (isS s)) := by
    intro s
    rw [q50k, q216k, Contains_eq set s (by omega) (by omega), Contains2_eq out s (by omega) (by omega)]
    simp only [Option.bind_some, gcall_some_, inL]
    cases set.any (isS s) <;> rfl
  have h3 : ∀ l : List Str, l.length ≤ 900 → q46k n l set out = some (l.any fun s => inL set s && !out.any (isS s)) := by
    intro l hl
    rw [q46k, q93k, withK_eq, loop_findI (l := l) (p := fun s => inL set s && !out.any (isS s)) (fun back v hv => ?_) (fun back => ?_) n (by omega)]
    · simp only [Option.bind_some, findI_any]
    · rw [q59k]; simp only [hv, h1, Option.bind_some, decide_true, cond_true, nI_of (by omega : v + 1 ≤ 9223372036854775807), chk_t]
    · rw [q59k]; simp
  have h2 : ∀ x ∈ t, q73k n x set out = some (rdy (inL set) out x) := by
    intro x hx
    rw [q73k, h1, leads_res h hx hn]
    simp only [Option.bind_some, gcall_some_]
    unfold rdy
    cases hb : (inL set x.Name && !out.any (isS x.Name))
    · simp [gcall]
    · simp only [cond_true, h3 (leads x) (by have := leads_len h hx; omega), gcall_some_, Option.bind_some, Bool.true_and]
  have h4 : q75k n t set out = some (findI (rdy (inL set) out) t) := by
    rw [q75k, withK_eq]
    refine loop_findI (fun back v hv => ?_) (fun back => ?_) n (by omega)
    · rw [q84k]; simp only [hv, h2 _ (ix_mem hv), Option.bind_some, decide_true, cond_true, nI_of (by omega : v + 1 ≤ 9223372036854775807), chk_t]
    · rw [q84k]; simp
  rw [h4]
  simp only [Option.bind_some]
  by_cases hf : findI (rdy (inL set) out) t < 0
  · simp [hf]
  · obtain ⟨f1, f2, f3, f4⟩ := findI_pos hf
    simp only [hf, decide_false, cond_false, inB_of f1 f2, chk_t, f2, decide_true]
    rw [chk_of (room_of (by simp; omega) (by simp; omega))]
def Ordd (t : List Task) (inS : Str → Bool) (out : List Str) : Prop := (∀ s ∈ out, inS s = true) ∧ ∀ i, i < out.length → ∀ s ∈ leads (taskOf t (ix out i)), inS s = true → s ∈ out.take i
theorem Ordd.step {t : List Task} (h0 : tasksE n t = 0) {inS : Str → Bool} {out : List Str} (h : Ordd t inS out) {i : Nat} (hi : i < t.length) (hr : rdy inS out (ix t i) = true) : Ordd t inS (out ++ [(ix t i).Name]) := by
  unfold rdy at hr
  simp only [Bool.and_eq_true, Bool.not_eq_true', List.any_eq_false] at hr
  obtain ⟨⟨r1, r2⟩, r3⟩ := hr
  refine ⟨fun s hs => ?_, fun j hj s hs hin => ?_⟩
  · rw [List.mem_append, List.mem_singleton] at hs
    rcases hs with hs | rfl
    · exact h.1 s hs
    · exact r1
  · simp only [List.length_append, List.length_singleton] at hj
    by_cases c : j < out.length
    · have e : ix (out ++ [(ix t i).Name]) j = ix out j := by
        rw [ix_eq (by simp; omega), ix_eq c, List.getElem_append_left c]
      rw [e] at hs
      rw [List.take_append_of_le_length (by omega)]
      exact h.2 j c s hs hin
    · have : j = out.length := by omega
      subst this
      have e : ix (out ++ [(ix t i).Name]) out.length = (ix t i).Name := by
        rw [ix_eq (by simp)]; simp
      rw [e, uniq_of h0 hi] at hs
      have := r3 s hs
      rw [hin] at this
      simp only [Bool.true_and, Bool.not_eq_true', Bool.not_eq_false] at this
      rw [List.take_left']
      · exact any_isS.1 (by simpa using this)
      · rfl
theorem ordF_ordd {t : List Task} (h0 : tasksE n t = 0) {inS : Str → Bool} : ∀ k out, Ordd t inS out → Ordd t inS (ordF t inS k out) := by
  intro k
  induction k with
  | zero => exact fun _ h => h
  | succ k ih =>
    intro out h
    rw [ordF]
    by_cases hh : findI (rdy inS out) t < 0
    · simpa [hh] using h
    · obtain ⟨f1, f2, f3, f4⟩ := findI_pos hh
      simp only [hh, decide_false, cond_false]
      exact ih _ (h.step h0 f2 f3)
theorem Ordd.nil (t : List Task) (inS : Str → Bool) : Ordd t inS [] := ⟨by simp, fun i hi => by simp at hi⟩
theorem Ordd.lead {t : List Task} {inS : Str → Bool} {out : List Str} (h : Ordd t inS out) (hd : out.Nodup) {i : Nat} (hi : i < out.length) {s : Str} (hs : s ∈ leads (taskOf t (ix out i))) : s ∉ out.drop i := fun hm => by
  have h1 := h.2 i hi s hs (h.1 s (List.mem_of_mem_drop hm))
  rw [← List.take_append_drop i out] at hd
  have := (List.nodup_append.1 hd).2.2
  exact this s h1 s hm rfl
end
section
set_option maxRecDepth 4000
open Go
variable {n : Nat}
theorem lookup_put {β : Type} (x : Str) (v : β) (y : Str) : ∀ m : List (Str × β), List.lookup y (mPut x v m) = if y = x then some v else List.lookup y m
  | [] => by
    by_cases h : y = x
    · subst h; simp [mPut, List.lookup]
    · have : (y == x) = false := by rw [beq_eq_false_iff_ne]; exact h
      simp [mPut, List.lookup, h, this]
  | (k, u) :: m => by
    have ih := lookup_put x v y m
    simp only [mPut]
    cases hk : (x == k) with
    | true =>
      have e : x = k := eq_of_beq hk
      subst e
      simp only [List.lookup_cons]
      by_cases h : y = x
      · subst h; simp
      · have : (y == x) = false := by rw [beq_eq_false_iff_ne]; exact h
        simp [this, h]
    | false =>
      simp only [List.lookup_cons, ih]
      by_cases h : y = x
      · subst h; simp [hk]
      · cases (y == k) <;> simp [h]
def lmx (g : Str → Int) (l : List Str) : Nat → Int
  | 0 => 0
  | k + 1 => iMax (lmx g l k) (g (ix l k))
theorem lmx_nn (g : Str → Int) (l : List Str) : ∀ k, 0 ≤ lmx g l k
  | 0 => Int.le_refl _
  | k + 1 => by
    have := lmx_nn g l k
    simp only [lmx, iMax]
    split <;> omega
theorem lmx_le {g : Str → Int} {l : List Str} {b : Int} (hb : 0 ≤ b) (h : ∀ s, g s ≤ b) : ∀ k, lmx g l k ≤ b
  | 0 => hb
  | k + 1 => by
    have h1 := lmx_le (l := l) hb h k
    have h2 := h (ix l k)
    simp only [lmx, iMax]
    split <;> omega
def chG (t : List Task) (L : List Str) : Nat → Str → Int
  | 0, _ => 0
  | v + 1, s => if s = ix L v then lmx (chG t L v) (leads (taskOf t (ix L v))) (leads (taskOf t (ix L v))).length + (taskOf t (ix L v)).Hours else chG t L v s
def hrS (t : List Task) (L : List Str) (v : Nat) : Int := sm (fun i => (taskOf t (ix L i)).Hours) v
def hrM (t : List Task) (L : List Str) : Nat → Int
  | 0 => 0
  | v + 1 => iMax (hrM t L v) (chG t L (v + 1) (ix L v))
theorem hours_of {t : List Task} (h0 : tasksE n t = 0) {x : Str} (hk : t.any (byName x) = true) : 0 ≤ (taskOf t x).Hours ∧ (taskOf t x).Hours ≤ 10000 := by
  obtain ⟨_, k2, _, _⟩ := known_ix hk
  have h := (tasks_zero h0).2 _ k2
  unfold taskE at h
  show 0 ≤ (ix t (findI (byName x) t).toNat).Hours ∧ (ix t (findI (byName x) t).toNat).Hours ≤ 10000
  cases h1 : nameB (ix t (findI (byName x) t).toNat).Name
  · simp [h1] at h
  rw [h1] at h
  simp only [Bool.not_true, cond_false] at h
  by_cases h2 : findI (byName (ix t (findI (byName x) t).toNat).Name) t < ((findI (byName x) t).toNat : Int)
  · rw [decide_eq_true h2] at h; simp at h
  rw [decide_eq_false h2] at h
  simp only [cond_false] at h
  by_cases h3 : 0 ≤ (ix t (findI (byName x) t).toNat).Hours
  · by_cases h4 : (ix t (findI (byName x) t).toNat).Hours ≤ 10000
    · exact ⟨h3, h4⟩
    · rw [decide_eq_false h4] at h; simp at h
  · rw [decide_eq_false h3] at h; simp at h
theorem chG_out {t : List Task} {L : List Str} {s : Str} : ∀ v, v ≤ L.length → s ∉ L.take v → chG t L v s = 0
  | 0, _, _ => rfl
  | v + 1, hv, hs => by
    have h1 : ¬ s = ix L v := fun e => hs ((mem_take_succ (by omega)).2 (.inr e))
    simp only [chG, h1, if_false]
    exact chG_out v (by omega) fun h => hs ((mem_take_succ (by omega)).2 (.inl h))
theorem hr_bounds {t : List Task} (h0 : tasksE n t = 0) {L : List Str} (hk : ∀ s ∈ L, t.any (byName s) = true) : ∀ v, v ≤ L.length → (0 ≤ hrS t L v ∧ hrS t L v ≤ 10000 * (v : Int)) ∧ (∀ s, 0 ≤ chG t L v s ∧ chG t L v s ≤ hrS t L v) ∧ 0 ≤ hrM t L v ∧ hrM t L v ≤ hrS t L v
  | 0, _ => ⟨⟨Int.le_refl _, Int.le_refl _⟩, fun _ => ⟨Int.le_refl _, Int.le_refl _⟩, Int.le_refl _, Int.le_refl _⟩
  | v + 1, hv => by
    obtain ⟨⟨a1, a2⟩, a3, a4, a5⟩ := hr_bounds h0 hk v (by omega)
    obtain ⟨b1, b2⟩ := hours_of h0 (hk _ (ix_mem (show v < L.length by omega)))
    have e : hrS t L (v + 1) = hrS t L v + (taskOf t (ix L v)).Hours := rfl
    have c1 := lmx_nn (chG t L v) (leads (taskOf t (ix L v))) (leads (taskOf t (ix L v))).length
    have c2 := lmx_le (l := leads (taskOf t (ix L v))) a1 (fun s => (a3 s).2) (leads (taskOf t (ix L v))).length
    have key : ∀ s, 0 ≤ chG t L (v + 1) s ∧ chG t L (v + 1) s ≤ hrS t L (v + 1) := fun s => by
      have := a3 s
      simp only [chG]
      split <;> omega
    refine ⟨⟨by omega, by omega⟩, key, ?_⟩
    have := key (ix L v)
    simp only [hrM, iMax]
    split <;> omega
theorem hours_loop {t : List Task} (ok : OkT t) (h0 : tasksE n t = 0) {L : List Str} (hk : ∀ s ∈ L, t.any (byName s) = true) (hL : L.length ≤ 900) (hn : 1000 < n) {e : Int} (kk : Int × Int → Option (Int × Int × Int)) :
    loopN (q110k n t (e, L) kk) n (0, 0, 0, []) = kk (hrS t L L.length, hrM t L L.length) := by
  have hlen := ok.len
  obtain ⟨⟨s1, s2, s3, s4⟩, back, ⟨p1, p2, p3, p4⟩, r⟩ := loop_inv (F := q110k n t (e, L) kk) (len := L.length) (P := fun v st => st.1 = hrS t L v ∧ st.2.1 = hrM t L v ∧ st.2.2.1 = v ∧ ∀ s, Option.getD (List.lookup s st.2.2.2) 0 = chG t L v s) (fun back v st hv hP => by
    obtain ⟨s1, s2, s3, m⟩ := st
    obtain ⟨rfl, rfl, e3, hm⟩ := hP
    simp only at e3 hm hv
    subst e3
    obtain ⟨k1, k2, k3, k4⟩ := known_ix (hk _ (ix_mem hv))
    have hll := leads_len ok k3
    obtain ⟨⟨a1, a2⟩, a3, a4, a5⟩ := hr_bounds h0 hk _ (by omega : s3 ≤ L.length)
    obtain ⟨b1, b2⟩ := hours_of h0 (hk _ (ix_mem hv))
    have c1 := lmx_nn (chG t L s3) (leads (taskOf t (ix L s3))) (leads (taskOf t (ix L s3))).length
    have c2 := lmx_le (l := leads (taskOf t (ix L s3))) a1 (fun s => (a3 s).2) (leads (taskOf t (ix L s3))).length
    refine ⟨(hrS t L (s3 + 1), hrM t L (s3 + 1), s3 + 1, mPut (ix L s3) (lmx (chG t L s3) (leads (taskOf t (ix L s3))) (leads (taskOf t (ix L s3))).length + (taskOf t (ix L s3)).Hours) m), ⟨rfl, rfl, rfl, fun s => ?_⟩, ?_⟩
    · simp only [lookup_put, chG]
      by_cases c : s = ix L s3
      · simp [c]
      · simp only [c, if_false]; exact hm s
    · simp only [q110k, hv, decide_true, cond_true, withK_eq, find_eq t (ix L s3) (by omega : t.length < n) (by omega), Option.bind_some, k1, k2, chk_t]
      rw [show ix t (findI (byName (ix L s3)) t).toNat = taskOf t (ix L s3) from rfl, leads_res ok k3 hn, Option.bind_some]
      refine loop_fold (st := fun v => lmx (chG t L s3) (leads (taskOf t (ix L s3))) v) (len := (leads (taskOf t (ix L s3))).length) (k := back (hrS t L (s3 + 1), hrM t L (s3 + 1), s3 + 1, mPut (ix L s3) (lmx (chG t L s3) (leads (taskOf t (ix L s3))) (leads (taskOf t (ix L s3))).length + (taskOf t (ix L s3)).Hours) m)) (fun back' v' hv' => ?_) (fun back' => ?_) n (by omega) rfl
      · simp only [q195k, hv', decide_true, cond_true, nI_of (by omega : v' + 1 ≤ 9223372036854775807), chk_t, hm, lmx]
      · simp only [q195k, Nat.lt_irrefl, decide_false, cond_false]
        rw [chk_of (inI_of (by omega) (by omega)), chk_of (inI_of (by omega) (by omega)), chk_of (nI_of (by omega)), lookup_put]
        simp only [if_true, Option.getD_some, hrM, chG]
        rfl) n 0 (0, 0, 0, []) (Nat.zero_le _) (by omega) ⟨rfl, rfl, rfl, fun _ => rfl⟩
  simp only at p1 p2 p3
  subst p1 p2 p3
  rw [r]
  simp only [q110k, Nat.lt_irrefl, decide_false, cond_false]
theorem find_inj {t : List Task} {a b : Str} (ha : t.any (byName a) = true) (hb : t.any (byName b) = true) (h : (findI (byName a) t).toNat = (findI (byName b) t).toNat) : a = b := by
  obtain ⟨_, _, _, k4⟩ := known_ix ha
  obtain ⟨_, _, _, j4⟩ := known_ix hb
  unfold taskOf at k4 j4
  rw [h] at k4
  exact k4.symm.trans j4
theorem hours_ref {t : List Task} (ok : OkT t) (h0 : tasksE n t = 0) {set L : List Str} (hset : set.length ≤ 900) (hd : L.Nodup) (ho : Ordd t (inL set) L) (hk : ∀ s ∈ L, t.any (byName s) = true) (hL : L.length ≤ 900) (hn : 1000 < n) (kk : Int × Int → Option (Int × Int)) :
    loopN (q62k n t set L kk) n (0, 0, 0, List.replicate t.length 0) = kk (hrS t L L.length, hrM t L L.length) := by
  have hlen := ok.len
  obtain ⟨⟨s1, s2, s3, s4⟩, back, ⟨p1, p2, p3, p4, p5⟩, r⟩ := loop_inv (F := q62k n t set L kk) (len := L.length) (P := fun v st => st.1 = hrS t L v ∧ st.2.1 = hrM t L v ∧ st.2.2.1 = v ∧ st.2.2.2.length = t.length ∧ ∀ s, t.any (byName s) = true → ix st.2.2.2 (findI (byName s) t).toNat = chG t L v s) (fun back v st hv hP => by
    obtain ⟨s1, s2, s3, c⟩ := st
    obtain ⟨rfl, rfl, e3, hcl, hc⟩ := hP
    simp only at e3 hcl hc hv
    subst e3
    have hkv := hk _ (ix_mem hv)
    obtain ⟨k1, k2, k3, k4⟩ := known_ix hkv
    have hll := leads_len ok k3
    obtain ⟨⟨a1, a2⟩, a3, a4, a5⟩ := hr_bounds h0 hk _ (by omega : s3 ≤ L.length)
    obtain ⟨b1, b2⟩ := hours_of h0 hkv
    have c1 := lmx_nn (chG t L s3) (leads (taskOf t (ix L s3))) (leads (taskOf t (ix L s3))).length
    have c2 := lmx_le (l := leads (taskOf t (ix L s3))) a1 (fun s => (a3 s).2) (leads (taskOf t (ix L s3))).length
    have hlk : ∀ s ∈ leads (taskOf t (ix L s3)), t.any (byName s) = true := fun s hs => lead_known k2 ((tasks_zero h0).2 _ k2) s hs
    have hnt : ix L s3 ∉ L.take s3 := fun hm => by
      rw [← List.take_append_drop s3 L] at hd
      have := (List.nodup_append.1 hd).2.2
      exact this _ hm (ix L s3) (by rw [drop_ix hv]; simp) rfl
    have hz : chG t L s3 (ix L s3) = 0 := chG_out _ (by omega) hnt
    let i := (findI (byName (ix L s3)) t).toNat
    have hi : i < c.length := by rw [hcl]; exact k2
    have hci : ix c i = 0 := by rw [show ix c i = chG t L s3 (ix L s3) from hc _ hkv]; exact hz
    have hset0 : List.set c i 0 = c := by
      have e : c[i] = 0 := by rw [← ix_eq hi]; exact hci
      conv => lhs; rw [← e]
      exact List.set_getElem_self hi
    have fin : ∀ w : Int, ∀ s, t.any (byName s) = true → ix (List.set c i w) (findI (byName s) t).toNat = if s = ix L s3 then w else chG t L s3 s := fun w s hs => by
      rw [ix_set' hi]
      by_cases e : s = ix L s3
      · subst e; simp [i]
      · have : ¬ i = (findI (byName s) t).toNat := fun h => e (find_inj hs hkv h.symm)
        simp only [this, if_false, e]
        exact hc s hs
    refine ⟨(hrS t L (s3 + 1), hrM t L (s3 + 1), s3 + 1, List.set c i (lmx (chG t L s3) (leads (taskOf t (ix L s3))) (leads (taskOf t (ix L s3))).length + (taskOf t (ix L s3)).Hours)), ⟨rfl, rfl, rfl, by simp [hcl], fun s hs => ?_⟩, ?_⟩
    · simp only [chG]; exact fin _ s hs
    · simp only [q62k, hv, decide_true, cond_true, withK_eq, Find_eq t (ix L s3) (by omega : t.length < n) (by omega), Option.bind_some, k1, k2, chk_t]
      rw [show ix t (findI (byName (ix L s3)) t).toNat = taskOf t (ix L s3) from rfl, chk_of (inI_of (by omega) (by omega)), Leads_ref ok k3 hn, Option.bind_some]
      have k1' : inB (findI (byName (ix L s3)) t) c.length = true := by rw [hcl]; exact k1
      refine loop_fold' (st := fun v => List.set c i (lmx (chG t L s3) (leads (taskOf t (ix L s3))) v)) (len := (leads (taskOf t (ix L s3))).length) (k := back (hrS t L (s3 + 1), hrM t L (s3 + 1), s3 + 1, List.set c i (lmx (chG t L s3) (leads (taskOf t (ix L s3))) (leads (taskOf t (ix L s3))).length + (taskOf t (ix L s3)).Hours))) (fun back' v' hv' => ?_) (fun back' => ?_) n (by omega) hset0
      · have hsl : ix (leads (taskOf t (ix L s3))) v' ∈ leads (taskOf t (ix L s3)) := ix_mem hv'
        have hks := hlk _ hsl
        obtain ⟨j1, j2, _, _⟩ := known_ix hks
        simp only [q135k, hv', decide_true, cond_true, withK_eq, HasText_eq set (ix (leads (taskOf t (ix L s3))) v') (by omega : set.length < n) (by omega), Option.bind_some]
        have hw := lmx_nn (chG t L s3) (leads (taskOf t (ix L s3))) v'
        cases hin : set.any (isS (ix (leads (taskOf t (ix L s3))) v')) with
        | false =>
          simp only [cond_false]
          rw [chk_of (nI_of (by omega))]
          have hno : ix (leads (taskOf t (ix L s3))) v' ∉ L.take s3 := fun hm => by
            have := ho.1 _ (List.mem_of_mem_take hm)
            unfold inL at this
            rw [hin] at this; cases this
          have : lmx (chG t L s3) (leads (taskOf t (ix L s3))) (v' + 1) = lmx (chG t L s3) (leads (taskOf t (ix L s3))) v' := by
            simp only [lmx, chG_out _ (by omega : s3 ≤ L.length) hno, iMax]
            split <;> omega
          rw [this]
        | true =>
          simp only [cond_true, Find_eq t (ix (leads (taskOf t (ix L s3))) v') (by omega : t.length < n) (by omega), Option.bind_some, List.length_set, k1', hcl, j1, j2, k2, decide_true, chk_t]
          have hbef := ho.2 s3 hv _ hsl hin
          have hne : ¬ ix (leads (taskOf t (ix L s3))) v' = ix L s3 := fun e => hnt (by rw [← e]; exact hbef)
          rw [chk_of (by rw [hcl] at k1'; exact k1'), chk_of (nI_of (by omega)), fin _ _ hks, if_neg hne]
          show back' (v' + 1, List.set (List.set c i (lmx (chG t L s3) (leads (taskOf t (ix L s3))) v')) i (iMax (ix (List.set c i (lmx (chG t L s3) (leads (taskOf t (ix L s3))) v')) i) (chG t L s3 (ix (leads (taskOf t (ix L s3))) v')))) = _
          rw [ix_set' hi, if_pos rfl, List.set_set]
          rfl
      · simp only [q135k, Nat.lt_irrefl, decide_false, cond_false, List.length_set, k1', hcl, k2, decide_true, chk_t]
        have e1 : ix (List.set c i (lmx (chG t L s3) (leads (taskOf t (ix L s3))) (leads (taskOf t (ix L s3))).length)) (findI (byName (ix L s3)) t).toNat = lmx (chG t L s3) (leads (taskOf t (ix L s3))) (leads (taskOf t (ix L s3))).length := by
          rw [fin _ _ hkv, if_pos rfl]
        rw [e1, chk_of (by rw [hcl] at k1'; exact k1'), chk_of (inI_of (by omega) (by omega)), chk_of (nI_of (by omega))]
        show back (_, iMax _ (ix (List.set (List.set c i _) i _) i), _, List.set (List.set c i _) i _) = _
        rw [List.set_set, ix_set' hi, if_pos rfl]
        simp only [hrM, chG, if_true]
        rfl) n 0 (0, 0, 0, List.replicate t.length 0) (Nat.zero_le _) (by omega) ⟨rfl, rfl, rfl, by simp, fun s hs => by
      obtain ⟨_, k2, _, _⟩ := known_ix hs
      rw [ix_eq (by simpa using k2)]; simp [chG]⟩
  simp only at p1 p2 p3
  subst p1 p2 p3
  rw [r]
  simp only [q62k, Nat.lt_irrefl, decide_false, cond_false]
end
section
set_option maxRecDepth 4000
open Go
variable {n : Nat}
theorem keys_put (p : Str) (v : Int) : ∀ m : List (Str × Int), (mPut p v m).map Prod.fst = if p ∈ m.map Prod.fst then m.map Prod.fst else m.map Prod.fst ++ [p]
  | [] => by simp [mPut]
  | (k, u) :: m => by
    have ih := keys_put p v m
    simp only [mPut]
    cases h : (p == k) with
    | true =>
      have : p = k := eq_of_beq h
      subst this
      simp
    | false =>
      have hne : p ≠ k := by rintro rfl; simp at h
      simp only [List.map_cons, ih, List.mem_cons, hne, false_or]
      by_cases c : p ∈ m.map Prod.fst <;> simp [c]
theorem rngP_loop {ks : List PartCount} (hl : ks.length ≤ 900) {k2 : List PartCount → Option (Int × List PartCount)} {r : Int × List PartCount} (hk : ∀ out, out.Perm ks → k2 out = some r) : ∀ m out cur left, left.length < m → (out ++ left.map fun x : Str × Int => PartCount.mk x.1 x.2).Perm ks → loopN (q148k k2) m (out, cur, left) = some r := by
  intro m
  induction m with
  | zero => intro out cur left h; omega
  | succ m ih =>
    intro out cur left hm hp
    rw [loopN_s]
    simp only [q148k]
    cases left with
    | nil =>
      simp only [List.length_nil, decide_true, cond_true]
      exact hk out (by simpa using hp)
    | cons x0 rest =>
      simp only [List.length_cons, show ¬ rest.length + 1 = 0 by omega, decide_false, cond_false]
      refine pickK_of (by simp) fun j x hj => ?_
      have hpl := hp.length_eq
      simp only [List.length_append, List.length_map, List.length_cons] at hpl
      rw [chk_of (room_of (by simp; omega) (by simp; omega))]
      have hjl : j < (x0 :: rest).length := (List.getElem?_eq_some_iff.1 hj).1
      refine ih _ _ _ (by rw [List.length_eraseIdx_of_lt hjl]; simp only [List.length_cons] at hm ⊢; omega) (List.Perm.trans ?_ hp)
      rw [List.append_assoc]
      refine List.Perm.append_left out ?_
      have := (erase_perm _ _ _ hj).map fun x : Str × Int => PartCount.mk x.1 x.2
      simpa using this
theorem sorted_one {d d' : List PartCount} (h1 : Asc (d.map fun x => x.Part)) (h2 : Asc (d'.map fun x => x.Part)) (hp : d.Perm d') : d = d' := by
  have hm : d.map (fun x => x.Part) = d'.map fun x => x.Part := h1.ext h2 fun s => (hp.map _).mem_iff
  have hl := hp.length_eq
  refine List.ext_getElem hl fun i hi hi' => ?_
  obtain ⟨j, hj, e⟩ := List.getElem_of_mem (hp.mem_iff.1 (List.getElem_mem hi))
  have e1 : (d.map fun x => x.Part)[i]'(by simpa using hi) = (d'.map fun x => x.Part)[i]'(by simpa using hi') := by simp only [hm]
  simp only [List.getElem_map] at e1
  have : j = i := by
    have := (List.getElem_inj h2.nodup (i := j) (j := i) (h₀ := by simpa using hj) (h₁ := by simpa using hi')).1 (by simp only [List.getElem_map]; rw [e, e1])
    exact this
  subst this
  exact e.symm
theorem put_same {l : List Str} {s : Str} (ha : Asc l) (hs : s ∈ l) (hl : l.length ≤ 900) (hn : 1000 < n) : q87k n l s = some l := by
  obtain ⟨p, hp, hps⟩ := mem_ix.1 hs
  rw [q87k]
  simp only [withK_eq]
  have hlt : ∀ v w, v < w → w < l.length → bLt (ix l v) (ix l w) = true := fun v w h1 h2 => by
    have := List.pairwise_iff_getElem.1 ha v w (by omega) h2 h1
    rw [ix_eq (by omega), ix_eq h2]; exact this
  refine (loop_through (st := fun v => (l.take v, decide (p < v), v)) (len := l.length) (k := some l) (fun back v hv => ?_) (fun back => ?_) n (by omega) : loopN _ n (l.take 0, decide (p < 0), 0) = some l)
  · simp only [q41k, hv, decide_true, cond_true, withK_eq]
    have ht : l.take (v + 1) = l.take v ++ [ix l v] := by rw [List.take_succ_eq_append_getElem hv, ix_eq hv]
    have hr : chk (room 16 (l.take v ++ ([ix l v] : List Str)).length) (chk (nI (v + 1)) (back (l.take v ++ ([ix l v] : List Str), decide (p < v + 1), v + 1))) = back (l.take (v + 1), decide (p < v + 1), v + 1) := by
      rw [chk_of (room_of (by simp; omega) (by simp; omega)), chk_of (nI_of (by omega)), ht]
    by_cases c1 : p < v
    · have c2 : p < v + 1 := by omega
      simp only [c1, decide_true, Bool.not_true, Bool.false_and, cond_false]
      rw [show decide (p < v + 1) = true from decide_eq_true c2] at hr ⊢
      exact hr
    · simp only [c1, decide_false, Bool.not_false, Bool.true_and]
      by_cases c2 : p = v
      · subst c2
        rw [hps, bLt_irr, BEq.rfl]
        simp only [Bool.not_false, cond_true, Bool.not_true, cond_false]
        rw [hps] at hr
        rw [show decide (p < p + 1) = true from decide_eq_true (by omega)] at hr ⊢
        exact hr
      · have := hlt v p (by omega) hp
        rw [hps] at this
        rw [this]
        simp only [Bool.not_true, cond_false]
        rw [show decide (p < v + 1) = false from decide_eq_false (by omega)] at hr ⊢
        exact hr
  · simp only [q41k, Nat.lt_irrefl, decide_false, cond_false, List.take_length, hp, decide_true, Bool.not_true]
theorem put_any {l : List Str} {s : Str} (ha : Asc l) (hl : l.length ≤ 900) (hn : 1000 < n) : ∃ d, q87k n l s = some d ∧ Asc d ∧ (∀ x, x ∈ d ↔ x ∈ l ∨ x = s) ∧ d.length ≤ l.length + 1 := by
  by_cases hs : s ∈ l
  · exact ⟨l, put_same ha hs hl hn, ha, fun x => ⟨.inl, fun h => by rcases h with h | h; exact h; exact h ▸ hs⟩, by omega⟩
  · obtain ⟨d, h1, h2, h3, h4⟩ := put_spec (n := n) ha hs hl hn
    exact ⟨d, h1, h2, h3, by omega⟩
theorem sortC {l : List PartCount} (hl : l.length ≤ 900) (hnm : (l.map fun x => x.Part).Nodup) (hn : 1000 < n) : ∃ d, q33k n l = some d ∧ d.Perm l ∧ Asc (d.map fun x => x.Part) := by
  obtain ⟨d, h1, h2, h3⟩ := sortS_ok hn hl
  refine ⟨d, h1, h2, ?_⟩
  have hdl := h2.length_eq
  have hnd : (d.map fun x => x.Part).Nodup := (h2.map _).nodup_iff.2 hnm
  unfold Asc
  rw [List.pairwise_iff_getElem]
  intro i j hi hj hij
  simp only [List.length_map] at hi hj
  have h4 := h3 i j (Nat.zero_le _) hij (by omega)
  simp only [pLt] at h4
  rw [ix_eq hi, ix_eq hj] at h4
  simp only [List.getElem_map]
  rcases bLt_tri d[i].Part d[j].Part with c | c | c
  · exact c
  · exfalso
    have := (List.getElem_inj hnd (i := i) (j := j) (h₀ := by simpa using hi) (h₁ := by simpa using hj)).1 (by simpa using c)
    omega
  · rw [h4] at c; cases c
def pcs (p : List PartCount) (x : Str) (k : Nat) : Int := sm (fun i => if (ix p i).Part = x then (ix p i).Count else 0) k
def tot (t : List Task) (l : List Str) (x : Str) (v : Nat) : Int := sm (fun i => pcs (taskOf t (ix l i)).Parts x (taskOf t (ix l i)).Parts.length) v
theorem sm_zero {f : Nat → Int} : ∀ k, (∀ i, i < k → f i = 0) → sm f k = 0
  | 0, _ => rfl
  | k + 1, h => by rw [sm, sm_zero k fun i hi => h i (by omega), h k (by omega)]; rfl
theorem sm_one {f : Nat → Int} {j : Nat} : ∀ k, j < k → (∀ i, i < k → i ≠ j → f i = 0) → sm f k = f j
  | 0, hj, _ => by omega
  | k + 1, hj, h => by
    rw [sm]
    by_cases e : j = k
    · subst e
      rw [sm_zero j fun i hi => h i (by omega) (by omega)]; omega
    · rw [sm_one k (by omega) fun i hi hne => h i (by omega) hne, h k (by omega) (Ne.symm e)]; omega
structure PtOk (p : List PartCount) : Prop where
  len : p.length ≤ 10
  cnt : ∀ i, i < p.length → 1 ≤ (ix p i).Count ∧ (ix p i).Count ≤ 1000
  nam : ∀ i, i < p.length → nameB (ix p i).Part = true
  inj : ∀ i j, i < p.length → j < p.length → (ix p i).Part = (ix p j).Part → i = j
theorem parts_ok {t : List Task} (h0 : tasksE n t = 0) {x : Str} (hk : t.any (byName x) = true) : PtOk (taskOf t x).Parts := by
  obtain ⟨_, k2, _, _⟩ := known_ix hk
  have hE := (tasks_zero h0).2 _ k2
  have h : (taskOf t x).Parts.length ≤ 10 ∧ cnts (taskOf t x).Parts 1000 = 0 := by
    show (ix t (findI (byName x) t).toNat).Parts.length ≤ 10 ∧ cnts (ix t (findI (byName x) t).toNat).Parts 1000 = 0
    generalize (findI (byName x) t).toNat = i at hE
    unfold taskE at hE
    cases h1 : nameB (ix t i).Name
    · simp [h1] at hE
    rw [h1] at hE
    simp only [Bool.not_true, cond_false] at hE
    by_cases h2 : findI (byName (ix t i).Name) t < (i : Int)
    · rw [decide_eq_true h2] at hE; simp at hE
    rw [decide_eq_false h2] at hE
    simp only [cond_false] at hE
    cases h3 : (!((decide (0 ≤ (ix t i).Cents)) && (decide ((ix t i).Cents ≤ 1000000000)))) || (!((decide (0 ≤ (ix t i).Hours)) && (decide ((ix t i).Hours ≤ 10000))))
    · rw [h3] at hE
      simp only [cond_false] at hE
      cases h4 : large (ix t i)
      · rw [h4] at hE
        simp only [cond_false] at hE
        by_cases h5 : known t (ix t i).Needs = 0
        · rw [h5] at hE
          simp only [bne_self_eq_false, cond_false] at hE
          by_cases h6 : firstE (grpE t (ix t i).OneOf) 0 (ix t i).OneOf.length = 0
          · rw [h6] at hE
            simp only [bne_self_eq_false, cond_false] at hE
            refine ⟨?_, hE⟩
            unfold large at h4
            simp only [Bool.or_eq_false_iff, decide_eq_false_iff_not] at h4
            omega
          · rw [bne_t h6] at hE; exact absurd hE h6
        · rw [bne_t h5] at hE; exact absurd hE h5
      · rw [h4] at hE; simp at hE
    · rw [h3] at hE; simp at hE
  obtain ⟨hl, hc⟩ := h
  have hv : ∀ i, i < (taskOf t x).Parts.length → nameB (ix (taskOf t x).Parts i).Part = true ∧ ((taskOf t x).Parts.take i).any (byPartC (ix (taskOf t x).Parts i).Part) = false ∧ 1 ≤ (ix (taskOf t x).Parts i).Count ∧ (ix (taskOf t x).Parts i).Count ≤ 1000 := fun i hi => by
    have h1 := firstE_zero hc i (by omega) (by omega)
    unfold cntE at h1
    cases a1 : nameB (ix (taskOf t x).Parts i).Part
    · rw [a1] at h1; simp at h1
    rw [a1] at h1
    cases a2 : ((taskOf t x).Parts.take i).any (byPartC (ix (taskOf t x).Parts i).Part)
    · rw [a2] at h1
      simp only [Bool.not_true, cond_false] at h1
      by_cases a3 : 1 ≤ (ix (taskOf t x).Parts i).Count
      · by_cases a4 : (ix (taskOf t x).Parts i).Count ≤ 1000
        · exact ⟨rfl, rfl, a3, a4⟩
        · rw [decide_eq_false a4] at h1; simp at h1
      · rw [decide_eq_false a3] at h1; simp at h1
    · rw [a2] at h1; simp at h1
  have key : ∀ i j, i < j → j < (taskOf t x).Parts.length → (ix (taskOf t x).Parts i).Part ≠ (ix (taskOf t x).Parts j).Part := fun i j h1 h2 e => by
    have := (hv j h2).2.1
    rw [List.any_eq_false] at this
    refine this (ix (taskOf t x).Parts i) ?_ (by simp [byPartC, e])
    have hi : i < ((taskOf t x).Parts.take j).length := by simp; omega
    rw [← ix_take h1 (by omega : i < (taskOf t x).Parts.length)]
    exact ix_mem hi
  refine ⟨hl, fun i hi => (hv i hi).2.2, fun i hi => (hv i hi).1, fun i j hi hj e => ?_⟩
  rcases Nat.lt_trichotomy i j with c | c | c
  · exact absurd e (key i j c hj)
  · exact c
  · exact absurd e.symm (key j i c hi)
theorem pcs_one {p : List PartCount} (h : PtOk p) {x : Str} {j : Nat} (hj : j < p.length) (e : (ix p j).Part = x) : pcs p x p.length = (ix p j).Count := by
  unfold pcs
  rw [sm_one (j := j) _ hj fun i hi hne => ?_, if_pos e]
  rw [if_neg]
  intro c
  exact hne (h.inj i j hi hj (c.trans e.symm))
theorem pcs_find {p : List PartCount} (h : PtOk p) (x : Str) : pcs p x p.length = if findI (byPartC x) p < 0 then 0 else (ix p (findI (byPartC x) p).toNat).Count := by
  by_cases c : findI (byPartC x) p < 0
  · rw [if_pos c]
    unfold pcs
    refine sm_zero _ fun i hi => ?_
    rw [if_neg]
    intro e
    have h1 := findI_any (byPartC x) p
    rw [decide_eq_false (by omega)] at h1
    have := List.any_eq_false.1 h1.symm _ (ix_mem hi)
    simp [byPartC, e] at this
  · obtain ⟨f1, f2, f3, f4⟩ := findI_pos c
    rw [if_neg c]
    exact pcs_one h f2 (by simpa [byPartC] using f3)
theorem pcs_bounds {p : List PartCount} (h : PtOk p) (x : Str) : ∀ k, k ≤ p.length → 0 ≤ pcs p x k ∧ pcs p x k ≤ 1000 * (k : Int)
  | 0, _ => ⟨Int.le_refl _, Int.le_refl _⟩
  | k + 1, hk => by
    obtain ⟨a, b⟩ := pcs_bounds h x k (by omega)
    obtain ⟨c1, c2⟩ := h.cnt k (by omega)
    show 0 ≤ pcs p x k + (if (ix p k).Part = x then (ix p k).Count else 0) ∧ pcs p x k + (if (ix p k).Part = x then (ix p k).Count else 0) ≤ _
    split <;> constructor <;> omega
theorem tot_bounds {t : List Task} (h0 : tasksE n t = 0) {l : List Str} (hk : Kn t l) (x : Str) : ∀ v, v ≤ l.length → 0 ≤ tot t l x v ∧ tot t l x v ≤ 10000 * (v : Int)
  | 0, _ => ⟨Int.le_refl _, Int.le_refl _⟩
  | v + 1, hv => by
    obtain ⟨a, b⟩ := tot_bounds h0 hk x v (by omega)
    have hp := parts_ok h0 (hk _ (ix_mem (show v < l.length by omega)))
    obtain ⟨c1, c2⟩ := pcs_bounds hp x _ (Nat.le_refl _)
    have := hp.len
    show 0 ≤ tot t l x v + pcs _ x _ ∧ tot t l x v + pcs _ x _ ≤ _
    constructor <;> omega
end
section
set_option maxRecDepth 4000
open Go
variable {n : Nat}
structure Cm (t : List Task) (l : List Str) (v k : Nat) (m : List (Str × Int)) : Prop where
  nd : (m.map Prod.fst).Nodup
  kn : ∀ x, x ∈ m.map Prod.fst ↔ (∃ i, i < v ∧ ∃ q, q < (taskOf t (ix l i)).Parts.length ∧ (ix (taskOf t (ix l i)).Parts q).Part = x) ∨ ∃ q, q < k ∧ (ix (taskOf t (ix l v)).Parts q).Part = x
  vl : ∀ x, Option.getD (List.lookup x m) 0 = tot t l x v + pcs (taskOf t (ix l v)).Parts x k
  len : m.length ≤ 10 * v + k
theorem Cm.put {t : List Task} {l : List Str} {v k : Nat} {m : List (Str × Int)} (h : Cm t l v k m) : Cm t l v (k + 1) (mPut (ix (taskOf t (ix l v)).Parts k).Part (Option.getD (List.lookup (ix (taskOf t (ix l v)).Parts k).Part m) 0 + (ix (taskOf t (ix l v)).Parts k).Count) m) := by
  have hk := keys_put (ix (taskOf t (ix l v)).Parts k).Part (Option.getD (List.lookup (ix (taskOf t (ix l v)).Parts k).Part m) 0 + (ix (taskOf t (ix l v)).Parts k).Count) m
  refine ⟨?_, fun x => ?_, fun x => ?_, ?_⟩
  · rw [hk]
    by_cases c : (ix (taskOf t (ix l v)).Parts k).Part ∈ m.map Prod.fst
    · rw [if_pos c]; exact h.nd
    · rw [if_neg c, List.nodup_append]
      refine ⟨h.nd, by simp, fun a ha b hb => ?_⟩
      rw [List.mem_singleton.1 hb]
      rintro rfl; exact c ha
  · have e : x ∈ (mPut (ix (taskOf t (ix l v)).Parts k).Part (Option.getD (List.lookup (ix (taskOf t (ix l v)).Parts k).Part m) 0 + (ix (taskOf t (ix l v)).Parts k).Count) m).map Prod.fst ↔ x ∈ m.map Prod.fst ∨ x = (ix (taskOf t (ix l v)).Parts k).Part := by
      rw [hk]
      by_cases c : (ix (taskOf t (ix l v)).Parts k).Part ∈ m.map Prod.fst
      · rw [if_pos c]
        exact ⟨.inl, fun g => g.elim id fun g => g ▸ c⟩
      · rw [if_neg c, List.mem_append, List.mem_singleton]
    rw [e, h.kn]
    constructor
    · rintro ((a | ⟨q, a, b⟩) | a)
      · exact .inl a
      · exact .inr ⟨q, by omega, b⟩
      · exact .inr ⟨k, by omega, a.symm⟩
    · rintro (a | ⟨q, a, b⟩)
      · exact .inl (.inl a)
      · by_cases c : q = k
        · subst c; exact .inr b.symm
        · exact .inl (.inr ⟨q, by omega, b⟩)
  · rw [lookup_put]
    have e : pcs (taskOf t (ix l v)).Parts x (k + 1) = pcs (taskOf t (ix l v)).Parts x k + (if (ix (taskOf t (ix l v)).Parts k).Part = x then (ix (taskOf t (ix l v)).Parts k).Count else 0) := rfl
    rw [e]
    by_cases c : x = (ix (taskOf t (ix l v)).Parts k).Part
    · rw [if_pos c, if_pos c.symm, Option.getD_some, ← c, h.vl]; omega
    · rw [if_neg c, if_neg (Ne.symm c), h.vl]; omega
  · have := congrArg List.length hk
    rw [List.length_map] at this
    rw [this]
    have hl := h.len
    split
    · rw [List.length_map]; omega
    · rw [List.length_append, List.length_map, List.length_singleton]; omega
theorem Cm.next {t : List Task} {l : List Str} {v : Nat} {m : List (Str × Int)} (h : Cm t l v (taskOf t (ix l v)).Parts.length m) (hl : (taskOf t (ix l v)).Parts.length ≤ 10) : Cm t l (v + 1) 0 m := by
  refine ⟨h.nd, fun x => ?_, fun x => ?_, by have := h.len; omega⟩
  · rw [h.kn]
    constructor
    · rintro (⟨i, a, b⟩ | ⟨q, a, b⟩)
      · exact .inl ⟨i, by omega, b⟩
      · exact .inl ⟨v, by omega, q, a, b⟩
    · rintro (⟨i, a, b⟩ | ⟨q, a, b⟩)
      · by_cases c : i = v
        · subst c; exact .inr b
        · exact .inl ⟨i, by omega, b⟩
      · omega
  · rw [h.vl]
    show _ = tot t l x v + pcs _ x _ + 0
    omega
def needP (t : List Task) (l : List Str) (x : Str) : Prop := ∃ i, i < l.length ∧ ∃ q, q < (taskOf t (ix l i)).Parts.length ∧ (ix (taskOf t (ix l i)).Parts q).Part = x
def partL (t : List Task) (l nm : List Str) : List PartCount := nm.map fun x => PartCount.mk x (tot t l x l.length)
theorem lookup_some {m : List (Str × Int)} (h : (m.map Prod.fst).Nodup) {x : Str × Int} (hx : x ∈ m) : List.lookup x.1 m = some x.2 := by
  induction m with
  | nil => cases hx
  | cons y m ih =>
    obtain ⟨k, u⟩ := y
    simp only [List.map_cons, List.nodup_cons] at h
    rw [List.lookup_cons]
    rcases List.mem_cons.1 hx with e | e
    · subst e; simp
    · have hne : x.1 ≠ k := fun c => h.1 (c ▸ List.mem_map_of_mem e)
      have : (x.1 == k) = false := by rw [beq_eq_false_iff_ne]; exact hne
      rw [this]
      exact ih h.2 e
theorem partsOf_res {t : List Task} {l nm : List Str} (ht : OkT t) (h0 : tasksE n t = 0) (hl : setE t l = 0) (hll : l.length ≤ 63) (hn : 1000 < n) (ha : Asc nm) (hnm : ∀ x, x ∈ nm ↔ needP t l x) : q129k n t l = some (0, partL t l nm) := by
  have hlen := ht.len
  have hk := (set_ok hl).1
  rw [q129k, sets_res ht (by simp) (by simp only [List.mem_cons, List.mem_nil_iff, or_false]; rintro x rfl; omega) hn, h0]
  have e : firstE (fun v => setE t (ix [l] v)) 0 [l].length = 0 := by
    show (bif setE t l != 0 then setE t l else 0) = 0
    rw [hl]; rfl
  simp only [bne_self_eq_false, cond_false, e, Option.bind_some, withK_eq]
  obtain ⟨⟨s2, m⟩, back2, ⟨e3, p1⟩, r2⟩ := loop_inv (F := q147k n t l fun v12 => loopN (q148k fun v20 => (q33k n v20).bind fun y21 => chk (decide (v20.length = y21.length)) <| some (0, y21)) n ([], none, v12)) (len := l.length) (P := fun v st => st.1 = v ∧ Cm t l v 0 st.2) (fun back v st hv hP => by
    obtain ⟨s, m⟩ := st
    obtain ⟨e, hC⟩ := hP
    simp only at e hC
    subst e
    have hkv := hk _ (ix_mem hv)
    obtain ⟨k1, k2, k3, k4⟩ := known_ix hkv
    have hp := parts_ok h0 hkv
    have hpl := hp.len
    simp only [q147k, hv, decide_true, cond_true, withK_eq, find_eq t (ix l s) (by omega : t.length < n) (by omega), Option.bind_some, k1, k2, chk_t]
    obtain ⟨⟨s3, m3⟩, back3, ⟨e4, q1⟩, r3⟩ := loop_inv (F := q146k t (findI (byName (ix l s)) t) fun v11 => chk (nI (s + 1)) (back (s + 1, v11))) (len := (taskOf t (ix l s)).Parts.length) (P := fun k st => st.1 = k ∧ Cm t l s k st.2) (fun back' k st hk' hP' => by
      obtain ⟨k', m'⟩ := st
      obtain ⟨e', hC'⟩ := hP'
      simp only at e' hC'
      subst e'
      refine ⟨(k' + 1, _), ⟨rfl, hC'.put⟩, ?_⟩
      have b1 := tot_bounds h0 hk (ix (taskOf t (ix l s)).Parts k').Part s (by omega)
      have b2 := pcs_bounds hp (ix (taskOf t (ix l s)).Parts k').Part k' (by omega)
      have b3 := hp.cnt k' hk'
      have b4 := hC'.vl (ix (taskOf t (ix l s)).Parts k').Part
      simp only [q146k]
      rw [show ix t (findI (byName (ix l s)) t).toNat = taskOf t (ix l s) from rfl, decide_eq_true hk']
      simp only [cond_true, chk_t]
      rw [chk_of (inI_of (by omega) (by omega)), chk_of (nI_of (by omega))]) n 0 (0, m) (Nat.zero_le _) (by omega) ⟨rfl, hC⟩
    simp only at e4 q1
    subst e4
    refine ⟨(s + 1, m3), ⟨rfl, q1.next hpl⟩, ?_⟩
    rw [r3]
    simp only [q146k]
    rw [show ix t (findI (byName (ix l s)) t).toNat = taskOf t (ix l s) from rfl, decide_eq_false (Nat.lt_irrefl _)]
    simp only [cond_false]
    rw [chk_of (nI_of (by omega))]) n 0 (0, []) (by omega) (by omega) ⟨rfl, ⟨List.nodup_nil, fun x => by simp, fun x => rfl, by simp⟩⟩
  simp only at e3 p1
  subst e3
  rw [r2]
  have hml := p1.len
  have hks : ((m.map fun x : Str × Int => PartCount.mk x.1 x.2).map fun x => x.Part).Nodup := by
    rw [List.map_map]; exact p1.nd
  obtain ⟨d, g1, g2, g3⟩ := sortC (n := n) (l := m.map fun x : Str × Int => PartCount.mk x.1 x.2) (by simp; omega) hks hn
  have hd : d = partL t l nm := by
    have hmem : ∀ p ∈ d, p.Count = tot t l p.Part l.length := fun p hp => by
      obtain ⟨x, hx, rfl⟩ := List.mem_map.1 (g2.mem_iff.1 hp)
      have := lookup_some p1.nd hx
      have h2 := p1.vl x.1
      rw [this] at h2
      simp only [Option.getD_some] at h2
      rw [h2]
      show tot t l x.1 l.length + 0 = tot t l x.1 l.length
      omega
    have hnames : d.map (fun x => x.Part) = nm := g3.ext ha fun x => by
      rw [(g2.map _).mem_iff, List.map_map]
      show x ∈ m.map Prod.fst ↔ _
      rw [p1.kn, hnm]
      constructor
      · rintro (a | ⟨q, a, _⟩)
        · exact a
        · omega
      · exact .inl
    rw [partL, ← hnames, List.map_map]
    refine (List.map_id' d).symm.trans (List.map_congr_left fun p hp => ?_)
    show p = PartCount.mk p.Part (tot t l p.Part l.length)
    rw [← hmem p hp]
  simp only [q147k, Nat.lt_irrefl, decide_false, cond_false]
  refine rngP_loop (ks := m.map fun x : Str × Int => PartCount.mk x.1 x.2) (by simp; omega) (fun out hp => ?_) n _ _ _ (by omega) (by simp)
  have hol : out.length ≤ 900 := by rw [hp.length_eq]; simp; omega
  obtain ⟨d', q1, q2, q3⟩ := sortC (n := n) (l := out) hol ((hp.map _).nodup_iff.2 hks) hn
  have : d' = d := sorted_one q3 g3 (q2.trans (hp.trans g2.symm))
  subst this
  rw [q1, Option.bind_some, chk_of (decide_eq_true q2.length_eq.symm), hd]
theorem partsOf_ref {t : List Task} {l : List Str} (ht : OkT t) (h0 : tasksE n t = 0) (hl : setE t l = 0) (hll : l.length ≤ 63) (hn : 1000 < n) : ∃ nm, Asc nm ∧ nm.length ≤ 630 ∧ (∀ x, x ∈ nm ↔ needP t l x) ∧ q109k n t l = some (partL t l nm) := by
  have hlen := ht.len
  have hk := (set_ok hl).1
  rw [q109k]
  simp only [withK_eq]
  obtain ⟨⟨nm, s2⟩, back2, ⟨e3, p1, p2, p3⟩, r2⟩ := loop_inv (F := q70k n t l fun v15 => loopN (q71k n t l v15 fun v36 => some v36) n ([], 0)) (len := l.length) (P := fun v st => st.2 = v ∧ Asc st.1 ∧ st.1.length ≤ 10 * v ∧ ∀ x, x ∈ st.1 ↔ ∃ i, i < v ∧ ∃ q, q < (taskOf t (ix l i)).Parts.length ∧ (ix (taskOf t (ix l i)).Parts q).Part = x) (fun back v st hv hP => by
    obtain ⟨nm, s⟩ := st
    obtain ⟨e, hA, hL, hM⟩ := hP
    simp only at e hA hL hM
    subst e
    have hkv := hk _ (ix_mem hv)
    obtain ⟨k1, k2, k3, k4⟩ := known_ix hkv
    have hp := parts_ok h0 hkv
    have hpl := hp.len
    simp only [q70k, hv, decide_true, cond_true, withK_eq, Find_eq t (ix l s) (by omega : t.length < n) (by omega), Option.bind_some, k1, k2, chk_t]
    obtain ⟨⟨nm3, s3⟩, back3, ⟨e4, q1, q2, q3⟩, r3⟩ := loop_inv (F := q69k n t (findI (byName (ix l s)) t) fun v14 => chk (nI (s + 1)) (back (v14, s + 1))) (len := (taskOf t (ix l s)).Parts.length) (P := fun k st => st.2 = k ∧ Asc st.1 ∧ st.1.length ≤ 10 * s + k ∧ ∀ x, x ∈ st.1 ↔ x ∈ nm ∨ ∃ q, q < k ∧ (ix (taskOf t (ix l s)).Parts q).Part = x) (fun back' k st hk' hP' => by
      obtain ⟨nm', k'⟩ := st
      obtain ⟨e', hA', hL', hM'⟩ := hP'
      simp only at e' hA' hL' hM'
      subst e'
      obtain ⟨d, d1, d2, d3, d4⟩ := put_any (n := n) (s := (ix (taskOf t (ix l s)).Parts k').Part) hA' (by omega) hn
      refine ⟨(d, k' + 1), ⟨rfl, d2, by show d.length ≤ _; omega, fun x => ?_⟩, ?_⟩
      · show x ∈ d ↔ _
        rw [d3, hM']
        constructor
        · rintro ((a | ⟨q, a, b⟩) | a)
          · exact .inl a
          · exact .inr ⟨q, by omega, b⟩
          · exact .inr ⟨k', by omega, a.symm⟩
        · rintro (a | ⟨q, a, b⟩)
          · exact .inl (.inl a)
          · by_cases c : q = k'
            · subst c; exact .inr b.symm
            · exact .inl (.inr ⟨q, by omega, b⟩)
      · simp only [q69k]
        rw [show ix t (findI (byName (ix l s)) t).toNat = taskOf t (ix l s) from rfl, decide_eq_true hk']
        simp only [cond_true, chk_t, d1, Option.bind_some]
        rw [chk_of (nI_of (by omega))]) n 0 (nm, 0) (Nat.zero_le _) (by omega) ⟨rfl, hA, by simpa using hL, fun x => by simp⟩
    simp only at e4 q1 q2 q3
    subst e4
    refine ⟨(nm3, s + 1), ⟨rfl, q1, by show nm3.length ≤ _; omega, fun x => ?_⟩, ?_⟩
    · show x ∈ nm3 ↔ _
      rw [q3, hM]
      constructor
      · rintro (⟨i, a, b⟩ | b)
        · exact ⟨i, by omega, b⟩
        · exact ⟨s, by omega, b⟩
      · rintro ⟨i, a, b⟩
        by_cases c : i = s
        · subst c; exact .inr b
        · exact .inl ⟨i, by omega, b⟩
    · rw [r3]
      simp only [q69k]
      rw [show ix t (findI (byName (ix l s)) t).toNat = taskOf t (ix l s) from rfl, decide_eq_false (Nat.lt_irrefl _)]
      simp only [cond_false]
      rw [chk_of (nI_of (by omega))]) n 0 ([], 0) (by omega) (by omega) ⟨rfl, List.Pairwise.nil, by simp, fun x => by simp⟩
  simp only at e3 p1 p2 p3
  subst e3
  refine ⟨nm, p1, by omega, p3, ?_⟩
  rw [r2]
  simp only [q70k, Nat.lt_irrefl, decide_false, cond_false]
  refine loop_fold (st := fun v => partL t l (nm.take v)) (len := nm.length) (fun back v hv => ?_) (fun back => ?_) n (by omega) rfl
  · simp only [q71k, hv, decide_true, cond_true, withK_eq]
    refine loop_fold' (st := fun i => tot t l (ix nm v) i) (len := l.length) (fun back' i hi => ?_) (fun back' => ?_) n (by omega) rfl
    · have hki := hk _ (ix_mem hi)
      obtain ⟨k1, k2, k3, k4⟩ := known_ix hki
      have hp := parts_ok h0 hki
      have hpl := hp.len
      have b1 := tot_bounds h0 hk (ix nm v) i (by omega)
      have e : tot t l (ix nm v) (i + 1) = tot t l (ix nm v) i + pcs (taskOf t (ix l i)).Parts (ix nm v) (taskOf t (ix l i)).Parts.length := rfl
      simp only [q114k, hi, decide_true, cond_true, withK_eq, Find_eq t (ix l i) (by omega : t.length < n) (by omega), Option.bind_some, k1, k2, chk_t]
      rw [show ix t (findI (byName (ix l i)) t).toNat = taskOf t (ix l i) from rfl, FindPart_eq (n := n) _ _ (by omega) (by omega), Option.bind_some, e, pcs_find hp]
      by_cases c : findI (byPartC (ix nm v)) (taskOf t (ix l i)).Parts < 0
      · rw [if_pos c, decide_eq_false (by omega)]
        simp only [cond_false, Int.add_zero]
        rw [chk_of (nI_of (by omega))]
      · obtain ⟨f1, f2, f3, f4⟩ := findI_pos c
        have b3 := hp.cnt _ f2
        rw [if_neg c, decide_eq_true (by omega)]
        simp only [cond_true]
        rw [chk_of (inB_of f1 f2), chk_of (decide_eq_true f2), chk_of (inI_of (by omega) (by omega)), chk_of (nI_of (by omega))]
    · simp only [q114k, Nat.lt_irrefl, decide_false, cond_false]
      have e : partL t l (nm.take (v + 1)) = partL t l (nm.take v) ++ [PartCount.mk (ix nm v) (tot t l (ix nm v) l.length)] := by
        rw [partL, List.take_succ_eq_append_getElem hv, List.map_append, ix_eq hv]; rfl
      rw [chk_of (room_of (by simp [partL]; omega) (by simp [partL]; omega)), chk_of (nI_of (by omega)), e]
  · simp only [q71k, Nat.lt_irrefl, decide_false, cond_false, List.take_length]
end
section
set_option maxRecDepth 4000
open Go
variable {n : Nat}
theorem orderOf_bad {t : List Task} (ht : OkT t) {l : List Str} (hl : l.length ≤ 900) (hn : 1000 < n) {e : Int} (he : e ≠ 0) (h : (bif tasksE n t != 0 then tasksE n t else setE t l) = e) : q63k n t [l] = some e := by
  rw [sets_res ht (by simp) (by simp only [List.mem_cons, List.mem_nil_iff, or_false]; rintro x rfl; omega) hn, ← h]
  have : firstE (fun v => setE t (ix [l] v)) 0 [l].length = setE t l := by
    show (bif setE t l != 0 then setE t l else 0) = setE t l
    exact bif_int
  rw [this]
theorem sets_good {t : List Task} (ht : OkT t) {l : List Str} (hl : l.length ≤ 900) (hn : 1000 < n) (h0 : tasksE n t = 0) (h1 : setE t l = 0) : q63k n t [l] = some 0 := by
  rw [sets_res ht (by simp) (by simp only [List.mem_cons, List.mem_nil_iff, or_false]; rintro x rfl; omega) hn, h0]
  have : firstE (fun v => setE t (ix [l] v)) 0 [l].length = 0 := by
    show (bif setE t l != 0 then setE t l else 0) = 0
    rw [h1]; rfl
  rw [this]; rfl
theorem sameCounts_refl {l : List PartCount} (hl : l.length ≤ 900) (hn : 1000 < n) : q67k n l l = some true := by
  rw [q67k]
  simp only [decide_true, Bool.not_true, cond_false, withK_eq]
  refine loop_through (st := fun v => v) (len := l.length) (fun back v hv => ?_) (fun back => ?_) n (by omega)
  · simp only [q80k, hv, decide_true, cond_true, chk_t, BEq.rfl, Bool.and_self, Bool.not_true, cond_false]
    rw [chk_of (nI_of (by omega))]
  · simp [q80k]
theorem set_len {t : List Task} {l : List Str} (h : setE t l = 0) : l.length ≤ t.length := by
  obtain ⟨h1, h2⟩ := set_ok h
  exact Inv.len ⟨h2.nodup, h1⟩
theorem pure_RestoreWork (a0 : List Task) (a1 : List Str) : q98k 2000 a0 a1 = some true := by
  rw [q98k]
  simp only [q198k, Option.bind_some, Bool.not_true, cond_false, withK_eq, Few_eq (n := 2000) a0 (by omega), texts_eq (n := 2000) a1 12 (by omega) (by omega), gcall_some_]
  cases hf : fewB a0
  · simp
  cases hs : textsB a1 12
  · simp
  have ok := few_ok hf
  have ls := textsB_len hs
  have hlen := ok.len
  simp only [Bool.not_true, Bool.not_false, Bool.or_self, cond_true, cond_false, Copied_eq (n := 2000) ok (by omega), Option.bind_some, q19k, room_of (b := 16) (n := a1.length) (by omega) (by omega), chk_t, CheckTasks_ref (n := 2000) ok (by omega), set_ref (n := 2000) (t := a0) (l := a1) (by omega) (by omega) (by omega)]
  have bad : ∀ e : Int, e ≠ 0 → (bif tasksE 2000 a0 != 0 then tasksE 2000 a0 else setE a0 a1) = e → q81k 2000 a0 a1 = some (e, []) ∧ q172k 2000 a0 a1 = some (0, 0, e) ∧ q129k 2000 a0 a1 = some (e, []) := fun e he h => by
    have h1 := orderOf_bad (n := 2000) ok (l := a1) (by omega) (by omega) he h
    have h2 : q81k 2000 a0 a1 = some (e, []) := by
      rw [q81k, h1, Option.bind_some, bne_t he]; rfl
    refine ⟨h2, ?_, ?_⟩
    · rw [q172k, h2]
      simp only [Option.bind_some, withK_eq]
      rw [show (2000 : Nat) = 1999 + 1 from rfl, loopN_s]
      simp [q110k]
    · rw [q129k, h1, Option.bind_some, bne_t he]; rfl
  by_cases h0 : tasksE 2000 a0 = 0
  · by_cases h1 : setE a0 a1 = 0
    · have hal := set_len h1
      have hak := (set_ok h1).1
      have g := sets_good (n := 2000) ok (l := a1) (by omega) (by omega) h0 h1
      obtain ⟨L, hL⟩ : ∃ L, L = ordF a0 (inL a1) 2000 [] := ⟨_, rfl⟩
      have hI : Inv a0 L := by rw [hL]; exact ordF_inv 2000 [] (Inv.nil a0)
      have hO : Ordd a0 (inL a1) L := by rw [hL]; exact ordF_ordd h0 2000 [] (Ordd.nil a0 _)
      have hLl := hI.len
      have g1 : q81k 2000 a0 a1 = some (0, L) := by
        rw [q81k, g]
        simp only [Option.bind_some, bne_self_eq_false, cond_false, q256k, order2_res (n := 2000) ok (set := a1) (by omega) (by omega), ← hL]
      have g2 : q172k 2000 a0 a1 = some (hrS a0 L L.length, hrM a0 L L.length, 0) := by
        rw [q172k, g1]
        simp only [Option.bind_some, withK_eq]
        exact hours_loop (n := 2000) ok h0 hI.2 (by omega) (by omega) fun t => match t with | (v16, v17) => some (v16, v17, 0)
      have g3 : q47k 2000 a0 a1 = some L := by
        rw [hL]; exact Order_ref (n := 2000) ok (set := a1) (by omega) (by omega)
      have g4 : q144k 2000 a0 a1 = some (hrS a0 L L.length, hrM a0 L L.length) := by
        rw [q144k, g3]
        simp only [Option.bind_some, withK_eq]
        rw [chk_of]
        · exact hours_ref (n := 2000) ok h0 (by omega) hI.1 hO hI.2 (by omega) (by omega) fun t => match t with | (v28, v29) => some (v28, v29)
        · unfold mkroom
          simp; omega
      obtain ⟨nm, n1, n2, n3, n4⟩ := partsOf_ref (n := 2000) ok h0 h1 (by omega) (by omega)
      have g5 := partsOf_res (n := 2000) ok h0 h1 (by omega) (by omega) n1 n3
      obtain ⟨_, _, _, hms⟩ := hr_bounds h0 hI.2 L.length (Nat.le_refl _)
      simp only [g1, g2, g3, g4, g5, n4, h0, h1, Option.bind_some, BEq.rfl, cond_true, bne_self_eq_false, Bool.or_self, Bool.not_false, gcall_t, cond_false, Texts_refl (n := 2000) (l := L) (by omega) (by omega), Bool.not_true, decide_eq_false (show ¬ hrS a0 L L.length < hrM a0 L L.length by omega), sameCounts_refl (n := 2000) (l := partL a0 a1 nm) (by simp [partL]; omega) (by omega)]
      refine loop_through (st := fun v => v) (len := L.length) (fun back v hv => ?_) (fun back => ?_) 2000 (by omega)
      · have hkv := hI.2 _ (ix_mem hv)
        obtain ⟨k1, k2, k3, k4⟩ := known_ix hkv
        have hll := leads_len ok k3
        simp only [q66k, hv, decide_true, cond_true, withK_eq, Find_eq a0 (ix L v) (by omega : a0.length < 2000) (by omega), Option.bind_some, k1, k2, chk_t]
        rw [show ix a0 (findI (byName (ix L v)) a0).toNat = taskOf a0 (ix L v) from rfl, Leads_ref ok k3 (by omega), Option.bind_some]
        refine loop_through (st := fun v => v) (len := (leads (taskOf a0 (ix L v))).length) (fun back' v' hv' => ?_) (fun back' => ?_) 2000 (by omega)
        · have hno : (L.drop v).any (isS (ix (leads (taskOf a0 (ix L v))) v')) = false := by
            cases c : (L.drop v).any (isS (ix (leads (taskOf a0 (ix L v))) v')) with
            | false => rfl
            | true => exact absurd (any_isS.1 c) (hO.lead hI.1 hv (ix_mem hv'))
          simp only [q65k, hv', decide_true, cond_true, show v ≤ L.length by omega, chk_t, HasText_eq (n := 2000) (L.drop v) (ix (leads (taskOf a0 (ix L v))) v') (by simp; omega) (by simp; omega), hno, Option.bind_some, cond_false]
          rw [chk_of (nI_of (by omega))]
        · simp only [q65k, Nat.lt_irrefl, decide_false, cond_false]
          rw [chk_of (nI_of (by omega))]
      · simp [q66k]
    · obtain ⟨b1, b2, b3⟩ := bad (setE a0 a1) h1 (by rw [h0]; rfl)
      simp [b1, b2, b3, h0, bne_t h1, nI]
  · obtain ⟨b1, b2, b3⟩ := bad (tasksE 2000 a0) h0 (by rw [bne_t h0]; rfl)
    have hb2 : (tasksE 2000 a0 == 0) = false := by rw [beq_eq_false_iff_ne]; exact h0
    simp [b1, b2, b3, hb2, bne_t h0, nI]
end
end Go.Proofs.YtifabpmjiphhdaaGreat.As
