/- What the functions compute, on plain data, and what follows from it, part 2: no condition. -/
import Derived.Test.YtifabpmjiphhdaaGreatPlain1
namespace Go.Proofs.YtifabpmjiphhdaaGreat.As
open Go
section
set_option maxRecDepth 4000
open Go
variable {n : Nat}
theorem Up.run1 {R : Type} {F : (Int → Option R) → Int → Option R} {k : Int → Option R} {J : Nat} {p : Nat → Bool} {lo : Nat} (step : ∀ back (i : Nat),lo ≤ i → i ≤ J → F back ((i : Nat) : Int) = bif decide (i < J) && p i then back ((i + 1 : Nat) : Int) else k ((i : Nat) : Int)) {i' : Nat} : ∀ m i,Up p i J i' → lo ≤ i → J - i < m → loopN F m ((i : Nat) : Int) = k ((i' : Nat) : Int):=by
  intro m
  induction m with
  | zero=>intro i _ _ h; omega
  | succ m ih =>
    intro i h hlo hm
    have h1:=h.a1; have h2:=h.a2
    rw [loopN_s,step _ i hlo (by omega)]
    by_cases c : i < i'
    · rw [h.a3 i (Nat.le_refl _) c,decide_eq_true (show i < J by omega),Bool.and_self,c_t]
      exact ih (i + 1) ⟨c,h2,fun q k1 k2=>h.a3 q (by omega) k2,h.a4⟩ (by omega) (by omega)
    · have e : i = i':=by omega
      subst e
      by_cases c2 : i < J
      · rw [h.a4 c2,Bool.and_false,c_f]
      · rw [decide_eq_false c2,Bool.false_and,c_f]
def Lo (d : List PartCount) (a b : Nat) : Prop:=∀ q,a ≤ q → q < b → 0 < a → pLt (ix d q) (ix d (a - 1)) = false
theorem Lo.rg {d d' : List PartCount} {a b : Nat} (h : Lo d a b) (r : Rg a b d d') : Lo d' a b:=by
  intro q h1 h2 h0
  obtain ⟨p,g1,g2,g3⟩:=r.inn q h1 h2
  rw [g3,r.out (a - 1) (by omega)]
  exact h p g1 g2 h0
theorem Lo.mono {d : List PartCount} {a b b' : Nat} (h : Lo d a b) (hb : b' ≤ b) : Lo d a b':=fun q h1 h2 h0=>h q h1 (by omega) h0
section
variable {N : Nat} (hN : N ≤ 900)
include hN
theorem pis_L1 {k back : Int → Option (List PartCount × Bool)} {b i : Nat} {d : List PartCount} (hd : d.length = N) (hb : b ≤ N) (h1 : 1 ≤ i) (hi : i ≤ b) :
    q18k n (b : Int) d k back (i : Int) = bif decide (i < b) && !pLt (ix d i) (ix d (i - 1)) then back ((i + 1 : Nat) : Int) else k (i : Int):=by
  rw [q18k]
  simp only [dlt,pt1,Int.toNat_natCast,f1V,gq,gqn,cmpV_lt,gcall_some_,Option.bind_some,BEq.rfl,Bool.not_true,Bool.false_and,Bool.false_or]
  by_cases h0 : i < b
  · rw [decide_eq_true h0]; simp only [Bool.not_true,Bool.false_or,Bool.true_and]
    (repeat rw [chk_of (by first | exact inI_of (by omega) (by omega) | exact inB_of (by omega) (by omega) | exact inI_of (by simp only [List.length_set]; omega) (by simp only [List.length_set]; omega) | exact inB_of (by omega) (by simp only [List.length_set,sw2_len]; omega) | exact decide_eq_true (by first | omega | (simp only [List.length_set,sw2_len]; omega)))])
    cases pLt (ix d i) (ix d (i - 1)) with
    | true=>rw [Bool.not_true,c_f,c_f]
    | false=>rw [Bool.not_false,c_t,c_t]; rfl
  · rw [decide_eq_false h0]; simp only [Bool.not_false,Bool.true_or,Bool.false_and,c_f,k_t]
theorem pis_L2 {k : List PartCount → Option (List PartCount × Bool)} {back : Int × List PartCount → Option (List PartCount × Bool)} {a b j : Nat} {d : List PartCount} (hd : d.length = N) (hb : b ≤ N) (haj : a ≤ j) (hj : j < b) (hl : Lo d a b) :
    q1k n k back (((j : Nat) : Int),d) = bif decide (a < j) && pLt (ix d j) (ix d (j - 1)) then back (((j - 1 : Nat) : Int),sw2 d j (j - 1)) else k d:=by
  rw [q1k]
  simp only [pt1,Int.toNat_natCast,f1V,gq,gqn,cmpV_lt,gcall_some_,Option.bind_some,BEq.rfl,Bool.not_true,Bool.false_and,Bool.false_or]
  by_cases h1 : 1 ≤ j
  · rw [decide_eq_true (show (1 : Int) ≤ ((j : Nat) : Int) by omega),c_t]
    (repeat rw [chk_of (by first | exact inI_of (by omega) (by omega) | exact inB_of (by omega) (by omega) | exact inI_of (by simp only [List.length_set]; omega) (by simp only [List.length_set]; omega) | exact inB_of (by omega) (by simp only [List.length_set,sw2_len]; omega) | exact decide_eq_true (by first | omega | (simp only [List.length_set,sw2_len]; omega)))])
    by_cases h0 : a < j
    · rw [decide_eq_true h0,Bool.true_and]
      cases pLt (ix d j) (ix d (j - 1)) with
      | true =>
        rw [Bool.not_true,c_f,c_t]
        rw [show ((j : Nat) : Int) - 1 = ((j - 1 : Nat) : Int) by omega]; rfl
      | false=>rw [Bool.not_false,c_t,c_f]
    · have e : a = j:=by omega
      subst e
      rw [hl a (Nat.le_refl _) hj h1,Bool.not_false,c_t,Bool.and_false,c_f]
  · rw [decide_eq_false (show ¬ (1 : Int) ≤ ((j : Nat) : Int) by omega),c_f,decide_eq_false (show ¬ a < j by omega),Bool.false_and,c_f]
theorem pis_L3 {k : Int × List PartCount → Option (List PartCount × Bool)} {b i : Nat} (hb : b ≤ N) (h1 : 1 ≤ i) : ∀ m j (d : List PartCount),b - j < m → d.length = N → i + 1 ≤ j →
    ∃ d',loopN (q2k n (b : Int) (i : Int) k) m (((j : Nat) : Int),d) = k ((i : Int),d') ∧ Rg i b d d':=by
  intro m
  induction m with
  | zero=>intro j d h; omega
  | succ m ih =>
    intro j d hm hd hj
    rw [loopN_s,q2k]
    simp only [dlt,pt1,Int.toNat_natCast,f1V,gq,gqn,cmpV_lt,gcall_some_,Option.bind_some,BEq.rfl,Bool.not_true,Bool.false_and,Bool.false_or]
    by_cases h0 : j < b
    · rw [decide_eq_true h0,c_t]
      (repeat rw [chk_of (by first | exact inI_of (by omega) (by omega) | exact inB_of (by omega) (by omega) | exact inI_of (by simp only [List.length_set]; omega) (by simp only [List.length_set]; omega) | exact inB_of (by omega) (by simp only [List.length_set,sw2_len]; omega) | exact decide_eq_true (by first | omega | (simp only [List.length_set,sw2_len]; omega)))])
      cases pLt (ix d j) (ix d (j - 1)) with
      | true =>
        rw [Bool.not_true,c_f]
        rw [show ((j : Nat) : Int) + 1 = ((j + 1 : Nat) : Int) by omega]
        obtain ⟨d',g1,g2⟩:=ih (j + 1) (sw2 d j (j - 1)) (by omega) (by rw [sw2_len]; exact hd) (by omega)
        exact ⟨d',g1,(Rg.step (.refl _) ⟨by omega,by omega⟩ ⟨by omega,by omega⟩ (by omega)).trans g2⟩
      | false=>rw [Bool.not_false,c_t]; exact ⟨d,rfl,.refl _⟩
    · rw [decide_eq_false h0,c_f]; exact ⟨d,rfl,.refl _⟩
theorem pis_loop (hn : 1000 < n) {a b : Nat} (hb : b ≤ N) : ∀ m c i (d : List PartCount),c ≤ 5 → 5 - c < m → a + 1 ≤ i → i ≤ b → d.length = N → Lo d a b → Srt pLt d a i →
    ∃ d' f,loopN (q0k n (a : Int) (b : Int) (fun v=>some (v,false))) m (((i : Nat) : Int),c,d) = some (d',f) ∧ Rg a b d d' ∧ (f = true → Srt pLt d' a b):=by
  intro m
  induction m with
  | zero=>intro c i d h0 h; omega
  | succ m ih =>
    intro c i d hc hm hi hib hd hlo hs
    rw [loopN_s,q0k]
    by_cases h5 : c < 5
    · rw [decide_eq_true h5,c_t]
      simp only [withK_s]
      obtain ⟨i',u⟩:=Up.ex (fun q=>!pLt (ix d q) (ix d (q - 1))) hib
      have u1:=u.a1; have u2:=u.a2
      have hs' : Srt pLt d a i':=Srt.adj ordStr fun q k1 k2=>by
        by_cases c : q < i
        · exact hs (q - 1) q (by omega) (by omega) c
        · exact nbP_f (u.a3 q (by omega) k2)
      rw [Up.run1 (J:=b) (lo:=1) (p:=fun q=>!pLt (ix d q) (ix d (q - 1))) (fun back i h1 h2=>pis_L1 hN hd hb h1 h2) n i u (by omega) (by omega)]
      by_cases cb' : i' = b
      · rw [show (((i' : Nat) : Int) == (b : Int)) = true by rw [cb']; exact BEq.rfl,c_t]
        exact ⟨d,true,rfl,.refl _,fun _=>cb' ▸ hs'⟩
      · rw [show (((i' : Nat) : Int) == (b : Int)) = false by exact beq_eq_false_iff_ne.2 (by omega),c_f,chk_of (by first | exact inI_of (by omega) (by omega) | exact inB_of (by omega) (by omega) | exact inI_of (by simp only [List.length_set]; omega) (by simp only [List.length_set]; omega) | exact inB_of (by omega) (by simp only [List.length_set,sw2_len]; omega) | exact decide_eq_true (by first | omega | (simp only [List.length_set,sw2_len]; omega)))]
        by_cases c50 : (b : Int) - (a : Int) < 50
        · rw [decide_eq_true c50,c_t]
          exact ⟨d,false,rfl,.refl _,fun h=>by cases h⟩
        · rw [decide_eq_false c50,c_f]
          simp only [pt1,Int.toNat_natCast]
          rw [chk_of (by first | exact inI_of (by omega) (by omega) | exact inB_of (by omega) (by omega) | exact inI_of (by simp only [List.length_set]; omega) (by simp only [List.length_set]; omega) | exact inB_of (by omega) (by simp only [List.length_set,sw2_len]; omega) | exact decide_eq_true (by first | omega | (simp only [List.length_set,sw2_len]; omega))),chk_of (by first | exact inI_of (by omega) (by omega) | exact inB_of (by omega) (by omega) | exact inI_of (by simp only [List.length_set]; omega) (by simp only [List.length_set]; omega) | exact inB_of (by omega) (by simp only [List.length_set,sw2_len]; omega) | exact decide_eq_true (by first | omega | (simp only [List.length_set,sw2_len]; omega))),chk_of (by first | exact inI_of (by omega) (by omega) | exact inB_of (by omega) (by omega) | exact inI_of (by simp only [List.length_set]; omega) (by simp only [List.length_set]; omega) | exact inB_of (by omega) (by simp only [List.length_set,sw2_len]; omega) | exact decide_eq_true (by first | omega | (simp only [List.length_set,sw2_len]; omega))),chk_of (by first | exact inI_of (by omega) (by omega) | exact inB_of (by omega) (by omega) | exact inI_of (by simp only [List.length_set]; omega) (by simp only [List.length_set]; omega) | exact inB_of (by omega) (by simp only [List.length_set,sw2_len]; omega) | exact decide_eq_true (by first | omega | (simp only [List.length_set,sw2_len]; omega))),chk_of (by first | exact inI_of (by omega) (by omega) | exact inB_of (by omega) (by omega) | exact inI_of (by simp only [List.length_set]; omega) (by simp only [List.length_set]; omega) | exact inB_of (by omega) (by simp only [List.length_set,sw2_len]; omega) | exact decide_eq_true (by first | omega | (simp only [List.length_set,sw2_len]; omega))),chk_of (by first | exact inI_of (by omega) (by omega) | exact inB_of (by omega) (by omega) | exact inI_of (by simp only [List.length_set]; omega) (by simp only [List.length_set]; omega) | exact inB_of (by omega) (by simp only [List.length_set,sw2_len]; omega) | exact decide_eq_true (by first | omega | (simp only [List.length_set,sw2_len]; omega))),chk_of (by first | exact inI_of (by omega) (by omega) | exact inB_of (by omega) (by omega) | exact inI_of (by simp only [List.length_set]; omega) (by simp only [List.length_set]; omega) | exact inB_of (by omega) (by simp only [List.length_set,sw2_len]; omega) | exact decide_eq_true (by first | omega | (simp only [List.length_set,sw2_len]; omega)))]
          have r1 : Rg a b d (sw2 d i' (i' - 1)):=.step (.refl _) ⟨by omega,by omega⟩ ⟨by omega,by omega⟩ (by omega)
          have hl1 : (sw2 d i' (i' - 1)).length = N:=by rw [sw2_len]; exact hd
          have hfold : (d.set i' (ix d (i' - 1))).set (i' - 1) (ix d i') = sw2 d i' (i' - 1):=rfl
          rw [hfold]
          have A : ∀ k2 : List PartCount → Option (List PartCount × Bool),∃ d2,(bif decide ((2 : Int) ≤ ((i' : Nat) : Int) - (a : Int)) then loopN (q1k n k2) n (((i' : Nat) : Int) - 1,sw2 d i' (i' - 1)) else k2 (sw2 d i' (i' - 1))) = k2 d2 ∧ Rg a b (sw2 d i' (i' - 1)) d2 ∧ Srt pLt d2 a i':=by
            intro k2
            by_cases c2 : (2 : Int) ≤ ((i' : Nat) : Int) - (a : Int)
            · rw [decide_eq_true c2,c_t,show ((i' : Nat) : Int) - 1 = ((i' - 1 : Nat) : Int) by omega]
              obtain ⟨d2,q1,q2,q3⟩:=ins_in (R:=List PartCount × Bool) ordStr (F:=q1k n k2) (k1:=k2) (a:=a) N (fun e=>Lo e a b) (i' - 1) (by omega) (fun e j h1 h2 h3 h4=>h1.rg (.step (.refl _) ⟨by omega,by omega⟩ ⟨by omega,by omega⟩ (by omega))) (fun back j e h1 h2 h3 h4=>pis_L2 hN h1 hb h3 (by omega) h2) n (i' - 1) (sw2 d i' (i' - 1)) hl1 (hlo.rg r1) (by omega) (Nat.le_refl _) (by omega) (fun p q k1 k2 k3 k4 k5=>by
                have hx:=fun k=>sw2_ix (l:=d) (i:=i') (j:=i' - 1) (by omega) (by omega) k
                rw [hx p,hx q,if_neg (by omega),if_neg (by omega),if_neg (by omega),if_neg (by omega)]
                exact hs' p q k1 k2 (by omega)) (fun q k1 k2=>by omega)
              rw [show i' - 1 + 1 = i' by omega] at q2 q3
              exact ⟨d2,q1,q2.mono (Nat.le_refl _) u2 (by omega),q3⟩
            · rw [decide_eq_false c2,c_f]
              exact ⟨_,rfl,.refl _,fun p q k1 k2 k3=>by omega⟩
          obtain ⟨d2, e2, r2, s2⟩ := A (fun v27 =>
                chk (inI ((b : Int) - ((i' : Nat) : Int))) <|
                bif decide ((2 : Int) ≤ ((b : Int) - ((i' : Nat) : Int))) then
                  chk (inI (((i' : Nat) : Int) + 1)) <|
                  loopN (q2k n (b : Int) ((i' : Nat) : Int) (fun x=>chk (nI (c + 1)) (loopN (q0k n (a : Int) (b : Int) (fun v=>some (v,false))) m (x.1,c + 1,x.2)))) n (((i' : Nat) : Int) + 1,v27)
                else
                  (fun x : Int × List PartCount=>chk (nI (c + 1)) (loopN (q0k n (a : Int) (b : Int) (fun v=>some (v,false))) m (x.1,c + 1,x.2))) (((i' : Nat) : Int),v27))
          have hl2 : d2.length = N:=by rw [r2.len]; exact hl1
          have B : ∃ d3, (bif decide ((2 : Int) ≤ ((b : Int) - ((i' : Nat) : Int))) then
                  chk (inI (((i' : Nat) : Int) + 1)) <|
                  loopN (q2k n (b : Int) ((i' : Nat) : Int) (fun x=>chk (nI (c + 1)) (loopN (q0k n (a : Int) (b : Int) (fun v=>some (v,false))) m (x.1,c + 1,x.2)))) n (((i' : Nat) : Int) + 1,d2)
                else
                  (fun x : Int × List PartCount=>chk (nI (c + 1)) (loopN (q0k n (a : Int) (b : Int) (fun v=>some (v,false))) m (x.1,c + 1,x.2))) (((i' : Nat) : Int),d2)) = loopN (q0k n (a : Int) (b : Int) (fun v=>some (v,false))) m (((i' : Nat) : Int),c + 1,d3) ∧ Rg i' b d2 d3:=by
            by_cases c2 : (2 : Int) ≤ ((b : Int) - ((i' : Nat) : Int))
            · rw [decide_eq_true c2,c_t,chk_of (by first | exact inI_of (by omega) (by omega) | exact inB_of (by omega) (by omega) | exact inI_of (by simp only [List.length_set]; omega) (by simp only [List.length_set]; omega) | exact inB_of (by omega) (by simp only [List.length_set,sw2_len]; omega) | exact decide_eq_true (by first | omega | (simp only [List.length_set,sw2_len]; omega))),show ((i' : Nat) : Int) + 1 = ((i' + 1 : Nat) : Int) by omega]
              obtain ⟨d3,q1,q2⟩:=pis_L3 (n:=n) hN hb (i:=i') (by omega) (k:=fun x=>chk (nI (c + 1)) (loopN (q0k n (a : Int) (b : Int) (fun v=>some (v,false))) m (x.1,c + 1,x.2))) n (i' + 1) d2 (by omega) hl2 (by omega)
              exact ⟨d3,by rw [q1,chk_of (nI_of (by omega))],q2⟩
            · rw [decide_eq_false c2,c_f]
              exact ⟨d2,chk_of (nI_of (by omega)),.refl _⟩
          obtain ⟨d3,e3,r3⟩:=B
          have hl3 : d3.length = N:=by rw [r3.len]; exact hl2
          have r3' : Rg a b d2 d3:=r3.mono (by omega) (Nat.le_refl _) (by omega)
          obtain ⟨d',f,g1,g2,g3⟩:=ih (c + 1) i' d3 (by omega) (by omega) (by omega) u2 hl3 (((hlo.rg r1).rg r2).rg r3') (fun p q k1 k2 k3=>by
            rw [r3.out p (by omega),r3.out q (by omega)]; exact s2 p q k1 k2 k3)
          refine ⟨d',f,?_,((r1.trans r2).trans r3').trans g2,g3⟩
          refine Eq.trans e2 ?_
          rw [chk_of (by first | exact inI_of (by omega) (by omega) | exact inB_of (by omega) (by omega) | exact inI_of (by simp only [List.length_set]; omega) (by simp only [List.length_set]; omega) | exact inB_of (by omega) (by simp only [List.length_set,sw2_len]; omega) | exact decide_eq_true (by first | omega | (simp only [List.length_set,sw2_len]; omega)))]
          exact e3.trans g1
    · rw [decide_eq_false h5,c_f]
      exact ⟨d,false,rfl,.refl _,fun h=>by cases h⟩
theorem pis_ok (hn : 1000 < n) {a b : Nat} (hab : a + 1 ≤ b) (hb : b ≤ N) {d : List PartCount} (hd : d.length = N) (hlo : Lo d a b) :
    ∃ d' f,q9k n d (a : Int) (b : Int) = some (d',f) ∧ Rg a b d d' ∧ (f = true → Srt pLt d' a b):=by
  unfold q9k
  rw [chk_of (by first | exact inI_of (by omega) (by omega) | exact inB_of (by omega) (by omega) | exact inI_of (by simp only [List.length_set]; omega) (by simp only [List.length_set]; omega) | exact inB_of (by omega) (by simp only [List.length_set,sw2_len]; omega) | exact decide_eq_true (by first | omega | (simp only [List.length_set,sw2_len]; omega))),withK_s,show (a : Int) + 1 = ((a + 1 : Nat) : Int) by omega]
  exact pis_loop hN hn hb n 0 (a + 1) d (by omega) (by omega) (Nat.le_refl _) hab hd hlo (fun p q k1 k2 k3=>by omega)
end
end
section
set_option maxRecDepth 4000
open Go
variable {n : Nat}
theorem glue {d : List PartCount} {a m b : Nat} (h1 : Srt pLt d a m) (h2 : Srt pLt d (m + 1) b) (h3 : ∀ q,a ≤ q → q < m → pLt (ix d m) (ix d q) = false) (h4 : ∀ q,m < q → q < b → pLt (ix d q) (ix d m) = false) : Srt pLt d a b:=by
  intro i j k1 k2 k3
  by_cases c1 : j < m
  · exact h1 i j k1 k2 c1
  · by_cases c2 : m < i
    · exact h2 i j (by omega) k2 k3
    · by_cases c3 : i = m
      · rw [c3]; exact h4 j (by omega) k3
      · by_cases c4 : j = m
        · rw [c4]; exact h3 i k1 (by omega)
        · exact ordStr.letr _ _ _ (h3 i k1 (by omega)) (h4 j (by omega) k3)
theorem Rg.all {d d' : List PartCount} {a b : Nat} {P : PartCount → Prop} (r : Rg a b d d') (h : ∀ q,a ≤ q → q < b → P (ix d q)) : ∀ q,a ≤ q → q < b → P (ix d' q):=by
  intro q h1 h2
  obtain ⟨p,g1,g2,g3⟩:=r.inn q h1 h2
  rw [g3]; exact h p g1 g2
theorem orc {c b : Bool} (h : c = true → b = true) : (!c || b) = true:=by
  cases c with
  | true=>exact h rfl
  | false=>rfl
theorem withK_p {α β : Type} {j : α → Option β} {f : (α → Option β) → Option β} {P : Option β → Prop} (Q : α → Prop) (h1 : ∀ k : α → Option β,(∀ x,Q x → P (k x)) → P (f k)) (h2 : ∀ x,Q x → P (j x)) : P (withK j f):=h1 j h2
def PS (N K : Nat) (f : List PartCount × Int × Int × Int → Option (List PartCount)) : Prop :=
  ∀ (d : List PartCount) (a b : Nat) (l : Int),d.length = N → a ≤ b → b ≤ N → b - a < K → Lo d a b → 0 ≤ l → l ≤ 1000 → ∃ d',f (d,(a : Int),(b : Int),l) = some d' ∧ Rg a b d d' ∧ Srt pLt d' a b
theorem pdq_L1 {N K : Nat} (hN : N ≤ 900) (hn : 1000 < n) {self : List PartCount × Int × Int × Int → Option (List PartCount)} (hS : PS N K self) : ∀ m a b (d : List PartCount) (bal part : Bool) (l : Int),b - a < m → b - a ≤ K → d.length = N → a ≤ b → b ≤ N → Lo d a b → 0 ≤ l → l ≤ 1000 →
    ∃ d',loopN (q10k n self) m ((a : Int),d,bal,part,(b : Int),l) = some d' ∧ Rg a b d d' ∧ Srt pLt d' a b:=by
  intro m
  induction m with
  | zero=>intro a b d bal part l h; omega
  | succ m ih =>
    intro a b d bal part l hm hK hd hab hb hlo hl0 hl1
    rw [loopN_s,q10k]
    rw [chk_of (by first | exact inI_of (by omega) (by omega) | exact inB_of (by omega) (by omega) | exact inI_of (by simp only [List.length_set]; omega) (by simp only [List.length_set]; omega) | exact inB_of (by omega) (by simp only [List.length_set,sw2_len]; omega) | exact decide_eq_true (by first | omega | (simp only [List.length_set,sw2_len]; omega)))]
    by_cases c12 : (b : Int) - (a : Int) ≤ 12
    · rw [decide_eq_true c12,c_t]
      obtain ⟨d',g1,g2,g3⟩:=ins_ok (n:=n) hN hn hab hb hd
      rw [g1,Option.bind_some,chk_of (decide_eq_true (by rw [g2.len]))]
      exact ⟨d',rfl,g2,g3⟩
    rw [decide_eq_false c12,c_f]
    cases hl : l == (0 : Int) with
    | true =>
      rw [c_t]
      obtain ⟨d',g1,g2,g3⟩:=heap_ok (n:=n) hN hn (a:=a) (b:=b) (by omega) hb hd
      rw [g1,Option.bind_some,chk_of (decide_eq_true (by rw [g2.len]))]
      exact ⟨d',rfl,g2,g3⟩
    | false =>
    rw [c_f]
    have hlne : l ≠ 0:=by simpa using hl
    have J3 : ∀ (d3 : List PartCount) (p : Nat) (l1 : Int),Rg a b d d3 → a ≤ p → p < b → 0 ≤ l1 → l1 ≤ 1000 → ∃ d',
        (chk (!(decide ((0 : Int) < (a : Int))) || inI ((a : Int) - 1)) <|
                  chk (!(decide ((0 : Int) < (a : Int))) || inB ((a : Int) - 1) d3.length) <|
                  chk (!(decide ((0 : Int) < (a : Int))) || decide (((a : Int) - 1).toNat < d3.length)) <|
                  chk (!(decide ((0 : Int) < (a : Int))) || inB (p : Int) d3.length) <|
                  chk (!(decide ((0 : Int) < (a : Int))) || decide ((p : Int).toNat < d3.length)) <|
                  (gcall (decide ((0 : Int) < (a : Int))) (q4k n (ix d3 (((a : Int) - 1).toNat)) (ix d3 (p : Int).toNat))).bind fun y50 =>
                  bif (decide ((0 : Int) < (a : Int))) && (!(decide (y50 < (0 : Int)))) then
                    (q11k n d3 (a : Int) (b : Int) (p : Int)).bind fun y51 =>
                    chk (decide (d3.length = y51.2.length)) <|
                    loopN (q10k n self) m (y51.1,y51.2,bal,part,(b : Int),l1)
                  else
                    (q20k n d3 (a : Int) (b : Int) (p : Int)).bind fun y52 =>
                    chk (decide (d3.length = y52.2.1.length)) <|
                    chk (inI (y52.1 - (a : Int))) <|
                    chk (inI ((b : Int) - y52.1)) <|
                    chk ((8 != 0 && inI (Int.tdiv ((b : Int) - (a : Int)) 8))) <|
                    bif decide ((y52.1 - (a : Int)) < ((b : Int) - y52.1)) then
                      (self (y52.2.1,(a : Int),y52.1,l1)).bind fun y53 =>
                      chk (decide (y52.2.1.length = y53.length)) <|
                      chk (inI (y52.1 + 1)) <|
                      loopN (q10k n self) m (y52.1 + 1,y53,decide ((Int.tdiv ((b : Int) - (a : Int)) 8) ≤ (y52.1 - (a : Int))),y52.2.2,(b : Int),l1)
                    else
                      chk (inI (y52.1 + 1)) <|
                      (self (y52.2.1,y52.1 + 1,(b : Int),l1)).bind fun y54 =>
                      chk (decide (y52.2.1.length = y54.length)) <|
                      loopN (q10k n self) m ((a : Int),y54,decide ((Int.tdiv ((b : Int) - (a : Int)) 8) ≤ ((b : Int) - y52.1)),y52.2.2,y52.1,l1)) = some d' ∧ Rg a b d d' ∧ Srt pLt d' a b:=by
      intro d3 p l1 r3 hp1 hp2 h10 h11
      have hl3 : d3.length = N:=by rw [r3.len]; exact hd
      have lo3 : Lo d3 a b:=hlo.rg r3
      have z0 : decide ((0 : Int) < (a : Int)) = decide (0 < a):=decide_eq_decide.2 (by omega)
      simp only [z0,pt1,Int.toNat_natCast,f1V,gq,gqn,cmpV_lt,gcall_some_,Option.bind_some,BEq.rfl,Bool.not_true,Bool.false_and,Bool.false_or]
      rw [chk_of (orc fun hc=>by have hc:=of_decide_eq_true hc; (first | exact inI_of (by omega) (by omega) | exact inB_of (by omega) (by omega) | exact inI_of (by simp only [List.length_set]; omega) (by simp only [List.length_set]; omega) | exact inB_of (by omega) (by simp only [List.length_set,sw2_len]; omega) | exact decide_eq_true (by first | omega | (simp only [List.length_set,sw2_len]; omega)))),chk_of (orc fun hc=>by have hc:=of_decide_eq_true hc; (first | exact inI_of (by omega) (by omega) | exact inB_of (by omega) (by omega) | exact inI_of (by simp only [List.length_set]; omega) (by simp only [List.length_set]; omega) | exact inB_of (by omega) (by simp only [List.length_set,sw2_len]; omega) | exact decide_eq_true (by first | omega | (simp only [List.length_set,sw2_len]; omega)))),chk_of (orc fun hc=>by have hc:=of_decide_eq_true hc; (first | exact inI_of (by omega) (by omega) | exact inB_of (by omega) (by omega) | exact inI_of (by simp only [List.length_set]; omega) (by simp only [List.length_set]; omega) | exact inB_of (by omega) (by simp only [List.length_set,sw2_len]; omega) | exact decide_eq_true (by first | omega | (simp only [List.length_set,sw2_len]; omega)))),chk_of (orc fun hc=>by have hc:=of_decide_eq_true hc; (first | exact inI_of (by omega) (by omega) | exact inB_of (by omega) (by omega) | exact inI_of (by simp only [List.length_set]; omega) (by simp only [List.length_set]; omega) | exact inB_of (by omega) (by simp only [List.length_set,sw2_len]; omega) | exact decide_eq_true (by first | omega | (simp only [List.length_set,sw2_len]; omega)))),chk_of (orc fun hc=>by have hc:=of_decide_eq_true hc; (first | exact inI_of (by omega) (by omega) | exact inB_of (by omega) (by omega) | exact inI_of (by simp only [List.length_set]; omega) (by simp only [List.length_set]; omega) | exact inB_of (by omega) (by simp only [List.length_set,sw2_len]; omega) | exact decide_eq_true (by first | omega | (simp only [List.length_set,sw2_len]; omega))))]
      cases ht : decide (0 < a) && !pLt (ix d3 (a - 1)) (ix d3 p) with
      | true =>
        rw [c_t]
        obtain ⟨t1,t2⟩:=Bool.and_eq_true_iff.1 ht
        have t1:=of_decide_eq_true t1
        have t2:=nbP_f t2
        obtain ⟨q,d4,g1,g2,g3,g4,g5,g6⟩:=pteq_ok (n:=n) hN hn hp1 hp2 hb hl3
        rw [g1,Option.bind_some,chk_of (decide_eq_true (by rw [g4.len]))]
        have hl4 : d4.length = N:=by rw [g4.len]; exact hl3
        have lo4 : Lo d4 a b:=lo3.rg g4
        have e4 : ix d4 (a - 1) = ix d3 (a - 1):=g4.out _ (by omega)
        obtain ⟨d5,k1,k2,k3⟩:=ih q b d4 bal part l1 (by omega) (by omega) hl4 g3 hb (fun x h1 h2 _=>ordStr.letr _ _ _ (g5 (q - 1) (by omega) (by omega)) (ordStr.asym _ _ (g6 x h1 h2))) h10 h11
        refine ⟨d5,k1,(r3.trans g4).trans (k2.mono (by omega) (Nat.le_refl _) (by omega)),fun i j h1 h2 h3=>?_⟩
        by_cases c1 : q ≤ i
        · exact k3 i j c1 h2 h3
        · have hi : pLt (ix d3 p) (ix d5 i) = false:=by rw [k2.out i (by omega)]; exact g5 i h1 (by omega)
          by_cases c2 : j < q
          · rw [k2.out j (by omega)]
            have a1:=lo4 j (by omega) (by omega) t1
            rw [e4] at a1
            exact ordStr.letr _ _ _ (ordStr.letr _ _ _ hi t2) a1
          · exact ordStr.letr _ _ _ hi (Rg.all (P:=fun x=>pLt x (ix d3 p) = false) k2 (fun x h1 h2=>ordStr.asym _ _ (g6 x h1 h2)) j (by omega) h3)
      | false =>
        rw [c_f]
        obtain ⟨q,d4,f,g1,g2,g3,g4,g5,g6⟩:=part_ok (n:=n) hN hn hp1 hp2 hb hl3
        rw [g1,Option.bind_some]
        have hl4 : d4.length = N:=by rw [g4.len]; exact hl3
        have lo4 : Lo d4 a b:=lo3.rg g4
        have e8 : Int.tdiv ((b : Int) - (a : Int)) 8 = (((b - a) / 8 : Nat) : Int):=by
          rw [Int.tdiv_eq_ediv_of_nonneg (by omega)]; omega
        simp only [e8]
        rw [chk_of (decide_eq_true (by rw [g4.len])),chk_of (by first | exact inI_of (by omega) (by omega) | exact inB_of (by omega) (by omega) | exact inI_of (by simp only [List.length_set]; omega) (by simp only [List.length_set]; omega) | exact inB_of (by omega) (by simp only [List.length_set,sw2_len]; omega) | exact decide_eq_true (by first | omega | (simp only [List.length_set,sw2_len]; omega))),chk_of (by first | exact inI_of (by omega) (by omega) | exact inB_of (by omega) (by omega) | exact inI_of (by simp only [List.length_set]; omega) (by simp only [List.length_set]; omega) | exact inB_of (by omega) (by simp only [List.length_set,sw2_len]; omega) | exact decide_eq_true (by first | omega | (simp only [List.length_set,sw2_len]; omega))),chk_of (by rw [inI_of (by omega) (by omega)]; rfl)]
        by_cases ch : (q : Int) - (a : Int) < (b : Int) - (q : Int)
        · rw [decide_eq_true ch,c_t]
          obtain ⟨d5,k1,k2,k3⟩:=hS d4 a q l1 hl4 g2 (by omega) (by omega) (lo4.mono (by omega)) h10 h11
          rw [k1,Option.bind_some,chk_of (decide_eq_true (by rw [k2.len])),chk_of (by first | exact inI_of (by omega) (by omega) | exact inB_of (by omega) (by omega) | exact inI_of (by simp only [List.length_set]; omega) (by simp only [List.length_set]; omega) | exact inB_of (by omega) (by simp only [List.length_set,sw2_len]; omega) | exact decide_eq_true (by first | omega | (simp only [List.length_set,sw2_len]; omega))),show (q : Int) + 1 = ((q + 1 : Nat) : Int) by omega]
          have hl5 : d5.length = N:=by rw [k2.len]; exact hl4
          have hq5 : ix d5 q = ix d4 q:=k2.out q (by omega)
          have up5 : ∀ x,q + 1 ≤ x → x < b → pLt (ix d5 x) (ix d5 q) = false:=fun x h1 h2=>by
            rw [k2.out x (by omega),hq5]; exact g6 x (by omega) h2
          have dn5 : ∀ x,a ≤ x → x < q → pLt (ix d4 q) (ix d5 x) = false:=Rg.all (P:=fun x=>pLt (ix d4 q) x = false) k2 (fun x h1 h2=>ordStr.asym _ _ (g5 x h1 h2))
          obtain ⟨d6,m1,m2,m3⟩:=ih (q + 1) b d5 (decide ((((b - a) / 8 : Nat) : Int) ≤ (q : Int) - (a : Int))) f l1 (by omega) (by omega) hl5 (by omega) hb (fun x h1 h2 _=>by rw [Nat.add_sub_cancel]; exact up5 x h1 h2) h10 h11
          refine ⟨d6,m1,((r3.trans g4).trans (k2.mono (Nat.le_refl _) (by omega) (by omega))).trans (m2.mono (by omega) (Nat.le_refl _) (by omega)),glue (m:=q) (fun i j h1 h2 h3=>?_) m3 (fun x h1 h2=>?_) (fun x h1 h2=>?_)⟩
          · rw [m2.out i (by omega),m2.out j (by omega)]; exact k3 i j h1 h2 h3
          · rw [m2.out q (by omega),m2.out x (by omega),hq5]; exact dn5 x h1 h2
          · rw [m2.out q (by omega)]
            exact Rg.all (P:=fun y=>pLt y (ix d5 q) = false) m2 up5 x (by omega) h2
        · rw [decide_eq_false ch,c_f,chk_of (by first | exact inI_of (by omega) (by omega) | exact inB_of (by omega) (by omega) | exact inI_of (by simp only [List.length_set]; omega) (by simp only [List.length_set]; omega) | exact inB_of (by omega) (by simp only [List.length_set,sw2_len]; omega) | exact decide_eq_true (by first | omega | (simp only [List.length_set,sw2_len]; omega))),show (q : Int) + 1 = ((q + 1 : Nat) : Int) by omega]
          have up4 : ∀ x,q + 1 ≤ x → x < b → pLt (ix d4 x) (ix d4 q) = false:=fun x h1 h2=>g6 x (by omega) h2
          obtain ⟨d5,k1,k2,k3⟩:=hS d4 (q + 1) b l1 hl4 (by omega) hb (by omega) (fun x h1 h2 _=>by rw [Nat.add_sub_cancel]; exact up4 x h1 h2) h10 h11
          rw [k1,Option.bind_some,chk_of (decide_eq_true (by rw [k2.len]))]
          have hl5 : d5.length = N:=by rw [k2.len]; exact hl4
          have hq5 : ix d5 q = ix d4 q:=k2.out q (by omega)
          have up5 : ∀ x,q + 1 ≤ x → x < b → pLt (ix d5 x) (ix d5 q) = false:=by
            rw [hq5]; exact Rg.all (P:=fun y=>pLt y (ix d4 q) = false) k2 up4
          have lo5 : Lo d5 a b:=lo4.rg (k2.mono (by omega) (Nat.le_refl _) (by omega))
          obtain ⟨d6,m1,m2,m3⟩:=ih a q d5 (decide ((((b - a) / 8 : Nat) : Int) ≤ (b : Int) - (q : Int))) f l1 (by omega) (by omega) hl5 g2 (by omega) (lo5.mono (by omega)) h10 h11
          refine ⟨d6,m1,((r3.trans g4).trans (k2.mono (by omega) (Nat.le_refl _) (by omega))).trans (m2.mono (Nat.le_refl _) (by omega) (by omega)),glue (m:=q) m3 (fun i j h1 h2 h3=>?_) (fun x h1 h2=>?_) (fun x h1 h2=>?_)⟩
          · rw [m2.out i (by omega),m2.out j (by omega)]; exact k3 i j h1 h2 h3
          · rw [m2.out q (by omega)]
            exact Rg.all (P:=fun y=>pLt (ix d5 q) y = false) m2 (fun y h1 h2=>by
              rw [k2.out y (by omega),hq5]; exact ordStr.asym _ _ (g5 y h1 h2)) x h1 h2
          · rw [m2.out q (by omega),m2.out x (by omega)]; exact up5 x (by omega) h2
    refine withK_p (P:=fun y=>∃ d',y = some d' ∧ Rg a b d d' ∧ Srt pLt d' a b) (fun x : List PartCount × Int=>Rg a b d x.1 ∧ 0 ≤ x.2 ∧ x.2 ≤ 1000) (fun k1 hk=>?_) (fun x hx=>?_)
    · cases bal with
      | true=>rw [Bool.not_true,c_f]; exact hk (d,l) ⟨.refl _,hl0,hl1⟩
      | false =>
        rw [Bool.not_false,c_t]
        obtain ⟨d1,g1,g2⟩:=brk_ok (n:=n) hN hn (a:=a) (b:=b) (by omega) hb hd
        rw [g1,Option.bind_some,chk_of (decide_eq_true (by rw [g2.len])),chk_of (by first | exact inI_of (by omega) (by omega) | exact inB_of (by omega) (by omega) | exact inI_of (by simp only [List.length_set]; omega) (by simp only [List.length_set]; omega) | exact inB_of (by omega) (by simp only [List.length_set,sw2_len]; omega) | exact decide_eq_true (by first | omega | (simp only [List.length_set,sw2_len]; omega)))]
        exact hk (d1,l - 1) ⟨g2,by show 0 ≤ l - 1; omega,by show l - 1 ≤ 1000; omega⟩
    obtain ⟨d1,l1⟩:=x
    obtain ⟨r1,h10,h11⟩:=hx
    have hld1 : d1.length = N:=by rw [r1.len]; exact hd
    obtain ⟨p,h,g1,g2,g3⟩:=choose_ok (n:=n) hN (d:=d1) hld1 (a:=a) (b:=b) (by omega) hb
    show ∃ d',Option.bind _ _ = some d' ∧ Rg a b d d' ∧ Srt pLt d' a b
    rw [g1,Option.bind_some]
    refine withK_p (P:=fun y=>∃ d',y = some d' ∧ Rg a b d d' ∧ Srt pLt d' a b) (fun x : List PartCount × Int × Int=>Rg a b d x.1 ∧ ∃ q : Nat,x.2.1 = (q : Int) ∧ a ≤ q ∧ q < b) (fun k2 hk=>?_) (fun x hx=>?_)
    · cases h == (2 : Int) with
      | true =>
        rw [c_t]
        obtain ⟨d2,k1,k3⟩:=rev_ok (n:=n) hN hn (a:=a) (b:=b) hb hld1
        rw [k1,Option.bind_some,chk_of (decide_eq_true (by rw [k3.len])),chk_of (by first | exact inI_of (by omega) (by omega) | exact inB_of (by omega) (by omega) | exact inI_of (by simp only [List.length_set]; omega) (by simp only [List.length_set]; omega) | exact inB_of (by omega) (by simp only [List.length_set,sw2_len]; omega) | exact decide_eq_true (by first | omega | (simp only [List.length_set,sw2_len]; omega))),chk_of (by first | exact inI_of (by omega) (by omega) | exact inB_of (by omega) (by omega) | exact inI_of (by simp only [List.length_set]; omega) (by simp only [List.length_set]; omega) | exact inB_of (by omega) (by simp only [List.length_set,sw2_len]; omega) | exact decide_eq_true (by first | omega | (simp only [List.length_set,sw2_len]; omega))),chk_of (by first | exact inI_of (by omega) (by omega) | exact inB_of (by omega) (by omega) | exact inI_of (by simp only [List.length_set]; omega) (by simp only [List.length_set]; omega) | exact inB_of (by omega) (by simp only [List.length_set,sw2_len]; omega) | exact decide_eq_true (by first | omega | (simp only [List.length_set,sw2_len]; omega)))]
        exact hk (d2,(b : Int) - 1 - ((p : Int) - (a : Int)),1) ⟨r1.trans k3,b - 1 - (p - a),by show (b : Int) - 1 - ((p : Int) - (a : Int)) = _; omega,by omega,by omega⟩
      | false=>rw [c_f]; exact hk (d1,(p : Int),h) ⟨r1,p,rfl,g2,g3⟩
    obtain ⟨d2,v46,v47⟩:=x
    obtain ⟨r2,q,hq,q1,q2⟩:=hx
    have hq : v46 = (q : Int):=hq
    subst hq
    have hld2 : d2.length = N:=by rw [r2.len]; exact hd
    refine withK_p (P:=fun y=>∃ d',y = some d' ∧ Rg a b d d' ∧ Srt pLt d' a b) (fun x : List PartCount=>Rg a b d x) (fun k3 hk=>?_) (fun x hx=>?_)
    · cases (bal && part) && (v47 == (1 : Int)) with
      | true =>
        rw [c_t]
        obtain ⟨d3,f,k1,k2,k4⟩:=pis_ok (n:=n) hN hn (a:=a) (b:=b) (by omega) hb hld2 (hlo.rg r2)
        rw [k1,Option.bind_some,chk_of (decide_eq_true (by rw [k2.len]))]
        cases f with
        | true=>exact ⟨d3,rfl,r2.trans k2,k4 rfl⟩
        | false=>exact hk d3 (r2.trans k2)
      | false=>rw [c_f]; exact hk d2 r2
    exact J3 x q l1 hx q1 q2 h10 h11
theorem pdq_ok {N : Nat} (hN : N ≤ 900) (hn : 1000 < n) : ∀ K,PS N K (loopN (q12k n) K):=by
  intro K
  induction K with
  | zero=>intro d a b l _ _ _ h; omega
  | succ K ih =>
    intro d a b l hd hab hb hK hlo h0 h1
    rw [loopN_s,q12k]
    exact pdq_L1 hN hn ih n a b d true true l (by omega) (by omega) hd hab hb hlo h0 h1
def lenOK (l : Nat) : Bool:=match math_bits_Len 0 (l : Int) with
  | some y=>decide (0 ≤ y) && decide (y ≤ 1000)
  | none=>false
def lenAll : Nat → Bool
  | 0=>true
  | l + 1=>lenOK l && lenAll l
theorem lenAll_ok : lenAll 901 = true:=by kernel_rfl
theorem lenAll_at : ∀ m l,lenAll m = true → l < m → lenOK l = true:=by
  intro m
  induction m with
  | zero=>intro l h h1; omega
  | succ m ih =>
    intro l h h1
    obtain ⟨g1,g2⟩ : lenOK m = true ∧ lenAll m = true:=by simpa [lenAll] using h
    by_cases c : l = m
    · rw [c]; exact g1
    · exact ih l g2 (by omega)
theorem len_ok {l : Nat} (h2 : l ≤ 900) : ∃ y : Int,math_bits_Len n (l : Int) = some y ∧ 0 ≤ y ∧ y ≤ 1000:=by
  have h:=lenAll_at 901 l lenAll_ok (by omega)
  unfold lenOK at h
  have e : math_bits_Len n (l : Int) = math_bits_Len 0 (l : Int):=rfl
  rw [e]
  cases g : math_bits_Len 0 (l : Int) with
  | none=>rw [g] at h; cases h
  | some y =>
    rw [g] at h
    have:=Bool.and_eq_true_iff.1 h
    exact ⟨y,rfl,of_decide_eq_true this.1,of_decide_eq_true this.2⟩
theorem sortS_ok (hn : 1000 < n) {d : List PartCount} (hN : d.length ≤ 900) : ∃ d',q33k n d = some d' ∧ d'.Perm d ∧ Srt pLt d' 0 d.length:=by
  obtain ⟨y,h1,h2,h3⟩:=len_ok (n:=n) hN
  obtain ⟨d',g1,g2,g3⟩:=pdq_ok hN hn n d 0 d.length y rfl (Nat.zero_le _) (Nat.le_refl _) (by omega) (fun q _ _ h=>by omega) h2 h3
  unfold q33k
  rw [wrap_u (by omega) (by omega),h1,Option.bind_some]
  have g1' : slices_pdqsortCmpFunc_PartCount n d 0 ((d.length : Nat) : Int) y = some d':=g1
  rw [g1',Option.bind_some,chk_of (decide_eq_true (by rw [g2.len]))]
  exact ⟨d',rfl,g2.perm,g3⟩
end
section
set_option maxRecDepth 4000
open Go
variable {n : Nat}
theorem keys_put (p : Str) (v : Int) : ∀ m : List (Str × Int),(mPut p v m).map Prod.fst = if p ∈ m.map Prod.fst then m.map Prod.fst else m.map Prod.fst ++ [p]
  | []=>by simp [mPut]
  | (k,u) :: m=>by
    have ih:=keys_put p v m
    simp only [mPut]
    cases h : (p == k) with
    | true =>
      have : p = k:=eq_of_beq h
      subst this
      simp
    | false =>
      have hne : p ≠ k:=by rintro rfl; simp at h
      simp only [List.map_cons,ih,List.mem_cons,hne,false_or]
      by_cases c : p ∈ m.map Prod.fst <;> simp [c]
theorem rngP_loop {ks : List PartCount} (hl : ks.length ≤ 900) {k2 : List PartCount → Option (Int × List PartCount)} {r : Int × List PartCount} (hk : ∀ out,out.Perm ks → k2 out = some r) : ∀ m out cur left,left.length < m → (out ++ left.map fun x : Str × Int=>PartCount.mk x.1 x.2).Perm ks → loopN (restore_PartsOf_L3 k2) m (out,cur,left) = some r:=by
  intro m
  induction m with
  | zero=>intro out cur left h; omega
  | succ m ih =>
    intro out cur left hm hp
    rw [loopN_s]
    simp only [restore_PartsOf_L3]
    cases left with
    | nil =>
      simp only [List.length_nil,decide_true,cond_true]
      exact hk out (by simpa using hp)
    | cons x0 rest =>
      simp only [List.length_cons,show ¬ rest.length + 1 = 0 by omega,decide_false,cond_false]
      refine pickK_of (by simp) fun j x hj=>?_
      have hpl:=hp.length_eq
      simp only [List.length_append,List.length_map,List.length_cons] at hpl
      rw [chk_of (room_of (by simp; omega) (by simp; omega))]
      have hjl : j < (x0 :: rest).length:=(List.getElem?_eq_some_iff.1 hj).1
      refine ih _ _ _ (by rw [List.length_eraseIdx_of_lt hjl]; simp only [List.length_cons] at hm ⊢; omega) (List.Perm.trans ?_ hp)
      rw [List.append_assoc]
      refine List.Perm.append_left out ?_
      have:=(erase_perm _ _ _ hj).map fun x : Str × Int=>PartCount.mk x.1 x.2
      simpa using this
theorem sorted_one {d d' : List PartCount} (h1 : Asc (d.map fun x=>x.Part)) (h2 : Asc (d'.map fun x=>x.Part)) (hp : d.Perm d') : d = d':=by
  have hm : d.map (fun x=>x.Part) = d'.map fun x=>x.Part:=h1.ext h2 fun s=>(hp.map _).mem_iff
  have hl:=hp.length_eq
  refine List.ext_getElem hl fun i hi hi'=>?_
  obtain ⟨j,hj,e⟩:=List.getElem_of_mem (hp.mem_iff.1 (List.getElem_mem hi))
  have e1 : (d.map fun x=>x.Part)[i]'(by simpa using hi) = (d'.map fun x=>x.Part)[i]'(by simpa using hi'):=by simp only [hm]
  simp only [List.getElem_map] at e1
  have : j = i:=by
    have:=(List.getElem_inj h2.nodup (i:=j) (j:=i) (h₀:=by simpa using hj) (h₁:=by simpa using hi')).1 (by simp only [List.getElem_map]; rw [e,e1])
    exact this
  subst this
  exact e.symm
theorem put_same {l : List Str} {s : Str} (ha : Asc l) (hs : s ∈ l) (hl : l.length ≤ 900) (hn : 1000 < n) : agrafferef08_Put n l s = some l:=by
  obtain ⟨p,hp,hps⟩:=mem_ix.1 hs
  rw [agrafferef08_Put]
  simp only [withK_eq]
  have hlt : ∀ v w,v < w → w < l.length → bLt (ix l v) (ix l w) = true:=fun v w h1 h2=>by
    have:=List.pairwise_iff_getElem.1 ha v w (by omega) h2 h1
    rw [ix_eq (by omega),ix_eq h2]; exact this
  refine (loop_through (st:=fun v=>(l.take v,decide (p < v),v)) (len:=l.length) (k:=some l) (fun back v hv=>?_) (fun back=>?_) n (by omega) : loopN _ n (l.take 0,decide (p < 0),0) = some l)
  · simp only [q47k,hv,decide_true,cond_true,withK_eq]
    have ht : l.take (v + 1) = l.take v ++ [ix l v]:=by rw [List.take_succ_eq_append_getElem hv,ix_eq hv]
    have hr : chk (room 16 (l.take v ++ ([ix l v] : List Str)).length) (chk (nI (v + 1)) (back (l.take v ++ ([ix l v] : List Str),decide (p < v + 1),v + 1))) = back (l.take (v + 1),decide (p < v + 1),v + 1):=by
      rw [chk_of (room_of (by simp; omega) (by simp; omega)),chk_of (nI_of (by omega)),ht]
    by_cases c1 : p < v
    · have c2 : p < v + 1:=by omega
      simp only [c1,decide_true,Bool.not_true,Bool.false_and,cond_false]
      rw [show decide (p < v + 1) = true from decide_eq_true c2] at hr ⊢
      exact hr
    · simp only [c1,decide_false,Bool.not_false,Bool.true_and]
      by_cases c2 : p = v
      · subst c2
        rw [hps,bLt_irr,BEq.rfl]
        simp only [Bool.not_false,cond_true,Bool.not_true,cond_false]
        rw [hps] at hr
        rw [show decide (p < p + 1) = true from decide_eq_true (by omega)] at hr ⊢
        exact hr
      · have:=hlt v p (by omega) hp
        rw [hps] at this
        rw [this]
        simp only [Bool.not_true,cond_false]
        rw [show decide (p < v + 1) = false from decide_eq_false (by omega)] at hr ⊢
        exact hr
  · simp only [q47k,Nat.lt_irrefl,decide_false,cond_false,List.take_length,hp,decide_true,Bool.not_true]
theorem put_any {l : List Str} {s : Str} (ha : Asc l) (hl : l.length ≤ 900) (hn : 1000 < n) : ∃ d,agrafferef08_Put n l s = some d ∧ Asc d ∧ (∀ x,x ∈ d ↔ x ∈ l ∨ x = s) ∧ d.length ≤ l.length + 1:=by
  by_cases hs : s ∈ l
  · exact ⟨l,put_same ha hs hl hn,ha,fun x=>⟨.inl,fun h=>by rcases h with h | h; exact h; exact h ▸ hs⟩,by omega⟩
  · obtain ⟨d,h1,h2,h3,h4⟩:=put_spec (n:=n) ha hs hl hn
    exact ⟨d,h1,h2,h3,by omega⟩
theorem sortC {l : List PartCount} (hl : l.length ≤ 900) (hnm : (l.map fun x=>x.Part).Nodup) (hn : 1000 < n) : ∃ d,q33k n l = some d ∧ d.Perm l ∧ Asc (d.map fun x=>x.Part):=by
  obtain ⟨d,h1,h2,h3⟩:=sortS_ok hn hl
  refine ⟨d,h1,h2,?_⟩
  have hdl:=h2.length_eq
  have hnd : (d.map fun x=>x.Part).Nodup:=(h2.map _).nodup_iff.2 hnm
  unfold Asc
  rw [List.pairwise_iff_getElem]
  intro i j hi hj hij
  simp only [List.length_map] at hi hj
  have h4:=h3 i j (Nat.zero_le _) hij (by omega)
  simp only [pLt] at h4
  rw [ix_eq hi,ix_eq hj] at h4
  simp only [List.getElem_map]
  rcases bLt_tri d[i].Part d[j].Part with c | c | c
  · exact c
  · exfalso
    have:=(List.getElem_inj hnd (i:=i) (j:=j) (h₀:=by simpa using hi) (h₁:=by simpa using hj)).1 (by simpa using c)
    omega
  · rw [h4] at c; cases c
def pcs (p : List PartCount) (x : Str) (k : Nat) : Int:=sm (fun i=>if (ix p i).Part = x then (ix p i).Count else 0) k
def tot (t : List Task) (l : List Str) (x : Str) (v : Nat) : Int:=sm (fun i=>pcs (taskOf t (ix l i)).Parts x (taskOf t (ix l i)).Parts.length) v
theorem sm_zero {f : Nat → Int} : ∀ k,(∀ i,i < k → f i = 0) → sm f k = 0
  | 0,_=>rfl
  | k + 1,h=>by rw [sm,sm_zero k fun i hi=>h i (by omega),h k (by omega)]; rfl
theorem sm_one {f : Nat → Int} {j : Nat} : ∀ k,j < k → (∀ i,i < k → i ≠ j → f i = 0) → sm f k = f j
  | 0,hj,_=>by omega
  | k + 1,hj,h=>by
    rw [sm]
    by_cases e : j = k
    · subst e
      rw [sm_zero j fun i hi=>h i (by omega) (by omega)]; omega
    · rw [sm_one k (by omega) fun i hi hne=>h i (by omega) hne,h k (by omega) (Ne.symm e)]; omega
structure PtOk (p : List PartCount) : Prop where
  len : p.length ≤ 10
  cnt : ∀ i,i < p.length → 1 ≤ (ix p i).Count ∧ (ix p i).Count ≤ 1000
  nam : ∀ i,i < p.length → nameB (ix p i).Part = true
  inj : ∀ i j,i < p.length → j < p.length → (ix p i).Part = (ix p j).Part → i = j
theorem parts_ok {t : List Task} (h0 : tasksE n t = 0) {x : Str} (hk : t.any (byName x) = true) : PtOk (taskOf t x).Parts:=by
  obtain ⟨_,k2,_,_⟩:=known_ix hk
  have hE:=(tasks_zero h0).2 _ k2
  have h : (taskOf t x).Parts.length ≤ 10 ∧ cnts (taskOf t x).Parts 1000 = 0:=by
    show (ix t (findI (byName x) t).toNat).Parts.length ≤ 10 ∧ cnts (ix t (findI (byName x) t).toNat).Parts 1000 = 0
    generalize (findI (byName x) t).toNat = i at hE
    unfold taskE at hE
    cases h1 : nameB (ix t i).Name
    · simp [h1] at hE
    rw [h1] at hE
    simp only [Bool.not_true,cond_false] at hE
    by_cases h2 : findI (byName (ix t i).Name) t < (i : Int)
    · rw [decide_eq_true h2] at hE; simp at hE
    rw [decide_eq_false h2] at hE
    simp only [cond_false] at hE
    cases h3 : (!((decide (0 ≤ (ix t i).Cents)) && (decide ((ix t i).Cents ≤ 1000000000)))) || (!((decide (0 ≤ (ix t i).Hours)) && (decide ((ix t i).Hours ≤ 10000))))
    · rw [h3] at hE
      simp only [cond_false] at hE
      cases h4 : large (ix t i)
      · rw [h4] at hE
        simp only [cond_false] at hE
        by_cases h5 : known t (ix t i).Needs = 0
        · rw [h5] at hE
          simp only [bne_self_eq_false,cond_false] at hE
          by_cases h6 : firstE (grpE t (ix t i).OneOf) 0 (ix t i).OneOf.length = 0
          · rw [h6] at hE
            simp only [bne_self_eq_false,cond_false] at hE
            refine ⟨?_,hE⟩
            unfold large at h4
            simp only [Bool.or_eq_false_iff,decide_eq_false_iff_not] at h4
            omega
          · rw [bne_t h6] at hE; exact absurd hE h6
        · rw [bne_t h5] at hE; exact absurd hE h5
      · rw [h4] at hE; simp at hE
    · rw [h3] at hE; simp at hE
  obtain ⟨hl,hc⟩:=h
  have hv : ∀ i,i < (taskOf t x).Parts.length → nameB (ix (taskOf t x).Parts i).Part = true ∧ ((taskOf t x).Parts.take i).any (byPartC (ix (taskOf t x).Parts i).Part) = false ∧ 1 ≤ (ix (taskOf t x).Parts i).Count ∧ (ix (taskOf t x).Parts i).Count ≤ 1000:=fun i hi=>by
    have h1:=firstE_zero hc i (by omega) (by omega)
    unfold cntE at h1
    cases a1 : nameB (ix (taskOf t x).Parts i).Part
    · rw [a1] at h1; simp at h1
    rw [a1] at h1
    cases a2 : ((taskOf t x).Parts.take i).any (byPartC (ix (taskOf t x).Parts i).Part)
    · rw [a2] at h1
      simp only [Bool.not_true,cond_false] at h1
      by_cases a3 : 1 ≤ (ix (taskOf t x).Parts i).Count
      · by_cases a4 : (ix (taskOf t x).Parts i).Count ≤ 1000
        · exact ⟨rfl,rfl,a3,a4⟩
        · rw [decide_eq_false a4] at h1; simp at h1
      · rw [decide_eq_false a3] at h1; simp at h1
    · rw [a2] at h1; simp at h1
  have key : ∀ i j,i < j → j < (taskOf t x).Parts.length → (ix (taskOf t x).Parts i).Part ≠ (ix (taskOf t x).Parts j).Part:=fun i j h1 h2 e=>by
    have:=(hv j h2).2.1
    rw [List.any_eq_false] at this
    refine this (ix (taskOf t x).Parts i) ?_ (by simp [byPartC,e])
    have hi : i < ((taskOf t x).Parts.take j).length:=by simp; omega
    rw [← ix_take h1 (by omega : i < (taskOf t x).Parts.length)]
    exact ix_mem hi
  refine ⟨hl,fun i hi=>(hv i hi).2.2,fun i hi=>(hv i hi).1,fun i j hi hj e=>?_⟩
  rcases Nat.lt_trichotomy i j with c | c | c
  · exact absurd e (key i j c hj)
  · exact c
  · exact absurd e.symm (key j i c hi)
theorem pcs_one {p : List PartCount} (h : PtOk p) {x : Str} {j : Nat} (hj : j < p.length) (e : (ix p j).Part = x) : pcs p x p.length = (ix p j).Count:=by
  unfold pcs
  rw [sm_one (j:=j) _ hj fun i hi hne=>?_,if_pos e]
  rw [if_neg]
  intro c
  exact hne (h.inj i j hi hj (c.trans e.symm))
theorem pcs_find {p : List PartCount} (h : PtOk p) (x : Str) : pcs p x p.length = if findI (byPartC x) p < 0 then 0 else (ix p (findI (byPartC x) p).toNat).Count:=by
  by_cases c : findI (byPartC x) p < 0
  · rw [if_pos c]
    unfold pcs
    refine sm_zero _ fun i hi=>?_
    rw [if_neg]
    intro e
    have h1:=findI_any (byPartC x) p
    rw [decide_eq_false (by omega)] at h1
    have:=List.any_eq_false.1 h1.symm _ (ix_mem hi)
    simp [byPartC,e] at this
  · obtain ⟨f1,f2,f3,f4⟩:=findI_pos c
    rw [if_neg c]
    exact pcs_one h f2 (by simpa [byPartC] using f3)
theorem pcs_bounds {p : List PartCount} (h : PtOk p) (x : Str) : ∀ k,k ≤ p.length → 0 ≤ pcs p x k ∧ pcs p x k ≤ 1000 * (k : Int)
  | 0,_=>⟨Int.le_refl _,Int.le_refl _⟩
  | k + 1,hk=>by
    obtain ⟨a,b⟩:=pcs_bounds h x k (by omega)
    obtain ⟨c1,c2⟩:=h.cnt k (by omega)
    show 0 ≤ pcs p x k + (if (ix p k).Part = x then (ix p k).Count else 0) ∧ pcs p x k + (if (ix p k).Part = x then (ix p k).Count else 0) ≤ _
    split <;> constructor <;> omega
theorem tot_bounds {t : List Task} (h0 : tasksE n t = 0) {l : List Str} (hk : Kn t l) (x : Str) : ∀ v,v ≤ l.length → 0 ≤ tot t l x v ∧ tot t l x v ≤ 10000 * (v : Int)
  | 0,_=>⟨Int.le_refl _,Int.le_refl _⟩
  | v + 1,hv=>by
    obtain ⟨a,b⟩:=tot_bounds h0 hk x v (by omega)
    have hp:=parts_ok h0 (hk _ (ix_mem (show v < l.length by omega)))
    obtain ⟨c1,c2⟩:=pcs_bounds hp x _ (Nat.le_refl _)
    have:=hp.len
    show 0 ≤ tot t l x v + pcs _ x _ ∧ tot t l x v + pcs _ x _ ≤ _
    constructor <;> omega
end
section
set_option maxRecDepth 4000
open Go
variable {n : Nat}
structure Cm (t : List Task) (l : List Str) (v k : Nat) (m : List (Str × Int)) : Prop where
  nd : (m.map Prod.fst).Nodup
  kn : ∀ x,x ∈ m.map Prod.fst ↔ (∃ i,i < v ∧ ∃ q,q < (taskOf t (ix l i)).Parts.length ∧ (ix (taskOf t (ix l i)).Parts q).Part = x) ∨ ∃ q,q < k ∧ (ix (taskOf t (ix l v)).Parts q).Part = x
  vl : ∀ x,Option.getD (List.lookup x m) 0 = tot t l x v + pcs (taskOf t (ix l v)).Parts x k
  len : m.length ≤ 10 * v + k
theorem Cm.put {t : List Task} {l : List Str} {v k : Nat} {m : List (Str × Int)} (h : Cm t l v k m) : Cm t l v (k + 1) (mPut (ix (taskOf t (ix l v)).Parts k).Part (Option.getD (List.lookup (ix (taskOf t (ix l v)).Parts k).Part m) 0 + (ix (taskOf t (ix l v)).Parts k).Count) m):=by
  have hk:=keys_put (ix (taskOf t (ix l v)).Parts k).Part (Option.getD (List.lookup (ix (taskOf t (ix l v)).Parts k).Part m) 0 + (ix (taskOf t (ix l v)).Parts k).Count) m
  refine ⟨?_,fun x=>?_,fun x=>?_,?_⟩
  · rw [hk]
    by_cases c : (ix (taskOf t (ix l v)).Parts k).Part ∈ m.map Prod.fst
    · rw [if_pos c]; exact h.nd
    · rw [if_neg c,List.nodup_append]
      refine ⟨h.nd,by simp,fun a ha b hb=>?_⟩
      rw [List.mem_singleton.1 hb]
      rintro rfl; exact c ha
  · have e : x ∈ (mPut (ix (taskOf t (ix l v)).Parts k).Part (Option.getD (List.lookup (ix (taskOf t (ix l v)).Parts k).Part m) 0 + (ix (taskOf t (ix l v)).Parts k).Count) m).map Prod.fst ↔ x ∈ m.map Prod.fst ∨ x = (ix (taskOf t (ix l v)).Parts k).Part:=by
      rw [hk]
      by_cases c : (ix (taskOf t (ix l v)).Parts k).Part ∈ m.map Prod.fst
      · rw [if_pos c]
        exact ⟨.inl,fun g=>g.elim id fun g=>g ▸ c⟩
      · rw [if_neg c,List.mem_append,List.mem_singleton]
    rw [e,h.kn]
    constructor
    · rintro ((a | ⟨q,a,b⟩) | a)
      · exact .inl a
      · exact .inr ⟨q,by omega,b⟩
      · exact .inr ⟨k,by omega,a.symm⟩
    · rintro (a | ⟨q,a,b⟩)
      · exact .inl (.inl a)
      · by_cases c : q = k
        · subst c; exact .inr b.symm
        · exact .inl (.inr ⟨q,by omega,b⟩)
  · rw [lookup_put]
    have e : pcs (taskOf t (ix l v)).Parts x (k + 1) = pcs (taskOf t (ix l v)).Parts x k + (if (ix (taskOf t (ix l v)).Parts k).Part = x then (ix (taskOf t (ix l v)).Parts k).Count else 0):=rfl
    rw [e]
    by_cases c : x = (ix (taskOf t (ix l v)).Parts k).Part
    · rw [if_pos c,if_pos c.symm,Option.getD_some,← c,h.vl]; omega
    · rw [if_neg c,if_neg (Ne.symm c),h.vl]; omega
  · have:=congrArg List.length hk
    rw [List.length_map] at this
    rw [this]
    have hl:=h.len
    split
    · rw [List.length_map]; omega
    · rw [List.length_append,List.length_map,List.length_singleton]; omega
theorem Cm.next {t : List Task} {l : List Str} {v : Nat} {m : List (Str × Int)} (h : Cm t l v (taskOf t (ix l v)).Parts.length m) (hl : (taskOf t (ix l v)).Parts.length ≤ 10) : Cm t l (v + 1) 0 m:=by
  refine ⟨h.nd,fun x=>?_,fun x=>?_,by have:=h.len; omega⟩
  · rw [h.kn]
    constructor
    · rintro (⟨i,a,b⟩ | ⟨q,a,b⟩)
      · exact .inl ⟨i,by omega,b⟩
      · exact .inl ⟨v,by omega,q,a,b⟩
    · rintro (⟨i,a,b⟩ | ⟨q,a,b⟩)
      · by_cases c : i = v
        · subst c; exact .inr b
        · exact .inl ⟨i,by omega,b⟩
      · omega
  · rw [h.vl]
    show _ = tot t l x v + pcs _ x _ + 0
    omega
def needP (t : List Task) (l : List Str) (x : Str) : Prop:=∃ i,i < l.length ∧ ∃ q,q < (taskOf t (ix l i)).Parts.length ∧ (ix (taskOf t (ix l i)).Parts q).Part = x
def partL (t : List Task) (l nm : List Str) : List PartCount:=nm.map fun x=>PartCount.mk x (tot t l x l.length)
theorem lookup_some {m : List (Str × Int)} (h : (m.map Prod.fst).Nodup) {x : Str × Int} (hx : x ∈ m) : List.lookup x.1 m = some x.2:=by
  induction m with
  | nil=>cases hx
  | cons y m ih =>
    obtain ⟨k,u⟩:=y
    simp only [List.map_cons,List.nodup_cons] at h
    rw [List.lookup_cons]
    rcases List.mem_cons.1 hx with e | e
    · subst e; simp
    · have hne : x.1 ≠ k:=fun c=>h.1 (c ▸ List.mem_map_of_mem e)
      have : (x.1 == k) = false:=by rw [beq_eq_false_iff_ne]; exact hne
      rw [this]
      exact ih h.2 e
theorem partsOf_res {t : List Task} {l nm : List Str} (ht : OkT t) (h0 : tasksE n t = 0) (hl : setE t l = 0) (hll : l.length ≤ 63) (hn : 1000 < n) (ha : Asc nm) (hnm : ∀ x,x ∈ nm ↔ needP t l x) : restore_PartsOf n t l = some (0,partL t l nm):=by
  have hlen:=ht.len
  have hk:=(set_ok hl).1
  rw [restore_PartsOf,sets_res ht (by simp) (by simp only [List.mem_cons,List.mem_nil_iff,or_false]; rintro x rfl; omega) hn,h0]
  have e : firstE (fun v=>setE t (ix [l] v)) 0 [l].length = 0:=by
    show (bif setE t l != 0 then setE t l else 0) = 0
    rw [hl]; rfl
  simp only [bne_self_eq_false,cond_false,e,Option.bind_some,withK_eq]
  obtain ⟨⟨s2,m⟩,back2,⟨e3,p1⟩,r2⟩:=loop_inv (F:=restore_PartsOf_L2 n t l fun v12=>loopN (restore_PartsOf_L3 fun v20=>(q33k n v20).bind fun y21=>chk (decide (v20.length = y21.length)) <| some (0,y21)) n ([],none,v12)) (len:=l.length) (P:=fun v st=>st.1 = v ∧ Cm t l v 0 st.2) (fun back v st hv hP=>by
    obtain ⟨s,m⟩:=st
    obtain ⟨e,hC⟩:=hP
    simp only at e hC
    subst e
    have hkv:=hk _ (ix_mem hv)
    obtain ⟨k1,k2,k3,k4⟩:=known_ix hkv
    have hp:=parts_ok h0 hkv
    have hpl:=hp.len
    simp only [restore_PartsOf_L2,hv,decide_true,cond_true,withK_eq,find_eq t (ix l s) (by omega : t.length < n) (by omega),Option.bind_some,k1,k2,chk_t]
    obtain ⟨⟨s3,m3⟩,back3,⟨e4,q1⟩,r3⟩:=loop_inv (F:=restore_PartsOf_L1 t (findI (byName (ix l s)) t) fun v11=>chk (nI (s + 1)) (back (s + 1,v11))) (len:=(taskOf t (ix l s)).Parts.length) (P:=fun k st=>st.1 = k ∧ Cm t l s k st.2) (fun back' k st hk' hP'=>by
      obtain ⟨k',m'⟩:=st
      obtain ⟨e',hC'⟩:=hP'
      simp only at e' hC'
      subst e'
      refine ⟨(k' + 1,_),⟨rfl,hC'.put⟩,?_⟩
      have b1:=tot_bounds h0 hk (ix (taskOf t (ix l s)).Parts k').Part s (by omega)
      have b2:=pcs_bounds hp (ix (taskOf t (ix l s)).Parts k').Part k' (by omega)
      have b3:=hp.cnt k' hk'
      have b4:=hC'.vl (ix (taskOf t (ix l s)).Parts k').Part
      simp only [restore_PartsOf_L1]
      rw [show ix t (findI (byName (ix l s)) t).toNat = taskOf t (ix l s) from rfl,decide_eq_true hk']
      simp only [cond_true,chk_t]
      rw [chk_of (inI_of (by omega) (by omega)),chk_of (nI_of (by omega))]) n 0 (0,m) (Nat.zero_le _) (by omega) ⟨rfl,hC⟩
    simp only at e4 q1
    subst e4
    refine ⟨(s + 1,m3),⟨rfl,q1.next hpl⟩,?_⟩
    rw [r3]
    simp only [restore_PartsOf_L1]
    rw [show ix t (findI (byName (ix l s)) t).toNat = taskOf t (ix l s) from rfl,decide_eq_false (Nat.lt_irrefl _)]
    simp only [cond_false]
    rw [chk_of (nI_of (by omega))]) n 0 (0,[]) (by omega) (by omega) ⟨rfl,⟨List.nodup_nil,fun x=>by simp,fun x=>rfl,by simp⟩⟩
  simp only at e3 p1
  subst e3
  rw [r2]
  have hml:=p1.len
  have hks : ((m.map fun x : Str × Int=>PartCount.mk x.1 x.2).map fun x=>x.Part).Nodup:=by
    rw [List.map_map]; exact p1.nd
  obtain ⟨d,g1,g2,g3⟩:=sortC (n:=n) (l:=m.map fun x : Str × Int=>PartCount.mk x.1 x.2) (by simp; omega) hks hn
  have hd : d = partL t l nm:=by
    have hmem : ∀ p ∈ d,p.Count = tot t l p.Part l.length:=fun p hp=>by
      obtain ⟨x,hx,rfl⟩:=List.mem_map.1 (g2.mem_iff.1 hp)
      have:=lookup_some p1.nd hx
      have h2:=p1.vl x.1
      rw [this] at h2
      simp only [Option.getD_some] at h2
      rw [h2]
      show tot t l x.1 l.length + 0 = tot t l x.1 l.length
      omega
    have hnames : d.map (fun x=>x.Part) = nm:=g3.ext ha fun x=>by
      rw [(g2.map _).mem_iff,List.map_map]
      show x ∈ m.map Prod.fst ↔ _
      rw [p1.kn,hnm]
      constructor
      · rintro (a | ⟨q,a,_⟩)
        · exact a
        · omega
      · exact .inl
    rw [partL,← hnames,List.map_map]
    refine (List.map_id' d).symm.trans (List.map_congr_left fun p hp=>?_)
    show p = PartCount.mk p.Part (tot t l p.Part l.length)
    rw [← hmem p hp]
  simp only [restore_PartsOf_L2,Nat.lt_irrefl,decide_false,cond_false]
  refine rngP_loop (ks:=m.map fun x : Str × Int=>PartCount.mk x.1 x.2) (by simp; omega) (fun out hp=>?_) n _ _ _ (by omega) (by simp)
  have hol : out.length ≤ 900:=by rw [hp.length_eq]; simp; omega
  obtain ⟨d',q1,q2,q3⟩:=sortC (n:=n) (l:=out) hol ((hp.map _).nodup_iff.2 hks) hn
  have : d' = d:=sorted_one q3 g3 (q2.trans (hp.trans g2.symm))
  subst this
  rw [q1,Option.bind_some,chk_of (decide_eq_true q2.length_eq.symm),hd]
theorem partsOf_ref {t : List Task} {l : List Str} (ht : OkT t) (h0 : tasksE n t = 0) (hl : setE t l = 0) (hll : l.length ≤ 63) (hn : 1000 < n) : ∃ nm,Asc nm ∧ nm.length ≤ 630 ∧ (∀ x,x ∈ nm ↔ needP t l x) ∧ agrafferef08_PartsOf n t l = some (partL t l nm):=by
  have hlen:=ht.len
  have hk:=(set_ok hl).1
  rw [agrafferef08_PartsOf]
  simp only [withK_eq]
  obtain ⟨⟨nm,s2⟩,back2,⟨e3,p1,p2,p3⟩,r2⟩:=loop_inv (F:=agrafferef08_PartsOf_L2 n t l fun v15=>loopN (agrafferef08_PartsOf_L4 n t l v15 fun v36=>some v36) n ([],0)) (len:=l.length) (P:=fun v st=>st.2 = v ∧ Asc st.1 ∧ st.1.length ≤ 10 * v ∧ ∀ x,x ∈ st.1 ↔ ∃ i,i < v ∧ ∃ q,q < (taskOf t (ix l i)).Parts.length ∧ (ix (taskOf t (ix l i)).Parts q).Part = x) (fun back v st hv hP=>by
    obtain ⟨nm,s⟩:=st
    obtain ⟨e,hA,hL,hM⟩:=hP
    simp only at e hA hL hM
    subst e
    have hkv:=hk _ (ix_mem hv)
    obtain ⟨k1,k2,k3,k4⟩:=known_ix hkv
    have hp:=parts_ok h0 hkv
    have hpl:=hp.len
    simp only [agrafferef08_PartsOf_L2,hv,decide_true,cond_true,withK_eq,Find_eq t (ix l s) (by omega : t.length < n) (by omega),Option.bind_some,k1,k2,chk_t]
    obtain ⟨⟨nm3,s3⟩,back3,⟨e4,q1,q2,q3⟩,r3⟩:=loop_inv (F:=agrafferef08_PartsOf_L1 n t (findI (byName (ix l s)) t) fun v14=>chk (nI (s + 1)) (back (v14,s + 1))) (len:=(taskOf t (ix l s)).Parts.length) (P:=fun k st=>st.2 = k ∧ Asc st.1 ∧ st.1.length ≤ 10 * s + k ∧ ∀ x,x ∈ st.1 ↔ x ∈ nm ∨ ∃ q,q < k ∧ (ix (taskOf t (ix l s)).Parts q).Part = x) (fun back' k st hk' hP'=>by
      obtain ⟨nm',k'⟩:=st
      obtain ⟨e',hA',hL',hM'⟩:=hP'
      simp only at e' hA' hL' hM'
      subst e'
      obtain ⟨d,d1,d2,d3,d4⟩:=put_any (n:=n) (s:=(ix (taskOf t (ix l s)).Parts k').Part) hA' (by omega) hn
      refine ⟨(d,k' + 1),⟨rfl,d2,by show d.length ≤ _; omega,fun x=>?_⟩,?_⟩
      · show x ∈ d ↔ _
        rw [d3,hM']
        constructor
        · rintro ((a | ⟨q,a,b⟩) | a)
          · exact .inl a
          · exact .inr ⟨q,by omega,b⟩
          · exact .inr ⟨k',by omega,a.symm⟩
        · rintro (a | ⟨q,a,b⟩)
          · exact .inl (.inl a)
          · by_cases c : q = k'
            · subst c; exact .inr b.symm
            · exact .inl (.inr ⟨q,by omega,b⟩)
      · simp only [agrafferef08_PartsOf_L1]
        rw [show ix t (findI (byName (ix l s)) t).toNat = taskOf t (ix l s) from rfl,decide_eq_true hk']
        simp only [cond_true,chk_t,d1,Option.bind_some]
        rw [chk_of (nI_of (by omega))]) n 0 (nm,0) (Nat.zero_le _) (by omega) ⟨rfl,hA,by simpa using hL,fun x=>by simp⟩
    simp only at e4 q1 q2 q3
    subst e4
    refine ⟨(nm3,s + 1),⟨rfl,q1,by show nm3.length ≤ _; omega,fun x=>?_⟩,?_⟩
    · show x ∈ nm3 ↔ _
      rw [q3,hM]
      constructor
      · rintro (⟨i,a,b⟩ | b)
        · exact ⟨i,by omega,b⟩
        · exact ⟨s,by omega,b⟩
      · rintro ⟨i,a,b⟩
        by_cases c : i = s
        · subst c; exact .inr b
        · exact .inl ⟨i,by omega,b⟩
    · rw [r3]
      simp only [agrafferef08_PartsOf_L1]
      rw [show ix t (findI (byName (ix l s)) t).toNat = taskOf t (ix l s) from rfl,decide_eq_false (Nat.lt_irrefl _)]
      simp only [cond_false]
      rw [chk_of (nI_of (by omega))]) n 0 ([],0) (by omega) (by omega) ⟨rfl,List.Pairwise.nil,by simp,fun x=>by simp⟩
  simp only at e3 p1 p2 p3
  subst e3
  refine ⟨nm,p1,by omega,p3,?_⟩
  rw [r2]
  simp only [agrafferef08_PartsOf_L2,Nat.lt_irrefl,decide_false,cond_false]
  refine loop_fold (st:=fun v=>partL t l (nm.take v)) (len:=nm.length) (fun back v hv=>?_) (fun back=>?_) n (by omega) rfl
  · simp only [agrafferef08_PartsOf_L4,hv,decide_true,cond_true,withK_eq]
    refine loop_fold' (st:=fun i=>tot t l (ix nm v) i) (len:=l.length) (fun back' i hi=>?_) (fun back'=>?_) n (by omega) rfl
    · have hki:=hk _ (ix_mem hi)
      obtain ⟨k1,k2,k3,k4⟩:=known_ix hki
      have hp:=parts_ok h0 hki
      have hpl:=hp.len
      have b1:=tot_bounds h0 hk (ix nm v) i (by omega)
      have e : tot t l (ix nm v) (i + 1) = tot t l (ix nm v) i + pcs (taskOf t (ix l i)).Parts (ix nm v) (taskOf t (ix l i)).Parts.length:=rfl
      simp only [agrafferef08_PartsOf_L3,hi,decide_true,cond_true,withK_eq,Find_eq t (ix l i) (by omega : t.length < n) (by omega),Option.bind_some,k1,k2,chk_t]
      rw [show ix t (findI (byName (ix l i)) t).toNat = taskOf t (ix l i) from rfl,FindPart_eq (n:=n) _ _ (by omega) (by omega),Option.bind_some,e,pcs_find hp]
      by_cases c : findI (byPartC (ix nm v)) (taskOf t (ix l i)).Parts < 0
      · rw [if_pos c,decide_eq_false (by omega)]
        simp only [cond_false,Int.add_zero]
        rw [chk_of (nI_of (by omega))]
      · obtain ⟨f1,f2,f3,f4⟩:=findI_pos c
        have b3:=hp.cnt _ f2
        rw [if_neg c,decide_eq_true (by omega)]
        simp only [cond_true]
        rw [chk_of (inB_of f1 f2),chk_of (decide_eq_true f2),chk_of (inI_of (by omega) (by omega)),chk_of (nI_of (by omega))]
    · simp only [agrafferef08_PartsOf_L3,Nat.lt_irrefl,decide_false,cond_false]
      have e : partL t l (nm.take (v + 1)) = partL t l (nm.take v) ++ [PartCount.mk (ix nm v) (tot t l (ix nm v) l.length)]:=by
        rw [partL,List.take_succ_eq_append_getElem hv,List.map_append,ix_eq hv]; rfl
      rw [chk_of (room_of (by simp [partL]; omega) (by simp [partL]; omega)),chk_of (nI_of (by omega)),e]
  · simp only [agrafferef08_PartsOf_L4,Nat.lt_irrefl,decide_false,cond_false,List.take_length]
end
section
set_option maxRecDepth 4000
open Go
variable {n : Nat}
theorem set_len {t : List Task} {l : List Str} (h : setE t l = 0) : l.length ≤ t.length:=by
  obtain ⟨h1,h2⟩:=set_ok h
  exact Inv.len ⟨h2.nodup,h1⟩
end
section
set_option maxRecDepth 4000
open Go
def psum (s : Str) : List PartPromise → Int
  | []=>0
  | x :: r=>(bif x.Part == s then x.Count else 0) + psum s r
theorem psum_append (s : Str) : ∀ l r : List PartPromise,psum s (l ++ r) = psum s l + psum s r
  | [],r=>by simp [psum]
  | x :: l,r=>by simp only [List.cons_append,psum,psum_append s l r]; omega
theorem psum_take (s : Str) (l : List PartPromise) {v : Nat} (h : v < l.length) : psum s (l.take (v + 1)) = psum s (l.take v) + (bif (ix l v).Part == s then (ix l v).Count else 0):=by
  rw [List.take_succ_eq_append_getElem h,psum_append,ix_eq h]
  simp [psum]
theorem psum_bound (s : Str) : ∀ l : List PartPromise,(∀ x ∈ l,0 ≤ x.Count ∧ x.Count ≤ 10000) → 0 ≤ psum s l ∧ psum s l ≤ 10000 * (l.length : Int)
  | [],_=>by simp [psum]
  | x :: r,h=>by
    have h1:=h x (by simp)
    have h2:=psum_bound s r fun y hy=>h y (by simp [hy])
    simp only [psum,List.length_cons,Int.natCast_add,Int.natCast_one]
    cases (x.Part == s) <;> simp <;> omega
theorem promised_eq (n : Nat) (l : List PartPromise) (s : Str) (hl : l.length ≤ 1000) (hn : 1000 < n) (hb : ∀ x ∈ l,0 ≤ x.Count ∧ x.Count ≤ 10000) : agrafferef08_promised n l s = some (psum s l):=by
  rw [agrafferef08_promised,withK_eq]
  have e0 : ((0 : Int),0) = (fun v=>(psum s (l.take v),v)) 0:=by simp [psum]
  rw [e0,loop_through (st:=fun v=>(psum s (l.take v),v)) (k:=some (psum s l)) (len:=l.length) ?_ ?_ n (by omega)]
  · intro back v hv
    rw [agrafferef08_promised_L1]
    have hp:=psum_take s l hv
    have hb2:=psum_bound s (l.take (v + 1)) fun x hx=>hb x (List.mem_of_mem_take hx)
    have hlen : (l.take (v + 1)).length ≤ 1000:=by simp; omega
    simp only [hv,decide_true,cond_true,withK_eq,nI_of (by omega : v + 1 ≤ 9223372036854775807),chk_t]
    cases e : (ix l v).Part == s with
    | true =>
      rw [e] at hp
      simp only [cond_true] at hp ⊢
      rw [← hp,chk_of (inI_of (by omega) (by omega))]
    | false =>
      rw [e] at hp
      simp only [cond_false,Int.add_zero] at hp ⊢
      rw [hp]
  · intro back
    rw [agrafferef08_promised_L1]
    simp
def promE (a0 : List Stocked) (a1 : List PartPromise) (v : Nat) : Int :=
  bif !nameB (ix a1 v).Instrument then 4 else bif decide (findI (byPart (ix a1 v).Part) a0 < (0 : Int)) then 6
  else bif !((decide (1 ≤ (ix a1 v).Count)) && (decide ((ix a1 v).Count ≤ 10000))) then 2
  else bif decide ((ix a0 (findI (byPart (ix a1 v).Part) a0).toNat).Count < psum (ix a1 v).Part (a1.take (v + 1))) then 20 else 0
theorem promE_zero {a0 : List Stocked} {a1 : List PartPromise} {v : Nat} (h : promE a0 a1 v = 0) : ¬ findI (byPart (ix a1 v).Part) a0 < 0 ∧ 1 ≤ (ix a1 v).Count ∧ (ix a1 v).Count ≤ 10000 ∧ psum (ix a1 v).Part (a1.take (v + 1)) ≤ (ix a0 (findI (byPart (ix a1 v).Part) a0).toNat).Count:=by
  unfold promE at h
  cases h1 : nameB (ix a1 v).Instrument
  · simp [h1] at h
  · simp only [h1,Bool.not_true,cond_false] at h
    by_cases h2 : findI (byPart (ix a1 v).Part) a0 < 0
    · simp [h2] at h
    · simp only [h2,decide_false,cond_false] at h
      cases h3 : (decide (1 ≤ (ix a1 v).Count)) && (decide ((ix a1 v).Count ≤ 10000))
      · simp [h3] at h
      · simp only [h3,Bool.not_true,cond_false] at h
        simp only [Bool.and_eq_true,decide_eq_true_eq] at h3
        by_cases h4 : (ix a0 (findI (byPart (ix a1 v).Part) a0).toNat).Count < psum (ix a1 v).Part (a1.take (v + 1))
        · simp [h4] at h
        · exact ⟨h2,h3.1,h3.2,by omega⟩
def promC (a0 : List Stocked) (a1 : List PartPromise) : Int:=bif stockC a0 != 0 then stockC a0 else bif decide (200 < a1.length) then 8 else firstE (promE a0 a1) 0 a1.length
theorem take_bound {a0 : List Stocked} {a1 : List PartPromise} {v : Nat} (hz : ∀ j,j < v → promE a0 a1 j = 0) : ∀ x ∈ a1.take v,0 ≤ x.Count ∧ x.Count ≤ 10000:=by
  intro x hx
  obtain ⟨i,hi,rfl⟩:=List.mem_iff_getElem.1 hx
  simp only [List.length_take] at hi
  have:=promE_zero (hz i (by omega))
  rw [List.getElem_take,← ix_eq (by omega)]
  omega
def shelfAt (a0 : List Stocked) (a1 : List PartPromise) (v : Nat) : List Int:=a0.map fun x=>x.Count - psum x.Part (a1.take v)
theorem ix_map {α β : Type} [Inhabited α] [Inhabited β] {l : List α} {f : α → β} {i : Nat} (h : i < l.length) : ix (l.map f) i = f (ix l i):=by
  rw [ix_eq (by simpa using h),ix_eq h,List.getElem_map]
theorem stock_unique {a0 : List Stocked} (h : stockC a0 = 0) {i j : Nat} (hi : i < j) (hj : j < a0.length) : ((ix a0 i).Part == (ix a0 j).Part) = false:=by
  unfold stockC at h
  by_cases hl : 60 < a0.length
  · simp [hl] at h
  simp only [hl,decide_false,cond_false] at h
  have:=firstE_zero h j (by omega) (by omega)
  unfold stockE at this
  cases h1 : nameB (ix a0 j).Part
  · simp [h1] at this
  · simp only [h1,Bool.not_true,cond_false] at this
    by_cases h2 : (0 : Int) ≤ findI (byPart (ix a0 j).Part) (a0.take j)
    · simp [h2] at this
    · obtain ⟨_,h3⟩:=findI_neg (show findI (byPart (ix a0 j).Part) (a0.take j) < 0 by omega)
      have hm : ix a0 i ∈ a0.take j:=by
        rw [ix_eq (by omega)]
        exact List.mem_iff_getElem.2 ⟨i,by simp; omega,by simp⟩
      exact h3 _ hm
theorem stock_len {a0 : List Stocked} (h : stockC a0 = 0) : a0.length ≤ 60:=by
  unfold stockC at h
  by_cases hl : 60 < a0.length
  · simp [hl] at h
  · omega
theorem stock_count {a0 : List Stocked} (h : stockC a0 = 0) {j : Nat} (hj : j < a0.length) : 0 ≤ (ix a0 j).Count ∧ (ix a0 j).Count ≤ 10000:=by
  have hl:=stock_len h
  unfold stockC at h
  have hl' : ¬ 60 < a0.length:=by omega
  simp only [hl',decide_false,cond_false] at h
  have:=firstE_zero h j (by omega) (by omega)
  unfold stockE at this
  cases h1 : nameB (ix a0 j).Part
  · simp [h1] at this
  · simp only [h1,Bool.not_true,cond_false] at this
    cases h2 : decide ((0 : Int) ≤ findI (byPart (ix a0 j).Part) (a0.take j))
    · simp only [h2,cond_false] at this
      cases h3 : (!((decide (0 ≤ (ix a0 j).Cents)) && (decide ((ix a0 j).Cents ≤ 1000000000)))) || (!((decide (0 ≤ (ix a0 j).Count)) && (decide ((ix a0 j).Count ≤ 10000))))
      · simp at h3; omega
      · rw [h3] at this; simp at this
    · simp [h2] at this
theorem shelf_len (a0 : List Stocked) (a1 : List PartPromise) (v : Nat) : (shelfAt a0 a1 v).length = a0.length:=by simp [shelfAt]
theorem shelf_step {a0 : List Stocked} {a1 : List PartPromise} {v : Nat} (h0 : stockC a0 = 0) (hv : v < a1.length) {i : Nat} (hi : i < a0.length) (hp : (ix a0 i).Part = (ix a1 v).Part) :
    (shelfAt a0 a1 v).set i (ix (shelfAt a0 a1 v) i - (ix a1 v).Count) = shelfAt a0 a1 (v + 1):=by
  refine List.ext_getElem (by simp [shelfAt]) fun j h1 h2=>?_
  have hj : j < a0.length:=by simpa [shelfAt] using h2
  rw [List.getElem_set]
  have e : ∀ u,(shelfAt a0 a1 u)[j]'(by simpa [shelfAt] using hj) = (ix a0 j).Count - psum (ix a0 j).Part (a1.take u):=fun u=>by simp [shelfAt,ix_eq hj]
  by_cases hij : i = j
  · subst hij
    rw [if_pos rfl,e (v + 1),psum_take _ _ hv,ix_eq (by simpa [shelfAt] using hj),e v,hp]
    simp
    omega
  · rw [if_neg hij,e v,e (v + 1),psum_take _ _ hv]
    have : ((ix a1 v).Part == (ix a0 j).Part) = false:=by
      rw [← hp]
      rcases Nat.lt_or_ge i j with h | h
      · exact stock_unique h0 h hj
      · have:=stock_unique h0 (show j < i by omega) hi
        rw [Bool.eq_false_iff] at this ⊢
        intro hc
        exact this (by rw [eq_of_beq hc]; simp)
    rw [this]; simp
theorem shelf_take_eq (n : Nat) (a0 : List Stocked) (a1 : List PartPromise) (v : Nat) (h0 : stockC a0 = 0) (hv : v < a1.length) (hp : (ix a1 v).Instrument.length ≤ 20) (hz : ∀ j,j < v → promE a0 a1 j = 0) (hl1 : a1.length ≤ 1000) (hn : 1000 < n) :
    restore_shelf_take n a0 (shelfAt a0 a1 v) (ix a1 v) = some (promE a0 a1 v,bif promE a0 a1 v != 0 then shelfAt a0 a1 v else shelfAt a0 a1 (v + 1)):=by
  have hl:=stock_len h0
  have hI:=isName_eq (ix a1 v).Instrument n (by omega) (by omega)
  have hF:=stocked_eq n a0 (ix a1 v).Part (by omega) (by omega)
  rw [restore_shelf_take]
  simp only [hF,hI,Option.bind_some,q53k]
  unfold promE
  cases nameB (ix a1 v).Instrument
  · rfl
  simp only [Bool.not_true,cond_false]
  by_cases h2 : findI (byPart (ix a1 v).Part) a0 < 0
  · simp [h2]
  obtain ⟨f1,f2,f3,f4⟩:=findI_pos h2
  have hpart : (ix a0 (findI (byPart (ix a1 v).Part) a0).toNat).Part = (ix a1 v).Part:=eq_of_beq f3
  simp only [h2,decide_false,cond_false]
  cases h3 : (decide (1 ≤ (ix a1 v).Count)) && (decide ((ix a1 v).Count ≤ 10000))
  · rfl
  simp only [Bool.and_eq_true,decide_eq_true_eq] at h3
  have f2' : (findI (byPart (ix a1 v).Part) a0).toNat < (shelfAt a0 a1 v).length:=by rw [shelf_len]; exact f2
  simp only [Bool.not_true,cond_false,inB_of f1 f2',chk_t,f2',decide_true]
  have hs : ix (shelfAt a0 a1 v) (findI (byPart (ix a1 v).Part) a0).toNat = (ix a0 (findI (byPart (ix a1 v).Part) a0).toNat).Count - psum (ix a1 v).Part (a1.take v):=by
    rw [shelfAt,ix_map f2,hpart]
  have hps:=psum_take (ix a1 v).Part a1 hv
  simp only [beq_self_eq_true,cond_true] at hps
  have hc:=stock_count h0 f2
  have hb:=psum_bound (ix a1 v).Part (a1.take v) (take_bound hz)
  have hlen : (a1.take v).length ≤ 1000:=by simp; omega
  have hdec : decide (ix (shelfAt a0 a1 v) (findI (byPart (ix a1 v).Part) a0).toNat < (ix a1 v).Count) = decide ((ix a0 (findI (byPart (ix a1 v).Part) a0).toNat).Count < psum (ix a1 v).Part (a1.take (v + 1))):=by
    rw [hs,hps]
    exact decide_eq_decide.2 ⟨fun h=>by omega,fun h=>by omega⟩
  rw [hdec]
  cases decide ((ix a0 (findI (byPart (ix a1 v).Part) a0).toNat).Count < psum (ix a1 v).Part (a1.take (v + 1)))
  · simp only [cond_false,bne_self_eq_false]
    rw [chk_of (inI_of (by rw [hs]; omega) (by rw [hs]; omega)),shelf_step h0 hv f2 hpart]
  · rfl
theorem shelfOf_eq (n : Nat) (a0 : List Stocked) (a1 : List PartPromise) (hs : ∀ x ∈ a0,x.Part.length ≤ 20) (hp : ∀ x ∈ a1,x.Instrument.length ≤ 20) (hn : 1000 < n) :
    restore_shelfOf n a0 a1 = some (bif promC a0 a1 != 0 then .inl (promC a0 a1) else .inr (shelfAt a0 a1 a1.length)):=by
  rw [restore_shelfOf,CheckStock_res n a0 hs (by omega)]
  simp only [Option.bind_some]
  unfold promC
  by_cases h0 : stockC a0 = 0
  · have hl:=stock_len h0
    simp only [h0,bne_self_eq_false,cond_false]
    by_cases hlen : 200 < a1.length
    · simp [hlen]
    simp only [hlen,decide_false,cond_false,withK_eq]
    have e0 : (0,([] : List Int)) = (fun v=>(v,(a0.take v).map Stocked.Count)) 0:=by simp
    rw [e0,loop_through (st:=fun v=>(v,(a0.take v).map Stocked.Count)) (len:=a0.length) ?_ ?_ n (by omega)]
    · intro back v hv
      rw [restore_shelfOf_L1]
      have hr : room 8 ((a0.take v).map Stocked.Count ++ ([(ix a0 v).Count] : List Int)).length = true:=room_of (by simp; omega) (by simp; omega)
      simp only [hv,decide_true,cond_true,hr,chk_t,nI_of (by omega : v + 1 ≤ 9223372036854775807)]
      rw [List.take_succ_eq_append_getElem hv,List.map_append,ix_eq hv]
      rfl
    · intro back
      rw [restore_shelfOf_L1]
      simp only [Nat.lt_irrefl,decide_false,cond_false,List.take_length]
      have e1 : (0,a0.map Stocked.Count) = (fun v=>(v,shelfAt a0 a1 v)) 0:=by simp [shelfAt,psum]
      rw [e1,loop_first (st:=fun v=>(v,shelfAt a0 a1 v)) (E:=promE a0 a1) (err:=fun e=>some (.inl e)) (k:=some (.inr (shelfAt a0 a1 a1.length))) (len:=a1.length) ?_ ?_ n 0 (by omega) (by omega) (fun j h=>by omega)]
      · rw [Nat.sub_zero]
        cases firstE (promE a0 a1) 0 a1.length != 0 <;> rfl
      · intro back v hv hz
        rw [restore_shelfOf_L2]
        simp only [hv,decide_true,cond_true,shelf_take_eq n a0 a1 v h0 hv (hp _ (ix_mem hv)) hz (by omega) hn,Option.bind_some,nI_of (by omega : v + 1 ≤ 9223372036854775807),chk_t]
        cases promE a0 a1 v != 0
        · simp only [cond_false,shelf_len,decide_true,chk_t]
        · simp only [cond_true,decide_true,chk_t]
      · intro back _
        rw [restore_shelfOf_L2]
        simp
  · rw [bne_t h0,cond_true,cond_true,bne_t h0,cond_true]
theorem all_bound {a0 : List Stocked} {a1 : List PartPromise} (h0 : promC a0 a1 = 0) : stockC a0 = 0 ∧ a1.length ≤ 200 ∧ ∀ j,j < a1.length → promE a0 a1 j = 0:=by
  unfold promC at h0
  by_cases e : stockC a0 = 0
  · simp only [e,bne_self_eq_false,cond_false] at h0
    by_cases hl : 200 < a1.length
    · simp [hl] at h0
    · simp only [hl,decide_false,cond_false] at h0
      exact ⟨e,by omega,fun j hj=>firstE_zero h0 j (by omega) (by omega)⟩
  · rw [bne_t e,cond_true] at h0; exact absurd h0 e
def addR (a0 : List Stocked) (a1 : List PartPromise) (a2 : PartPromise) : Int × List PartPromise :=
  bif promC a0 a1 != 0 then (promC a0 a1,[]) else bif promC a0 (a1 ++ [a2]) != 0 then (promC a0 (a1 ++ [a2]),[]) else (0,a1 ++ [a2])
theorem firstE_last {E : Nat → Int} : ∀ (m v : Nat),(∀ j,v ≤ j → j < v + m → E j = 0) → firstE E v (m + 1) = E (v + m)
  | 0,v,_=>by
    by_cases e : E v = 0
    · simp [firstE,e]
    · simp only [firstE,bne_t e,cond_true,Nat.add_zero]
  | m + 1,v,h=>by
    have e:=h v (Nat.le_refl _) (by omega)
    rw [firstE,e]
    simp only [bne_self_eq_false,cond_false]
    rw [firstE_last m (v + 1) fun j h1 h2=>h j (by omega) (by omega)]
    congr 1
    omega
theorem ix_append {α : Type} [Inhabited α] {l r : List α} {j : Nat} (h : j < l.length) : ix (l ++ r) j = ix l j:=by
  rw [ix_eq (by simp; omega),ix_eq h,List.getElem_append_left]
theorem ix_append_last {α : Type} [Inhabited α] {l : List α} {x : α} : ix (l ++ [x]) l.length = x:=by
  rw [ix_eq (by simp)]; simp
theorem promE_append {a0 : List Stocked} {a1 : List PartPromise} {x : PartPromise} {j : Nat} (h : j < a1.length) : promE a0 (a1 ++ [x]) j = promE a0 a1 j:=by
  unfold promE
  rw [ix_append h,List.take_append_of_le_length (by omega)]
theorem promC_append {a0 : List Stocked} {a1 : List PartPromise} {a2 : PartPromise} (h0 : promC a0 a1 = 0) : promC a0 (a1 ++ [a2]) = bif decide (a1.length = 200) then 8 else promE a0 (a1 ++ [a2]) a1.length:=by
  obtain ⟨e,hl,hz⟩:=all_bound h0
  unfold promC
  simp only [e,bne_self_eq_false,cond_false,List.length_append,List.length_singleton]
  by_cases h : a1.length = 200
  · simp [h]
  · have : ¬ 200 < a1.length + 1:=by omega
    simp only [h,this,decide_false,cond_false]
    rw [firstE_last a1.length 0 fun j _ hj=>by rw [promE_append (by omega)]; exact hz j (by omega)]
    rw [Nat.zero_add]
theorem Clone_eq (n : Nat) (l : List PartPromise) (hl : l.length ≤ 1000) : slices_Clone_PartPromise n l = some l:=by
  rw [slices_Clone_PartPromise]
  have hr : room 40 l.length = true:=room_of (by omega) (by omega)
  cases l with
  | nil=>simp [nilK,room]
  | cons x l=>simp only [List.isEmpty_cons,nilK,cond_false,hr,chk_t]
theorem AddPromise_res (n : Nat) (a0 : List Stocked) (a1 : List PartPromise) (a2 : PartPromise) (hs : ∀ x ∈ a0,x.Part.length ≤ 20) (hp : ∀ x ∈ a1,x.Instrument.length ≤ 20) (hp2 : a2.Instrument.length ≤ 20) (hl : a0.length ≤ 1000) (hl1 : a1.length ≤ 900) (hn : 1000 < n) :
    restore_AddPromise n a0 a1 a2 = some (addR a0 a1 a2):=by
  rw [restore_AddPromise,shelfOf_eq n a0 a1 hs hp hn]
  simp only [withK_eq,Option.bind_some,addR]
  by_cases h0 : promC a0 a1 = 0
  · obtain ⟨e,hl,hz⟩:=all_bound h0
    rw [promC_append h0]
    simp only [h0,bne_self_eq_false,cond_false]
    by_cases h : a1.length = 200
    · simp [h]
    · simp only [h,decide_false,cond_false]
      have key:=shelf_take_eq n a0 (a1 ++ [a2]) a1.length e (by simp) (by rw [ix_append_last]; exact hp2) (fun j hj=>by rw [promE_append hj]; exact hz j hj) (by simp; omega) hn
      rw [ix_append_last] at key
      have hsh : shelfAt a0 (a1 ++ [a2]) a1.length = shelfAt a0 a1 a1.length:=by
        unfold shelfAt
        rw [List.take_append_of_le_length (Nat.le_refl _)]
      rw [hsh] at key
      rw [key]
      simp only [Option.bind_some]
      have hlen : (shelfAt a0 a1 a1.length).length = (bif promE a0 (a1 ++ [a2]) a1.length != 0 then shelfAt a0 a1 a1.length else shelfAt a0 (a1 ++ [a2]) (a1.length + 1)).length:=by
        cases promE a0 (a1 ++ [a2]) a1.length != 0 <;> simp [shelf_len]
      rw [chk_of (decide_eq_true hlen),Clone_eq n a1 (by omega)]
      simp only [Option.bind_some]
      rw [chk_of (room_of (by simp; omega) (by simp; omega))]
      cases promE a0 (a1 ++ [a2]) a1.length != 0 <;> rfl
  · rw [bne_t h0]
    simp only [cond_true,bne_t h0]
def leftP (a0 : List Stocked) (a1 : List PartPromise) : List PartCount:=a0.map fun x=>PartCount.mk x.Part (x.Count - psum x.Part a1)
theorem leftP_step (a0 : List Stocked) (a1 : List PartPromise) {v : Nat} (hv : v < a0.length) : leftP (a0.take (v + 1)) a1 = leftP (a0.take v) a1 ++ [PartCount.mk (ix a0 v).Part ((ix a0 v).Count - psum (ix a0 v).Part a1)]:=by
  unfold leftP
  rw [List.take_succ_eq_append_getElem hv,List.map_append,ix_eq hv]; rfl
theorem LeftOf_res (n : Nat) (a0 : List Stocked) (a1 : List PartPromise) (hs : ∀ x ∈ a0,x.Part.length ≤ 20) (hp : ∀ x ∈ a1,x.Instrument.length ≤ 20) (hn : 1000 < n) :
    restore_LeftOf n a0 a1 = some (bif promC a0 a1 != 0 then (promC a0 a1,[]) else (0,leftP a0 a1)):=by
  rw [restore_LeftOf,shelfOf_eq n a0 a1 hs hp hn]
  simp only [withK_eq,Option.bind_some]
  by_cases h0 : promC a0 a1 = 0
  · obtain ⟨e,hl,hz⟩:=all_bound h0
    have hlen:=stock_len e
    simp only [h0,bne_self_eq_false,cond_false]
    have e0 : (([] : List PartCount),0) = (fun v=>(leftP (a0.take v) a1,v)) 0:=by simp [leftP]
    rw [e0,loop_through (st:=fun v=>(leftP (a0.take v) a1,v)) (k:=some (0,leftP a0 a1)) (len:=a0.length) ?_ ?_ n (by omega)]
    · intro back v hv
      rw [restore_LeftOf_L1]
      have hv' : v < (shelfAt a0 a1 a1.length).length:=by rw [shelf_len]; exact hv
      have hix : ix (shelfAt a0 a1 a1.length) v = (ix a0 v).Count - psum (ix a0 v).Part a1:=by
        rw [shelfAt,ix_map hv,List.take_length]
      simp only [hv,hv',decide_true,cond_true,chk_t,hix,nI_of (by omega : v + 1 ≤ 9223372036854775807)]
      rw [← leftP_step a0 a1 hv,chk_of (room_of (by simp [leftP]; omega) (by simp [leftP]; omega))]
    · intro back
      rw [restore_LeftOf_L1]
      simp [shelf_len]
  · rw [bne_t h0]
    simp only [cond_true,bne_t h0]
def leftOf (a0 : List Stocked) (a1 : List PartPromise) (s : Str) : Int:=bif decide ((0 : Int) ≤ findI (byPart s) a0) then (ix a0 (findI (byPart s) a0).toNat).Count - psum s a1 else 0
def missOf (a0 : List Stocked) (a1 : List PartPromise) (x : PartCount) : List PartCount:=bif decide (leftOf a0 a1 x.Part < x.Count) then [PartCount.mk x.Part (x.Count - leftOf a0 a1 x.Part)] else []
def missL (a0 : List Stocked) (a1 : List PartPromise) (a2 : List PartCount) (v : Nat) : List PartCount:=(a2.take v).flatMap (missOf a0 a1)
theorem missL_step {a0 : List Stocked} {a1 : List PartPromise} {a2 : List PartCount} {v : Nat} (h : v < a2.length) : missL a0 a1 a2 (v + 1) = missL a0 a1 a2 v ++ missOf a0 a1 (ix a2 v):=by
  rw [missL,List.take_succ_eq_append_getElem h,List.flatMap_append,ix_eq h]
  simp [missL]
theorem missL_len (a0 : List Stocked) (a1 : List PartPromise) (a2 : List PartCount) : ∀ v,v ≤ a2.length → (missL a0 a1 a2 v).length ≤ v
  | 0,_=>by simp [missL]
  | v + 1,h=>by
    rw [missL_step (by omega),List.length_append]
    have:=missL_len a0 a1 a2 v (by omega)
    have : (missOf a0 a1 (ix a2 v)).length ≤ 1:=by unfold missOf; cases decide (leftOf a0 a1 (ix a2 v).Part < (ix a2 v).Count) <;> simp
    omega
theorem cntE_zero {l : List PartCount} {m : Int} {v : Nat} (h : cntE l m v = 0) : nameB (ix l v).Part = true ∧ (l.take v).any (byPartC (ix l v).Part) = false ∧ 1 ≤ (ix l v).Count ∧ (ix l v).Count ≤ m:=by
  unfold cntE at h
  cases a1 : nameB (ix l v).Part
  · rw [a1] at h; simp at h
  rw [a1] at h
  cases a2 : (l.take v).any (byPartC (ix l v).Part)
  · rw [a2] at h
    simp only [Bool.not_true,cond_false] at h
    by_cases a3 : 1 ≤ (ix l v).Count
    · by_cases a4 : (ix l v).Count ≤ m
      · exact ⟨rfl,rfl,a3,a4⟩
      · rw [decide_eq_false a4] at h; simp at h
    · rw [decide_eq_false a3] at h; simp at h
  · rw [a2] at h; simp at h
theorem left_bound {a0 : List Stocked} {a1 : List PartPromise} (h0 : promC a0 a1 = 0) (s : Str) : -10000000 ≤ leftOf a0 a1 s ∧ leftOf a0 a1 s ≤ 10000:=by
  obtain ⟨e,hl,hz⟩:=all_bound h0
  have hb:=psum_bound s a1 (by have:=take_bound hz; simpa using this)
  unfold leftOf
  by_cases h : findI (byPart s) a0 < 0
  · have : ¬ (0 : Int) ≤ findI (byPart s) a0:=by omega
    simp [this]
  · obtain ⟨f1,f2,f3,f4⟩:=findI_pos h
    have:=stock_count e f2
    simp only [f1,decide_true,cond_true]
    omega
theorem missing_res {n : Nat} {a0 : List Stocked} {a1 : List PartPromise} {a2 : List PartCount} (hs0 : ∀ x ∈ a0,x.Part.length ≤ 20) (hp : ∀ x ∈ a1,x.Instrument.length ≤ 20) (hs : ∀ x ∈ a2,x.Part.length ≤ 20) (hn : 1000 < n) :
    restore_MissingParts n a0 a1 a2 = some (bif promC a0 a1 != 0 then (promC a0 a1,[]) else bif decide (60 < a2.length) then (8,[]) else bif cnts a2 10000 != 0 then (cnts a2 10000,[]) else (0,missL a0 a1 a2 a2.length)):=by
  rw [restore_MissingParts,shelfOf_eq n a0 a1 hs0 hp hn]
  simp only [withK_eq,Option.bind_some]
  by_cases h0 : promC a0 a1 = 0
  · obtain ⟨e,hl,hz⟩:=all_bound h0
    have hlen0:=stock_len e
    simp only [h0,bne_self_eq_false,cond_false]
    by_cases hlen : 60 < a2.length
    · simp [hlen]
    simp only [hlen,decide_false,cond_false,counts_res (n:=n) (l:=a2) 10000 hn (by omega) hs,Option.bind_some]
    by_cases hc : cnts a2 10000 = 0
    · simp only [hc,bne_self_eq_false,cond_false]
      have e0 : (([] : List PartCount),0) = (fun v=>(missL a0 a1 a2 v,v)) 0:=by simp [missL]
      rw [e0,loop_through (st:=fun v=>(missL a0 a1 a2 v,v)) (len:=a2.length) ?_ ?_ n (by omega)]
      · intro back v hv
        rw [restore_MissingParts_L2]
        obtain ⟨_,_,hcv⟩:=cntE_zero (firstE_zero hc v (by omega) (by omega))
        have hF:=stocked_eq n a0 (ix a2 v).Part (by omega) (by omega)
        have hlb:=left_bound h0 (ix a2 v).Part
        have hml:=missL_len a0 a1 a2 v (by omega)
        have tail : ∀ q : Int,q = (ix a2 v).Count - leftOf a0 a1 (ix a2 v).Part → (bif decide ((0 : Int) < q) then
            chk (room 24 (missL a0 a1 a2 v ++ ([(PartCount.mk ((ix a2 v).Part) q)] : List PartCount)).length) <|
            (chk (nI (v + 1)) <| back ((missL a0 a1 a2 v ++ ([(PartCount.mk ((ix a2 v).Part) q)] : List PartCount)),v + 1))
          else
            (chk (nI (v + 1)) <| back (missL a0 a1 a2 v,v + 1))) = back (missL a0 a1 a2 (v + 1),v + 1):=by
          rintro q rfl
          rw [missL_step hv,chk_of (nI_of (by omega : v + 1 ≤ 9223372036854775807)),chk_of (nI_of (by omega : v + 1 ≤ 9223372036854775807)),chk_of (room_of (by simp; omega) (by simp; omega))]
          unfold missOf
          rw [show decide ((0 : Int) < (ix a2 v).Count - leftOf a0 a1 (ix a2 v).Part) = decide (leftOf a0 a1 (ix a2 v).Part < (ix a2 v).Count) from decide_eq_decide.2 ⟨fun h=>by omega,fun h=>by omega⟩]
          cases decide (leftOf a0 a1 (ix a2 v).Part < (ix a2 v).Count) <;> simp
        simp only [hv,decide_true,cond_true,withK_eq,hF,Option.bind_some]
        by_cases h : findI (byPart (ix a2 v).Part) a0 < 0
        · have h' : ¬ (0 : Int) ≤ findI (byPart (ix a2 v).Part) a0:=by omega
          simp only [h',decide_false,cond_false]
          exact tail _ (by simp [leftOf,h'])
        · obtain ⟨f1,f2,f3,f4⟩:=findI_pos h
          have f2' : (findI (byPart (ix a2 v).Part) a0).toNat < (shelfAt a0 a1 a1.length).length:=by rw [shelf_len]; exact f2
          have hpart : (ix a0 (findI (byPart (ix a2 v).Part) a0).toNat).Part = (ix a2 v).Part:=eq_of_beq f3
          have hleft : ix (shelfAt a0 a1 a1.length) (findI (byPart (ix a2 v).Part) a0).toNat = leftOf a0 a1 (ix a2 v).Part:=by
            rw [shelfAt,ix_map f2,hpart]; simp [leftOf,f1]
          simp only [f1,decide_true,cond_true,inB_of f1 f2',chk_t,f2',hleft]
          rw [chk_of (inI_of (by omega) (by omega))]
          exact tail _ rfl
      · intro back
        rw [restore_MissingParts_L2]
        simp
    · rw [bne_t hc,cond_true,cond_true]
  · simp only [bne_t h0,cond_true]
end
section
set_option maxRecDepth 4000
open Go
def grandS : Str:=[103,114,97,110,100]
theorem grand_name : nameB grandS = true:=by decide
def fitB (s : List Stocked) (l : List PartPromise) (x : PartCount) : Bool:=decide ((0 : Int) ≤ findI (byPart x.Part) s) && !decide (leftOf s l x.Part < x.Count)
def mkP (x : PartCount) : PartPromise:=PartPromise.mk grandS x.Part x.Count
def accL (s : List Stocked) (l : List PartPromise) (need : List PartCount) (i : Nat) : List PartPromise:=l ++ ((need.take i).filter (fitB s l)).map mkP
theorem acc_zero (s : List Stocked) (l : List PartPromise) (need : List PartCount) : accL s l need 0 = l:=by simp [accL]
theorem acc_step (s : List Stocked) (l : List PartPromise) {need : List PartCount} {i : Nat} (h : i < need.length) : accL s l need (i + 1) = bif fitB s l (ix need i) then accL s l need i ++ [mkP (ix need i)] else accL s l need i:=by
  rw [accL,List.take_succ_eq_append_getElem h,List.filter_append,ix_eq h]
  cases e : fitB s l need[i] <;> simp [accL,e]
theorem acc_len (s : List Stocked) (l : List PartPromise) (need : List PartCount) (i : Nat) : (accL s l need i).length ≤ l.length + need.length:=by
  have h1:=List.length_filter_le (fitB s l) (need.take i)
  simp only [accL,List.length_append,List.length_map]
  simp only [List.length_take] at h1
  omega
def Dist (need : List PartCount) : Prop:=∀ i j,i < need.length → j < need.length → (ix need i).Part = (ix need j).Part → i = j
def tkn (s : List Stocked) (l : List PartPromise) (need : List PartCount) (x : Str) : Nat → Int
  | 0=>0
  | i + 1=>tkn s l need x i + (bif fitB s l (ix need i) && ((ix need i).Part == x) then (ix need i).Count else 0)
theorem acc_psum (s : List Stocked) (l : List PartPromise) (need : List PartCount) (x : Str) : ∀ i,i ≤ need.length → psum x (accL s l need i) = psum x l + tkn s l need x i
  | 0,_=>by simp [acc_zero,tkn]
  | i + 1,h=>by
    have ih:=acc_psum s l need x i (by omega)
    rw [acc_step s l (by omega : i < need.length),tkn]
    cases e : fitB s l (ix need i)
    · simp only [cond_false,Bool.false_and,Int.add_zero]; exact ih
    · simp only [cond_true,Bool.true_and,psum_append,ih,psum,mkP]; omega
theorem tkn_out {s : List Stocked} {l : List PartPromise} {need : List PartCount} {x : Str} : ∀ i,(∀ j,j < i → (ix need j).Part ≠ x) → tkn s l need x i = 0
  | 0,_=>rfl
  | i + 1,h=>by
    rw [tkn,tkn_out i fun j hj=>h j (by omega)]
    have : ((ix need i).Part == x) = false:=by rw [beq_eq_false_iff_ne]; exact h i (by omega)
    simp [this]
theorem tkn_at {s : List Stocked} {l : List PartPromise} {need : List PartCount} (hd : Dist need) {j : Nat} (hj : j < need.length) : ∀ i,i ≤ need.length → tkn s l need (ix need j).Part i = bif decide (j < i) && fitB s l (ix need j) then (ix need j).Count else 0
  | 0,_=>by simp [tkn]
  | i + 1,h=>by
    rw [tkn,tkn_at hd hj i (by omega)]
    by_cases e : i = j
    · subst e
      simp [Nat.lt_irrefl]
    · have : ((ix need i).Part == (ix need j).Part) = false:=by
        rw [beq_eq_false_iff_ne]; exact fun c=>e (hd i j (by omega) hj c)
      rw [this,Bool.and_false,cond_false,Int.add_zero]
      have : decide (j < i) = decide (j < i + 1):=decide_eq_decide.2 ⟨fun h=>by omega,fun h=>by omega⟩
      rw [this]
def ansI (s : List Stocked) (l : List PartPromise) (x : PartCount) : Int :=
  bif decide (findI (byPart x.Part) s < (0 : Int)) then 6 else bif decide (leftOf s l x.Part < x.Count) then 20 else 0
theorem ans_fit (s : List Stocked) (l : List PartPromise) (x : PartCount) : (ansI s l x = 0) ↔ fitB s l x = true:=by
  unfold ansI fitB
  by_cases h : findI (byPart x.Part) s < 0
  · have h' : ¬ (0 : Int) ≤ findI (byPart x.Part) s:=by omega
    simp [h,h']
  · have h' : (0 : Int) ≤ findI (byPart x.Part) s:=by omega
    by_cases h2 : leftOf s l x.Part < x.Count <;> simp [h,h',h2]
theorem acc_ans {s : List Stocked} {l : List PartPromise} {need : List PartCount} (hd : Dist need) (hc : ∀ j,j < need.length → 1 ≤ (ix need j).Count ∧ (ix need j).Count ≤ 10000) {i : Nat} (hi : i < need.length) :
    promE s (accL s l need i ++ [mkP (ix need i)]) (accL s l need i).length = ansI s l (ix need i):=by
  have h1 : psum (ix need i).Part (accL s l need i) = psum (ix need i).Part l:=by
    rw [acc_psum s l need _ i (by omega),tkn_at hd hi i (by omega)]
    simp [Nat.lt_irrefl]
  have hcc:=hc i hi
  unfold promE ansI
  rw [ix_append_last]
  have e1 : (mkP (ix need i)).Instrument = grandS:=rfl
  have e2 : (mkP (ix need i)).Part = (ix need i).Part:=rfl
  have e3 : (mkP (ix need i)).Count = (ix need i).Count:=rfl
  have h2 : (accL s l need i ++ [mkP (ix need i)]).take ((accL s l need i).length + 1) = accL s l need i ++ [mkP (ix need i)]:=by
    apply List.take_of_length_le
    simp
  rw [h2,e1,grand_name,e2,e3,decide_eq_true hcc.1,decide_eq_true hcc.2]
  simp only [Bool.not_true,cond_false,Bool.and_self,psum_append,h1,psum,e2,e3,BEq.rfl,cond_true,Int.add_zero]
  by_cases h : findI (byPart (ix need i).Part) s < 0
  · simp [h]
  · have h' : (0 : Int) ≤ findI (byPart (ix need i).Part) s:=by omega
    simp only [h,decide_false,cond_false,leftOf,h',decide_true,cond_true]
    have : decide ((ix s (findI (byPart (ix need i).Part) s).toNat).Count < psum (ix need i).Part l + (ix need i).Count) = decide ((ix s (findI (byPart (ix need i).Part) s).toNat).Count - psum (ix need i).Part l < (ix need i).Count):=decide_eq_decide.2 ⟨fun h=>by omega,fun h=>by omega⟩
    rw [this]
theorem acc_ok {s : List Stocked} {l : List PartPromise} {need : List PartCount} (h0 : promC s l = 0) (hd : Dist need) (hc : ∀ j,j < need.length → 1 ≤ (ix need j).Count ∧ (ix need j).Count ≤ 10000) (hl : l.length + need.length < 200) : ∀ i,i ≤ need.length → promC s (accL s l need i) = 0
  | 0,_=>by rw [acc_zero]; exact h0
  | i + 1,h=>by
    have ih:=acc_ok h0 hd hc hl i (by omega)
    rw [acc_step s l (by omega : i < need.length)]
    cases e : fitB s l (ix need i)
    · exact ih
    · rw [cond_true,promC_append ih,acc_ans hd hc (by omega),(ans_fit s l _).2 e]
      have:=acc_len s l need i
      rw [decide_eq_false (by omega)]; rfl
theorem acc_add {s : List Stocked} {l : List PartPromise} {need : List PartCount} (h0 : promC s l = 0) (hd : Dist need) (hc : ∀ j,j < need.length → 1 ≤ (ix need j).Count ∧ (ix need j).Count ≤ 10000) (hl : l.length + need.length < 200) {i : Nat} (hi : i < need.length) :
    addR s (accL s l need i) (mkP (ix need i)) = bif ansI s l (ix need i) != 0 then (ansI s l (ix need i),[]) else (0,accL s l need (i + 1)):=by
  have h1:=acc_ok h0 hd hc hl i (by omega)
  have h2:=acc_len s l need i
  have h3 : promC s (accL s l need i ++ [mkP (ix need i)]) = ansI s l (ix need i):=by
    rw [promC_append h1,acc_ans hd hc hi,decide_eq_false (by omega)]; rfl
  rw [addR,h1,h3]
  simp only [bne_self_eq_false,cond_false]
  by_cases e : ansI s l (ix need i) = 0
  · rw [e]
    simp only [bne_self_eq_false,cond_false]
    rw [acc_step s l hi,(ans_fit s l _).1 e,cond_true]
  · rw [bne_t e,cond_true,cond_true]
theorem miss_short {s : List Stocked} {l : List PartPromise} {need : List PartCount} (hd : Dist need) {i : Nat} (hi : i < need.length) : ∀ v,v ≤ need.length → ∀ x ∈ missL s l need v,x.Part = (ix need i).Part → i < v ∧ x.Count = (ix need i).Count - leftOf s l (ix need i).Part ∧ leftOf s l (ix need i).Part < (ix need i).Count
  | 0,_,x,hx,_=>by simp [missL] at hx
  | v + 1,h,x,hx,e=>by
    rw [missL_step (by omega : v < need.length),List.mem_append] at hx
    rcases hx with hx | hx
    · obtain ⟨a,b⟩:=miss_short hd hi v (by omega) x hx e
      exact ⟨by omega,b⟩
    · unfold missOf at hx
      by_cases c : leftOf s l (ix need v).Part < (ix need v).Count
      · rw [decide_eq_true c,cond_true,List.mem_singleton] at hx
        subst hx
        have : v = i:=hd v i (by omega) hi e
        subst this
        exact ⟨by omega,rfl,c⟩
      · rw [decide_eq_false c] at hx; simp at hx
theorem miss_mem {s : List Stocked} {l : List PartPromise} {need : List PartCount} {i : Nat} (hi : i < need.length) (c : leftOf s l (ix need i).Part < (ix need i).Count) : PartCount.mk (ix need i).Part ((ix need i).Count - leftOf s l (ix need i).Part) ∈ missL s l need need.length:=by
  rw [missL,List.take_length,List.mem_flatMap]
  exact ⟨ix need i,ix_mem hi,by rw [missOf,decide_eq_true c]; simp⟩
theorem fit_left {s : List Stocked} {l : List PartPromise} {x : PartCount} (hc : 1 ≤ x.Count) : fitB s l x = !decide (leftOf s l x.Part < x.Count):=by
  unfold fitB
  by_cases h : (0 : Int) ≤ findI (byPart x.Part) s
  · simp [h]
  · have : leftOf s l x.Part = 0:=by simp [leftOf,h]
    rw [this,decide_eq_false h,decide_eq_true (by omega)]; rfl
theorem miss_nil {s : List Stocked} {l : List PartPromise} {need : List PartCount} (hc : ∀ j,j < need.length → 1 ≤ (ix need j).Count ∧ (ix need j).Count ≤ 10000) : (missL s l need need.length).length = 0 ↔ need.all (fitB s l) = true:=by
  rw [List.length_eq_zero_iff,missL,List.take_length,List.flatMap_eq_nil_iff,List.all_eq_true]
  constructor
  · intro h x hx
    have h1:=h x hx
    obtain ⟨j,hj,rfl⟩:=List.mem_iff_getElem.1 hx
    have hcj:=(hc j hj).1
    rw [ix_eq hj] at hcj
    rw [fit_left hcj]
    unfold missOf at h1
    cases c : decide (leftOf s l need[j].Part < need[j].Count)
    · rfl
    · rw [c] at h1; simp at h1
  · intro h x hx
    have h1:=h x hx
    obtain ⟨j,hj,rfl⟩:=List.mem_iff_getElem.1 hx
    have hcj:=(hc j hj).1
    rw [ix_eq hj] at hcj
    rw [fit_left hcj] at h1
    unfold missOf
    cases c : decide (leftOf s l need[j].Part < need[j].Count)
    · rfl
    · rw [c] at h1; simp at h1
end
section
set_option maxRecDepth 4000
open Go
theorem nameB_len {s : Str} (h : nameB s = true) : s.length ≤ 12:=by
  cases s with
  | nil=>simp
  | cons c r =>
    simp only [nameB,Bool.and_eq_true,decide_eq_true_eq] at h
    simp only [List.length_cons]
    omega
theorem IsName_any {n : Nat} (s : Str) (hn : 1000 < n) : q39k n s = some (nameB s):=by
  by_cases h : s.length ≤ 20
  · exact IsName_eq s n (by omega) (by omega)
  · have h1 : nameB s = false:=by
      cases e : nameB s
      · rfl
      · have:=nameB_len e; omega
    rw [q39k,h1]
    have h2 : 12 < s.length:=by omega
    simp [h2]
theorem CheckStock_any {n : Nat} {a0 : List Stocked} (hn : 1000 < n) : agrafferef08_CheckStock n a0 = some (stockC a0):=by
  rw [agrafferef08_CheckStock,stockC]
  by_cases hlen : 60 < a0.length
  · simp [hlen]
  simp only [hlen,decide_false,cond_false,withK_eq]
  rw [loop_first (st:=fun v=>v) (E:=stockE a0) (err:=some) (k:=some 0) (len:=a0.length) ?_ ?_ n 0 (by omega) (by omega) (fun j h=>by omega)]
  · rw [Nat.sub_zero]; exact bif_id
  · intro back v hv _
    rw [agrafferef08_CheckStock_L1]
    have hI:=IsName_any (n:=n) (ix a0 v).Part hn
    have hF:=FindStock_eq n (a0.take v) (ix a0 v).Part (by simp; omega) (by simp; omega)
    have hle : v ≤ a0.length:=by omega
    simp only [hv,hle,decide_true,cond_true,hI,Option.bind_some,hF,q29k,gcall_some_,nI_of (by omega : v + 1 ≤ 9223372036854775807),chk_t,stockE]
    cases nameB (ix a0 v).Part <;> cases decide ((0 : Int) ≤ findI (byPart (ix a0 v).Part) (a0.take v)) <;> simp only [Bool.not_true,Bool.not_false,cond_true,cond_false] <;> first | rfl | skip
    cases ((!((decide (0 ≤ (ix a0 v).Cents)) && (decide ((ix a0 v).Cents ≤ 1000000000)))) || (!((decide (0 ≤ (ix a0 v).Count)) && (decide ((ix a0 v).Count ≤ 10000))))) <;> rfl
  · intro back _
    rw [agrafferef08_CheckStock_L1]
    simp
theorem CheckPromises_any {n : Nat} {a0 : List Stocked} {a1 : List PartPromise} (hl : a0.length ≤ 1000) (hn : 1000 < n) : q49k n a0 a1 = some (promC a0 a1):=by
  rw [q49k,CheckStock_any hn,promC]
  simp only [Option.bind_some]
  cases stockC a0 != 0
  · simp only [cond_false]
    by_cases hlen : 200 < a1.length
    · simp [hlen]
    simp only [hlen,decide_false,cond_false,withK_eq]
    rw [loop_first (st:=fun v=>v) (E:=promE a0 a1) (err:=some) (k:=some 0) (len:=a1.length) ?_ ?_ n 0 (by omega) (by omega) (fun j h=>by omega)]
    · rw [Nat.sub_zero]; exact bif_id
    · intro back v hv hz
      rw [q54k]
      have hI:=IsName_any (n:=n) (ix a1 v).Instrument hn
      have hF:=FindStock_eq n a0 (ix a1 v).Part (by omega) (by omega)
      have hle : v + 1 ≤ a1.length:=by omega
      simp only [hv,decide_true,cond_true,hI,Option.bind_some,hF,q29k,promE]
      cases nameB (ix a1 v).Instrument
      · rfl
      simp only [Bool.not_true,cond_false]
      by_cases h2 : findI (byPart (ix a1 v).Part) a0 < 0
      · simp [h2]
      obtain ⟨f1,f2,f3,f4⟩:=findI_pos h2
      simp only [h2,decide_false,cond_false]
      cases h3 : (decide (1 ≤ (ix a1 v).Count)) && (decide ((ix a1 v).Count ≤ 10000))
      · rfl
      simp only [Bool.and_eq_true,decide_eq_true_eq] at h3
      have hP:=promised_eq n (a1.take (v + 1)) (ix a1 v).Part (by simp; omega) hn (fun x hx=>by
        rw [List.take_succ_eq_append_getElem hv,List.mem_append] at hx
        rcases hx with hx | hx
        · exact take_bound hz x hx
        · simp only [List.mem_singleton] at hx
          rw [hx,← ix_eq hv]; omega)
      simp only [Bool.not_true,cond_false,nI_of (by omega : v + 1 ≤ 9223372036854775807),chk_t,hle,decide_true,hP,Option.bind_some,inB_of f1 f2,f2]
      cases decide ((ix a0 (findI (byPart (ix a1 v).Part) a0).toNat).Count < psum (ix a1 v).Part (a1.take (v + 1))) <;> rfl
    · intro back _
      rw [q54k]
      simp
  · simp
theorem set_any {n : Nat} {t : List Task} {l : List Str} (ht : t.length ≤ 900) (hl : l.length ≤ 9223372036854775807) (hn : 1000 < n) (hn2 : l.length < n) : agrafferef08_CheckSet n t l = some (setE t l):=by
  rw [agrafferef08_CheckSet]
  simp only [withK_eq]
  rw [set_loop2 (n:=n) (l:=l) (fun back v h1 h2=>?_) (fun back v h=>?_) (by omega),setE]
  · rw [loop_errs (n:=n) (E:=setE1 t l) (len:=l.length) (k:=firstE (setE2 l) 1 (l.length - 1)) (fun back v hv=>?_) (fun back=>?_) (by omega)]
    · rw [agrafferef08_CheckSet_L1]
      simp only [hv,decide_true,cond_true,Find_eq t (ix l v) (by omega : t.length < n) (by omega),Option.bind_some,findI_none,nI_of (by omega : v + 1 ≤ 9223372036854775807),chk_t,setE1]
      cases !t.any (byName (ix l v)) <;> rfl
    · rw [agrafferef08_CheckSet_L1]; simp
  · have e : (((v : Nat) : Int) - 1).toNat = v - 1:=by omega
    rw [agrafferef08_CheckSet_L2]
    simp only [h2,decide_true,cond_true,e,show v - 1 < l.length by omega,chk_t]
    rw [chk_of (inI_of (by omega) (by omega)),chk_of (inB_of (by omega) (by omega)),chk_of (nI_of (by omega))]
  · rw [agrafferef08_CheckSet_L2]
    simp [show ¬ v < l.length by omega]
theorem stock_name {a0 : List Stocked} (h : stockC a0 = 0) : ∀ x ∈ a0,x.Part.length ≤ 20:=by
  intro x hx
  obtain ⟨j,hj,rfl⟩:=List.mem_iff_getElem.1 hx
  unfold stockC at h
  by_cases hl : 60 < a0.length
  · simp [hl] at h
  simp only [hl,decide_false,cond_false] at h
  have:=firstE_zero h j (by omega) (by omega)
  unfold stockE at this
  rw [← ix_eq hj]
  cases h1 : nameB (ix a0 j).Part
  · simp [h1] at this
  · have:=nameB_len h1; omega
theorem prom_name {a0 : List Stocked} {a1 : List PartPromise} (h : promC a0 a1 = 0) : ∀ x ∈ a1,x.Instrument.length ≤ 20:=by
  intro x hx
  obtain ⟨j,hj,rfl⟩:=List.mem_iff_getElem.1 hx
  have:=(all_bound h).2.2 j hj
  unfold promE at this
  rw [← ix_eq hj]
  cases h1 : nameB (ix a1 j).Instrument
  · simp [h1] at this
  · have:=nameB_len h1; omega
theorem acc_name {s : List Stocked} {l : List PartPromise} {need : List PartCount} {i : Nat} (h : ∀ x ∈ l,x.Instrument.length ≤ 20) : ∀ x ∈ accL s l need i,x.Instrument.length ≤ 20:=by
  intro x hx
  rw [accL,List.mem_append] at hx
  rcases hx with hx | hx
  · exact h x hx
  · obtain ⟨y,_,rfl⟩:=List.mem_map.1 hx
    show grandS.length ≤ 20
    decide
theorem pcs_pos {p : List PartCount} (h : PtOk p) {x : Str} {q : Nat} (hq : q < p.length) (e : (ix p q).Part = x) : 1 ≤ pcs p x p.length:=by
  rw [pcs_one h hq e]; exact (h.cnt q hq).1
theorem tot_pos {n : Nat} {t : List Task} (h0 : tasksE n t = 0) {l : List Str} (hk : Kn t l) {x : Str} : ∀ v,v ≤ l.length → (∃ i,i < v ∧ 1 ≤ pcs (taskOf t (ix l i)).Parts x (taskOf t (ix l i)).Parts.length) → 1 ≤ tot t l x v
  | 0,_,⟨i,hi,_⟩=>by omega
  | v + 1,h,⟨i,hi,hp⟩=>by
    have e : tot t l x (v + 1) = tot t l x v + pcs (taskOf t (ix l v)).Parts x (taskOf t (ix l v)).Parts.length:=rfl
    have b1:=(tot_bounds h0 hk x v (by omega)).1
    have b2:=(pcs_bounds (parts_ok h0 (hk _ (ix_mem (by omega : v < l.length)))) x _ (Nat.le_refl _)).1
    by_cases c : i = v
    · subst c; omega
    · have:=tot_pos h0 hk v (by omega) ⟨i,by omega,hp⟩
      omega
theorem need_ok {n : Nat} {t : List Task} (h0 : tasksE n t = 0) {l nm : List Str} (hl : setE t l = 0) (ha : Asc nm) (hnm : ∀ x,x ∈ nm ↔ needP t l x) :
    Dist (partL t l nm) ∧ ∀ i,i < nm.length → (ix (partL t l nm) i).Part = ix nm i ∧ nameB (ix nm i) = true ∧ 1 ≤ (ix (partL t l nm) i).Count:=by
  have hk : Kn t l:=(set_ok hl).1
  have e : ∀ i,i < nm.length → ix (partL t l nm) i = PartCount.mk (ix nm i) (tot t l (ix nm i) l.length):=fun i hi=>by
    rw [partL,ix_map hi]
  refine ⟨fun i j hi hj h=>?_,fun i hi=>?_⟩
  · have hi' : i < nm.length:=by simpa [partL] using hi
    have hj' : j < nm.length:=by simpa [partL] using hj
    rw [e i hi',e j hj'] at h
    have h' : ix nm i = ix nm j:=h
    rw [ix_eq hi',ix_eq hj'] at h'
    exact (List.getElem_inj ha.nodup).1 h'
  · rw [e i hi]
    obtain ⟨k,hk1,q,hq,hp⟩:=(hnm _).1 (ix_mem hi)
    have ok:=parts_ok h0 (hk _ (ix_mem hk1))
    refine ⟨rfl,?_,tot_pos h0 hk _ (Nat.le_refl _) ⟨k,hk1,pcs_pos ok hq hp⟩⟩
    have:=ok.nam q hq
    rwa [hp] at this
theorem firstE_none {E : Nat → Int} : ∀ m v : Nat,(∀ j,v ≤ j → j < v + m → E j = 0) → firstE E v m = 0
  | 0,_,_=>rfl
  | m + 1,v,h=>by
    rw [firstE,h v (Nat.le_refl _) (by omega)]
    simp only [bne_self_eq_false,cond_false]
    exact firstE_none m (v + 1) fun j h1 h2=>h j (by omega) (by omega)
theorem cnts_zero {l : List PartCount} (hd : Dist l) (h : ∀ i,i < l.length → nameB (ix l i).Part = true ∧ 1 ≤ (ix l i).Count ∧ (ix l i).Count ≤ 10000) : cnts l 10000 = 0:=by
  refine firstE_none _ _ fun v _ hv=>?_
  obtain ⟨h1,h2,h3⟩:=h v (by omega)
  have h4 : (l.take v).any (byPartC (ix l v).Part) = false:=by
    rw [List.any_eq_false]
    intro x hx
    obtain ⟨j,hj,rfl⟩:=List.mem_iff_getElem.1 hx
    simp only [List.length_take] at hj
    intro c
    have : (ix l j).Part = (ix l v).Part:=by
      rw [ix_eq (by omega : j < l.length)]
      have:=eq_of_beq c
      rwa [List.getElem_take] at this
    have:=hd j v (by omega) (by omega) this
    omega
  unfold cntE
  rw [h1,h4,decide_eq_true h2,decide_eq_true h3]; rfl
def lastOf (l : List PartCount) (x : Str) : Nat → Int
  | 0=>0
  | k + 1=>bif (ix l k).Part == x then (ix l k).Count else lastOf l x k
theorem last_none {l : List PartCount} {x : Str} : ∀ k,(∀ j,j < k → (ix l j).Part ≠ x) → lastOf l x k = 0
  | 0,_=>rfl
  | k + 1,h=>by
    have : ((ix l k).Part == x) = false:=by rw [beq_eq_false_iff_ne]; exact h k (by omega)
    rw [lastOf,this,cond_false]
    exact last_none k fun j hj=>h j (by omega)
theorem last_eq {l : List PartCount} {x : Str} {c : Int} : ∀ k,(∀ j,j < k → (ix l j).Part = x → (ix l j).Count = c) → (∃ j,j < k ∧ (ix l j).Part = x) → lastOf l x k = c
  | 0,_,⟨j,hj,_⟩=>by omega
  | k + 1,h,⟨j,hj,e⟩=>by
    rw [lastOf]
    cases c1 : (ix l k).Part == x
    · rw [cond_false]
      have hjk : j ≠ k:=fun q=>by subst q; rw [e] at c1; simp at c1
      exact last_eq k (fun i hi=>h i (by omega)) ⟨j,by omega,e⟩
    · rw [cond_true]; exact h k (by omega) (eq_of_beq c1)
end
section
set_option maxRecDepth 4000
open Go
theorem all_tk {p : PartCount → Bool} {l : List PartCount} {v : Nat} (h : v < l.length) : (l.take (v + 1)).all p = ((l.take v).all p && p (ix l v)):=by
  rw [List.take_succ_eq_append_getElem h,List.all_append,ix_eq h]
  simp
section
variable {n : Nat} {S : List Stocked} {P : List PartPromise} {need : List PartCount}
theorem ix_left {i : Nat} (hi : i < S.length) : ix (leftP S P) i = PartCount.mk (ix S i).Part ((ix S i).Count - psum (ix S i).Part P):=by rw [leftP,ix_map hi]
theorem left_len : (leftP S P).length = S.length:=by simp [leftP]
theorem short_of (hd : Dist need) (hc : ∀ j,j < need.length → 1 ≤ (ix need j).Count ∧ (ix need j).Count ≤ 10000) {i : Nat} (hi : i < need.length) :
    lastOf (missL S P need need.length) (ix need i).Part (missL S P need need.length).length = bif decide (leftOf S P (ix need i).Part < (ix need i).Count) then (ix need i).Count - leftOf S P (ix need i).Part else 0:=by
  by_cases c : leftOf S P (ix need i).Part < (ix need i).Count
  · rw [decide_eq_true c,cond_true]
    refine last_eq _ (fun j hj e=>(miss_short hd hi need.length (Nat.le_refl _) _ (ix_mem hj) e).2.1) ?_
    obtain ⟨j,hj,e⟩:=List.mem_iff_getElem.1 (miss_mem (s:=S) (l:=P) hi c)
    exact ⟨j,hj,by rw [ix_eq hj,e]⟩
  · rw [decide_eq_false c,cond_false]
    exact last_none _ fun j hj e=>c (miss_short hd hi need.length (Nat.le_refl _) _ (ix_mem hj) e).2.2
theorem rounds (h0 : promC S P = 0) (hd : Dist need) (hc : ∀ j,j < need.length → 1 ≤ (ix need j).Count ∧ (ix need j).Count ≤ 10000) (hS : S.length ≤ 60) (hP : P.length ≤ 60) (hN : need.length ≤ 60) (hn : 1000 < n) {e1 e2 e3 : Int} {k : List PartPromise × Bool → Option Bool} {a1 : Shop} (h1 : a1.Stock = S) :
    loopN (q42k n a1 (e1,need) (e2,missL S P need need.length) (e3,leftP S P) k) n (P,true,0) = k (accL S P need need.length,need.all (fitB S P)):=by
  have e0 : (P,true,0) = (fun v=>(accL S P need v,(need.take v).all (fitB S P),v)) 0:=by simp [acc_zero]
  have hml:=missL_len S P need need.length (Nat.le_refl _)
  rw [e0]
  refine loop_through (st:=fun v=>(accL S P need v,(need.take v).all (fitB S P),v)) (len:=need.length) (fun back v hv=>?_) (fun back=>?_) n (by omega)
  · have hal:=acc_len S P need v
    have hadd:=AddPromise_res n S (accL S P need v) (mkP (ix need v)) (stock_name (all_bound h0).1) (acc_name (prom_name h0)) (by show grandS.length ≤ 20; decide) (by omega) (by omega) hn
    rw [acc_add h0 hd hc (by omega) hv] at hadd
    have hsh:=short_of (S:=S) (P:=P) hd hc hv
    have hlb:=left_bound h0 (ix need v).Part
    have hcv:=hc v hv
    simp only [q42k,hv,decide_true,cond_true,withK_eq,h1]
    rw [show PartPromise.mk ([103,114,97,110,100] : Str) (ix need v).Part (ix need v).Count = mkP (ix need v) from rfl,hadd]
    simp only [Option.bind_some]
    refine loop_fold (st:=fun w=>lastOf (missL S P need need.length) (ix need v).Part w) (len:=(missL S P need need.length).length) (fun back' w hw=>?_) (fun back'=>?_) n (by omega) rfl
    · simp only [q55k,hw,decide_true,cond_true,withK_eq,lastOf]
      rw [chk_of (nI_of (by omega)),chk_of (nI_of (by omega))]
      cases (ix (missL S P need need.length) w).Part == (ix need v).Part <;> rfl
    · simp only [q55k,Nat.lt_irrefl,decide_false,cond_false]
      rw [hsh,FindStock_eq n S _ (by omega) (by omega),Option.bind_some]
      rw [all_tk hv,acc_step S P hv]
      have hnI : nI (v + 1) = true:=nI_of (by omega)
      by_cases h : findI (byPart (ix need v).Part) S < 0
      · have h' : ¬ (0 : Int) ≤ findI (byPart (ix need v).Part) S:=by omega
        have hE : ansI S P (ix need v) = 6:=by simp [ansI,h]
        have hF : fitB S P (ix need v) = false:=by simp [fitB,h']
        have hL : leftOf S P (ix need v).Part = 0:=by simp [leftOf,h']
        rw [hE,hF,hL,decide_eq_true h,decide_eq_true (show (0 : Int) < (ix need v).Count by omega)]
        simp [hnI]
      · obtain ⟨f1,f2,f3,f4⟩:=findI_pos h
        have hpart : (ix S (findI (byPart (ix need v).Part) S).toNat).Part = (ix need v).Part:=eq_of_beq f3
        have hix : (ix (leftP S P) (findI (byPart (ix need v).Part) S).toNat).Count = leftOf S P (ix need v).Part:=by
          rw [ix_left f2,hpart]
          simp [leftOf,f1]
        have hin : inB (findI (byPart (ix need v).Part) S) (leftP S P).length = true:=inB_of f1 (by rw [left_len]; exact f2)
        have hlt : decide ((findI (byPart (ix need v).Part) S).toNat < (leftP S P).length) = true:=by rw [left_len]; exact decide_eq_true f2
        by_cases c : leftOf S P (ix need v).Part < (ix need v).Count
        · have hE : ansI S P (ix need v) = 20:=by simp [ansI,h,c]
          have hF : fitB S P (ix need v) = false:=by simp [fitB,c]
          have hI : inI ((ix need v).Count - leftOf S P (ix need v).Part) = true:=inI_of (by omega) (by omega)
          rw [hE,hF,decide_eq_false h,decide_eq_true c,hin,hlt,hix]
          simp [hnI,hI]
        · have hE : ansI S P (ix need v) = 0:=by simp [ansI,h,c]
          have hF : fitB S P (ix need v) = true:=by simp [fitB,c,f1]
          rw [hE,hF,decide_eq_false h,decide_eq_false c,hin,hlt,hix]
          simp [hnI,acc_step S P hv,hF,decide_eq_false c]
  · simp only [q42k,Nat.lt_irrefl,decide_false,cond_false,List.take_length]
theorem taken (h0 : promC S P = 0) (hd : Dist need) (hc : ∀ j,j < need.length → 1 ≤ (ix need j).Count ∧ (ix need j).Count ≤ 10000) (hS : S.length ≤ 60) (hP : P.length ≤ 60) (hN : need.length ≤ 60) (hn : 1000 < n) {e1 e3 e4 : Int} {K : Unit → Option Bool} (hK : K () = some true) :
    loopN (q31k n (e1,need) (e3,leftP S P) (need.all (fitB S P)) (e4,leftP S (accL S P need need.length)) K) n 0 = some true:=by
  cases hal : need.all (fitB S P)
  · refine loop_through (st:=fun v=>v) (len:=0) (fun back v hv=>by omega) (fun back=>?_) n (by omega)
    simp only [q31k,Bool.and_false,cond_false,hK]
  · refine loop_through (st:=fun v=>v) (len:=S.length) (fun back v hv=>?_) (fun back=>?_) n (by omega)
    · have hlt : v < (leftP S (accL S P need need.length)).length:=by rw [left_len]; exact hv
      have hlt2 : v < (leftP S P).length:=by rw [left_len]; exact hv
      simp only [q31k,hlt,hlt2,decide_true,cond_true,withK_eq,Bool.and_self,chk_t]
      have hp0 : (ix (leftP S (accL S P need need.length)) v).Part = (ix S v).Part:=by rw [ix_left hv]
      refine loop_fold (st:=fun w=>lastOf need (ix S v).Part w) (len:=need.length) (fun back' w hw=>?_) (fun back'=>?_) n (by omega) rfl
      · simp only [q56k,hw,hlt,decide_true,cond_true,withK_eq,lastOf,chk_t,hp0]
        rw [chk_of (nI_of (by omega)),chk_of (nI_of (by omega))]
        cases (ix need w).Part == (ix S v).Part <;> rfl
      · simp only [q56k,Nat.lt_irrefl,decide_false,cond_false]
        have hk : lastOf need (ix S v).Part need.length = tkn S P need (ix S v).Part need.length:=by
          by_cases c : ∃ j,j < need.length ∧ (ix need j).Part = (ix S v).Part
          · obtain ⟨j,hj,e⟩:=c
            have hf : fitB S P (ix need j) = true:=List.all_eq_true.1 hal _ (ix_mem hj)
            rw [← e,tkn_at hd hj need.length (Nat.le_refl _),decide_eq_true hj,hf]
            show _ = (ix need j).Count
            exact last_eq _ (fun i hi q=>by rw [hd i j hi hj q]) ⟨j,hj,rfl⟩
          · rw [last_none _ fun j hj e=>c ⟨j,hj,e⟩,tkn_out _ fun j hj e=>c ⟨j,hj,e⟩]
        have hsum:=acc_psum S P need (ix S v).Part need.length (Nat.le_refl _)
        have hb0:=stock_count (all_bound h0).1 hv
        have hbs:=psum_bound (ix S v).Part P (by have:=take_bound (all_bound h0).2.2; simpa using this)
        have hoka:=acc_ok h0 hd hc (by omega) need.length (Nat.le_refl _)
        have hbt:=psum_bound (ix S v).Part (accL S P need need.length) (by have:=take_bound (all_bound hoka).2.2; simpa using this)
        have hlen:=acc_len S P need need.length
        rw [ix_left hv,ix_left hv,hk]
        simp only []
        have hI : inI ((ix S v).Count - psum (ix S v).Part P - tkn S P need (ix S v).Part need.length) = true:=inI_of (by omega) (by omega)
        have hnI : nI (v + 1) = true:=nI_of (by omega)
        rw [hI,hsum,show (ix S v).Count - (psum (ix S v).Part P + tkn S P need (ix S v).Part need.length) = (ix S v).Count - psum (ix S v).Part P - tkn S P need (ix S v).Part need.length by omega]
        simp [hnI]
    · simp [q31k,left_len,hK]
end
theorem pre_loop {n : Nat} (need : List PartCount) (e : Int) (K : Unit → Option Bool) (hn : need.length < n) (hl : need.length ≤ 60:=by omega) : loopN (q41k (e,need) K) n 0 = bif need.any (fun x=>decide ((10000 : Int) < x.Count)) then some true else K ():=by
  refine loop_any' (l:=need) (fun back v hv=>?_) (fun back=>?_) n hn
  · simp only [q41k,hv,decide_true,cond_true]
    rw [chk_of (nI_of (by omega))]
  · simp only [q41k,Nat.lt_irrefl,decide_false,cond_false]
theorem pure_TopPromisedOnce (a0 : List Task) (a1 : Shop) (a2 : List Str) (hl : a2.length ≤ 9223372036854775807) : agraffetop_TopPromisedOnce (2000 + a2.length) a0 a1 a2 = some true:=by
  obtain ⟨n,hn0⟩ : ∃ n,n = 2000 + a2.length:=⟨_,rfl⟩
  rw [← hn0]
  have hn : 1000 < n:=by omega
  rw [agraffetop_TopPromisedOnce]
  simp only [agraffetop_estimated,Option.bind_some,Bool.not_true,cond_false,Few_eq (n:=n) a0 hn]
  cases hf : fewB a0
  · simp
  have ok:=few_ok hf
  by_cases g1 : 8 < a0.length
  · simp [g1]
  by_cases g2 : 8 < a1.Stock.length
  · simp [g1,g2]
  by_cases g3 : 8 < a1.Promises.length
  · simp [g1,g2,g3]
  simp only [g1,g2,g3,decide_false,Bool.not_true,Bool.or_self,Bool.not_false,gcall_t,CheckTasks_ref (n:=n) ok hn,Option.bind_some]
  by_cases h0 : tasksE n a0 = 0
  · simp only [h0,bne_self_eq_false,Bool.or_self,Bool.not_false,gcall_t,set_any (n:=n) (t:=a0) (l:=a2) (by omega) hl hn (by omega),Option.bind_some]
    by_cases h1 : setE a0 a2 = 0
    · simp only [h1,bne_self_eq_false,Bool.or_self,Bool.not_false,gcall_t,CheckPromises_any (n:=n) (a0:=a1.Stock) (a1:=a1.Promises) (by omega) hn,Option.bind_some]
      by_cases h2 : promC a1.Stock a1.Promises = 0
      · have hal:=set_len h1
        obtain ⟨nm,n1,n2,n3,n4⟩:=partsOf_ref (n:=n) ok h0 h1 (by omega) hn
        have g5:=partsOf_res (n:=n) ok h0 h1 (by omega) hn n1 n3
        obtain ⟨hd,hx⟩:=need_ok h0 h1 n1 n3
        have hnl : (partL a0 a2 nm).length = nm.length:=by simp [partL]
        have hsn : ∀ x ∈ partL a0 a2 nm,x.Part.length ≤ 20:=fun x hxm=>by
          obtain ⟨j,hj,rfl⟩:=List.mem_iff_getElem.1 hxm
          obtain ⟨q1,q2,_⟩:=hx j (by omega)
          rw [← ix_eq hj,q1]
          have:=nameB_len q2; omega
        have hst:=stock_name (all_bound h2).1
        have hpr:=prom_name h2
        simp only [h2,bne_self_eq_false,Bool.or_self,cond_false,g5,Option.bind_some,missing_res (n:=n) hst hpr hsn hn,LeftOf_res n a1.Stock a1.Promises hst hpr hn,left_len,decide_true,Bool.not_true,withK_eq]
        generalize partL a0 a2 nm = need at *
        by_cases hbig : 60 < need.length
        · simp [hbig]
        simp only [hbig,decide_false,cond_false]
        rw [pre_loop need _ _ (by omega)]
        cases hany : need.any fun x=>decide ((10000 : Int) < x.Count)
        · rw [cond_false]
          have hc : ∀ j,j < need.length → 1 ≤ (ix need j).Count ∧ (ix need j).Count ≤ 10000:=fun j hj=>by
            rw [List.any_eq_false] at hany
            have:=hany _ (ix_mem hj)
            simp only [decide_eq_true_eq] at this
            exact ⟨(hx j (by omega)).2.2,by omega⟩
          have hz : cnts need 10000 = 0:=cnts_zero hd fun i hi=>⟨by rw [(hx i (by omega)).1]; exact (hx i (by omega)).2.1,(hc i hi).1,(hc i hi).2⟩
          have hml:=missL_len a1.Stock a1.Promises need need.length (Nat.le_refl _)
          have hoka:=acc_ok h2 hd hc (by omega) need.length (Nat.le_refl _)
          have hlo:=LeftOf_res n a1.Stock (accL a1.Stock a1.Promises need need.length) hst (acc_name hpr) hn
          have hmn:=miss_nil (s:=a1.Stock) (l:=a1.Promises) hc
          have hdn : decide ((missL a1.Stock a1.Promises need need.length).length = 0) = need.all (fitB a1.Stock a1.Promises):=by
            cases c : need.all (fitB a1.Stock a1.Promises)
            · exact decide_eq_false fun q=>by rw [hmn.1 q] at c; cases c
            · exact decide_eq_true (hmn.2 c)
          simp only [hz,bne_self_eq_false,cond_false,Bool.false_or,decide_eq_false (show ¬ need.length < (missL a1.Stock a1.Promises need need.length).length by omega),room_of (b:=40) (n:=a1.Promises.length) (by omega) (by omega),chk_t]
          rw [rounds h2 hd hc (by omega) (by omega) (by omega) hn rfl]
          simp only [hdn,BEq.rfl,Bool.not_true,cond_false,hlo,hoka,bne_self_eq_false,Option.bind_some,left_len,decide_true,Bool.or_self]
          exact taken h2 hd hc (by omega) (by omega) (by omega) hn rfl
        · rfl
      · simp [bne_t h2]
    · simp [bne_t h1]
  · simp [bne_t h0]
end
end Go.Proofs.YtifabpmjiphhdaaGreat.As
