/- Rules for the program's operations over plain values, part 3: no condition. -/
import Derived.Test.YtchkkpbkgghcoaaGreatDoorGround2
namespace Go.Proofs.YtchkkpbkgghcoaaGreatDoor.As
open Go
section
open Go
mutual
def V.refs : V → List Nat
  | .own n _ _ => [n]
  | .ptr n _ _ => [n]
  | .map n => [n]
  | .agg cs => refsL cs
  | .tup cs => refsL cs
  | .fn _ a b => refsL a ++ refsL b
  | .iface _ v => v.refs
  | .cond _ v => v.refs
  | .p _ => []
  | .emp => []
  | .sl _ _ => []
  | .fptr _ _ _ _ => []
  | .fmap _ _ => []
  | .itp n => [n]
  | .undef => []
def refsL : List V → List Nat
  | [] => []
  | x :: r => x.refs ++ refsL r
end
mutual
theorem V.ren_back {f g : Nat → Nat} : ∀ (x : V), (∀ n ∈ x.refs, g (f n) = n) → (x.ren f).ren g = x
  | .own n _ _, h => by simp only [V.ren, h n (by simp [V.refs])]
  | .ptr n _ _, h => by simp only [V.ren, h n (by simp [V.refs])]
  | .map n, h => by simp only [V.ren, h n (by simp [V.refs])]
  | .agg cs, h => by simp only [V.ren]; rw [renL_back cs (by simpa [V.refs] using h)]
  | .tup cs, h => by simp only [V.ren]; rw [renL_back cs (by simpa [V.refs] using h)]
  | .fn _ a b, h => by
    simp only [V.ren]
    rw [renL_back a (fun n hn => h n (by simp [V.refs, hn])), renL_back b (fun n hn => h n (by simp [V.refs, hn]))]
  | .iface _ v, h => by simp only [V.ren]; rw [V.ren_back v (by simpa [V.refs] using h)]
  | .cond _ v, h => by simp only [V.ren]; rw [V.ren_back v (by simpa [V.refs] using h)]
  | .p _, _ => rfl
  | .emp, _ => rfl
  | .sl _ _, _ => rfl
  | .fptr _ _ _ _, _ => rfl
  | .fmap _ _, _ => rfl
  | .itp n, h => by simp only [V.ren, h n (by simp [V.refs])]
  | .undef, _ => rfl
theorem renL_back {f g : Nat → Nat} : ∀ (l : List V), (∀ n ∈ refsL l, g (f n) = n) → renL g (renL f l) = l
  | [], _ => rfl
  | x :: r, h => by
    simp only [renL]
    rw [V.ren_back x (fun n hn => h n (by simp [refsL, hn])), renL_back r (fun n hn => h n (by simp [refsL, hn]))]
end
def refsO : Option AObj → List Nat
  | some (.row _ es) => refsL es
  | some (.mp l) => l.flatMap fun p => p.1.refs ++ p.2.refs
  | some (.it _ _) => []
  | some (.bld _ x) => x.refs
  | none => []
theorem AObj.ren_back {f g : Nat → Nat} (o : Option AObj) (h : ∀ n ∈ refsO o, g (f n) = n) : (o.map (AObj.ren f)).map (AObj.ren g) = o := by
  cases o with
  | none => rfl
  | some o =>
    cases o with
    | row k es =>
      simp only [Option.map_some, AObj.ren]
      have := renL_back es (f := f) (g := g) (by simpa [refsO] using h)
      first
        | rw [this]
        | (simp only [renL_map, List.map_map] at this; simpa using this)
    | it _ _ => rfl
    | bld t x =>
      simp only [Option.map_some, AObj.ren, Option.some.injEq, AObj.bld.injEq, true_and]
      exact V.ren_back x (by simpa [refsO] using h)
    | mp l =>
      simp only [Option.map_some, AObj.ren, List.map_map, Option.some.injEq, AObj.mp.injEq]
      rw [show l = l.map id by simp]
      simp only [List.map_map]
      refine List.map_congr_left fun p hp => ?_
      simp only [Function.comp_def, id]
      rw [V.ren_back p.1 (fun n hn => h n (by simp only [refsO, List.mem_flatMap]; exact ⟨p, hp, by simp [hn]⟩)), V.ren_back p.2 (fun n hn => h n (by simp only [refsO, List.mem_flatMap]; exact ⟨p, hp, by simp [hn]⟩))]
def inv (rs : List Nat) (n : Nat) : Nat := match rs with
  | [] => 0
  | r :: l => match Nat.beq r n with
    | true => 0
    | false => inv l n + 1
theorem inv_back : ∀ (rs : List Nat) (n : Nat), n ∈ rs → inv rs n < rs.length ∧ rs.getD (inv rs n) 0 = n
  | r :: l, n, h => by
    unfold inv
    cases e : Nat.beq r n with
    | true => have := Nat.eq_of_beq_eq_true e; simp [this]
    | false =>
      have hne : r ≠ n := Nat.ne_of_beq_eq_false e
      have hl : n ∈ l := by
        rcases List.mem_cons.1 h with h | h
        · exact absurd h.symm hne
        · exact h
      obtain ⟨h1, h2⟩ := inv_back l n hl
      simp only [List.length_cons, List.getD_cons_succ]
      exact ⟨by omega, h2⟩
theorem inv_rho {N : Nat} {rs : List Nat} {n : Nat} (h : n ∈ rs) : rho N rs (inv rs n) = n := by
  obtain ⟨h1, h2⟩ := inv_back rs n h
  simp only [rho, if_pos h1, h2]
theorem inv_rhoU {N c : Nat} {rs : List Nat} {n : Nat} (h : n ∈ rs) : rhoU N c rs (inv rs n) = n := by
  obtain ⟨h1, h2⟩ := inv_back rs n h
  simp only [rhoU, if_pos h1, h2]
theorem ObsRen.of {ρ : Nat → Nat} : ∀ (l : Objs), ObsRen ρ l (renO ρ l)
  | [] => .nil
  | _ :: r => .cons rfl (ObsRen.of r)
def valEq : Value → Value → Bool
  | .bool a, .bool b => a == b
  | .int k a, .int k' b => decide (k = k') && decide (a = b)
  | .string a, .string b => decide (a.data.toList = b.data.toList)
  | _, _ => false
theorem valEq_eq : ∀ {a b : Value}, valEq a b = true → a = b := by
  intro a b h
  unfold valEq at h
  split at h
  · simp at h; rw [h]
  · simp at h; rw [h.1, h.2]
  · rename_i a b
    simp at h
    obtain ⟨⟨l⟩⟩ := a
    obtain ⟨⟨r⟩⟩ := b
    simp at h
    rw [h]
  · cases h
def fnEq : Go.Fn → Go.Fn → Bool
  | .func a, .func b => Nat.beq a b
  | _, _ => false
theorem fnEq_eq {a b : Go.Fn} (h : fnEq a b = true) : a = b := by
  unfold fnEq at h
  split at h
  · rw [Nat.eq_of_beq_eq_true h]
  · cases h
mutual
def V.beq : V → V → Bool
  | .p a, .p b => valEq a b
  | .emp, .emp => true
  | .sl k l, .sl k' l' => Nat.beq k k' && beqL l l'
  | .own a b c, .own a' b' c' => Nat.beq a a' && Nat.beq b b' && Nat.beq c c'
  | .ptr a b c, .ptr a' b' c' => Nat.beq a a' && Nat.beq b b' && Nat.beq c c'
  | .fptr k l a b, .fptr k' l' a' b' => Nat.beq k k' && beqL l l' && Nat.beq a a' && Nat.beq b b'
  | .agg l, .agg l' => beqL l l'
  | .tup l, .tup l' => beqL l l'
  | .fn f a b, .fn f' a' b' => fnEq f f' && beqL a a' && beqL b b'
  | .map a, .map b => Nat.beq a b
  | .undef, .undef => true
  | _, _ => false
def beqL : List V → List V → Bool
  | [], [] => true
  | x :: r, y :: s => x.beq y && beqL r s
  | _, _ => false
end
mutual
theorem V.beq_eq : ∀ (x y : V), x.beq y = true → x = y
  | .p a, y, h => by cases y <;> simp [V.beq] at h; rw [valEq_eq h]
  | .emp, y, h => by cases y <;> simp [V.beq] at h; rfl
  | .sl k l, y, h => by cases y <;> simp [V.beq] at h; rw [h.1, beqL_eq _ _ h.2]
  | .own _ _ _, y, h => by cases y <;> simp [V.beq] at h; rw [h.1.1, h.1.2, h.2]
  | .ptr _ _ _, y, h => by cases y <;> simp [V.beq] at h; rw [h.1.1, h.1.2, h.2]
  | .fptr _ l _ _, y, h => by cases y <;> simp [V.beq] at h; rw [h.1.1.1, beqL_eq _ _ h.1.1.2, h.1.2, h.2]
  | .agg l, y, h => by cases y <;> simp [V.beq] at h; rw [beqL_eq _ _ h]
  | .tup l, y, h => by cases y <;> simp [V.beq] at h; rw [beqL_eq _ _ h]
  | .fn _ a b, y, h => by cases y <;> simp [V.beq] at h; rw [fnEq_eq h.1.1, beqL_eq _ _ h.1.2, beqL_eq _ _ h.2]
  | .map _, y, h => by cases y <;> simp [V.beq] at h; rw [h]
  | .undef, y, h => by cases y <;> simp [V.beq] at h; rfl
  | .iface _ _, y, h => by cases y <;> simp [V.beq] at h
  | .fmap _ _, y, h => by cases y <;> simp [V.beq] at h
  | .itp _, y, h => by cases y <;> simp [V.beq] at h
  | .cond _ _, y, h => by cases y <;> simp [V.beq] at h
theorem beqL_eq : ∀ (x y : List V), beqL x y = true → x = y
  | [], [], _ => rfl
  | [], _ :: _, h => by simp [beqL] at h
  | _ :: _, [], h => by simp [beqL] at h
  | x :: r, y :: s, h => by
    simp only [beqL, Bool.and_eq_true] at h
    rw [V.beq_eq x y h.1, beqL_eq r s h.2]
end
def beqM : List (V × V) → List (V × V) → Bool
  | [], [] => true
  | (a, b) :: r, (a', b') :: s => a.beq a' && b.beq b' && beqM r s
  | _, _ => false
theorem beqM_eq : ∀ (x y : List (V × V)), beqM x y = true → x = y
  | [], [], _ => rfl
  | [], _ :: _, h => by simp [beqM] at h
  | _ :: _, [], h => by simp [beqM] at h
  | (a, b) :: r, (a', b') :: s, h => by
    simp only [beqM, Bool.and_eq_true] at h
    rw [V.beq_eq _ _ h.1.1, V.beq_eq _ _ h.1.2, beqM_eq r s h.2]
def beqO : Objs → Objs → Bool
  | [], [] => true
  | none :: r, none :: s => beqO r s
  | some (.row k l) :: r, some (.row k' l') :: s => Nat.beq k k' && beqL l l' && beqO r s
  | some (.mp l) :: r, some (.mp l') :: s => beqM l l' && beqO r s
  | _, _ => false
theorem beqO_eq : ∀ (x y : Objs), beqO x y = true → x = y
  | [], y, h => by cases y <;> simp [beqO] at h; rfl
  | none :: r, y, h => by
    rcases y with _ | ⟨_ | _, s⟩ <;> simp [beqO] at h
    rw [beqO_eq r s h]
  | some (.row k l) :: r, y, h => by
    rcases y with _ | ⟨_ | ⟨k', l'⟩ | l' | ⟨_, _⟩ | ⟨_, _⟩, s⟩ <;> simp [beqO] at h
    rw [h.1.1, beqL_eq _ _ h.1.2, beqO_eq r s h.2]
  | some (.mp l) :: r, y, h => by
    rcases y with _ | ⟨_ | ⟨k', l'⟩ | l' | ⟨_, _⟩ | ⟨_, _⟩, s⟩ <;> simp [beqO] at h
    rw [beqM_eq _ _ h.1, beqO_eq r s h.2]
  | some (.it _ _) :: r, y, h => by
    rcases y with _ | ⟨_ | ⟨k', l'⟩ | l' | ⟨_, _⟩ | ⟨_, _⟩, s⟩ <;> simp [beqO] at h
  | some (.bld _ _) :: r, y, h => by
    rcases y with _ | ⟨_ | ⟨k', l'⟩ | l' | ⟨_, _⟩ | ⟨_, _⟩, s⟩ <;> simp [beqO] at h
end
section
open Go
variable {P : Program} {sz : Nat} {df : Rd} {m : Nat}
def reach (ob : Objs) : Nat → List Nat → List Nat → List Nat
  | 0, _, acc => acc
  | _ + 1, [], acc => acc
  | n + 1, r :: todo, acc => match acc.contains r with
    | true => reach ob n todo acc
    | false => reach ob n (refsO (oget ob r) ++ todo) (acc ++ [r])
abbrev CallE := Bool → Nat → List V → Objs → Option (V × Objs)
def Sound (P : Program) (ev : CallE) : Prop := ∀ b f xs ob y ob', ev b f xs ob = some (y, ob') → FnL P f xs ob y ob'
def closedR (ob : Objs) (xs : List V) (rs : List Nat) : Bool := (refsL xs).all (rs.contains ·) && rs.all (fun r => (refsO (oget ob r)).all (rs.contains ·)) && callOK ob.length rs
theorem closedR_facts {ob : Objs} {xs : List V} {rs : List Nat} (h : closedR ob xs rs = true) {g : Nat → Nat} (hg : ∀ n ∈ rs, g (inv rs n) = n) :
    xs = renL g (renL (inv rs) xs) ∧ rs.map (oget ob) = renO g (renO (inv rs) (rs.map (oget ob))) ∧ callOK ob.length rs = true := by
  simp only [closedR, Bool.and_eq_true, List.all_eq_true] at h
  obtain ⟨⟨h1, h2⟩, h3⟩ := h
  refine ⟨(renL_back xs fun n hn => hg n (by simpa using h1 n hn)).symm, ?_, h3⟩
  simp only [renO, List.map_map]
  refine List.map_congr_left fun r hr => ?_
  simp only [Function.comp_def]
  exact (AObj.ren_back _ fun n hn => hg n (by simpa using h2 r hr n hn)).symm
def callE (ev : CallE) (ob : Objs) (f : Nat) (xs : List V) (rs : List Nat) : Option (V × Objs) := match closedR ob xs rs with
  | true => match ev false f (renL (inv rs) xs) (renO (inv rs) (rs.map (oget ob))) with
    | some (y, ob') => some (y.ren (rho ob.length rs), setAll ob rs (renO (rho ob.length rs) ob'))
    | none => none
  | false => none
def roots (ob : Objs) (xs : List V) : List Nat := reach ob 100000 (refsL xs) []
theorem callE_sound {ev : CallE} (hev : Sound P ev) {ops : Array Oper} {i : Nat} {S : St} {d : Option Nat} {f : Nat} {as args : List X} {gd : Option (Nat × Bool)} {y : V} {ob2 : Objs} {rs : List Nat}
    (h : callE ev S.ob f (as.map (tau (fget S.fr))) rs = some (y, ob2)) (hco : compAt P sz ops i = some ⟨d, .call f as, gd, args, 2⟩) (hg : gval S.fr gd = some true) (hx : args.all (xcond S.fr) = true) : Op1 P sz ops i S d y ob2 := by
  unfold callE at h
  split at h
  · rename_i hc
    split at h
    · rename_i y' ob' he
      cases h
      obtain ⟨h1, h2, h3⟩ := closedR_facts hc (g := rho S.ob.length rs) fun n hn => inv_rho hn
      refine Op1.call as args hco hg (hev _ _ _ _ _ _ he) rs h1 (.of hx) h3 rfl ?_ rfl (.of _) rfl
      rw [show rs.map (oget S.ob) = _ from h2]
      conv => arg 2; rw [← h2]
      exact .of _
    · cases h
  · cases h
theorem dynE_sound {ev : CallE} (hev : Sound P ev) {ops : Array Oper} {i : Nat} {S : St} {d : Option Nat} {f : Nat} {gx : X} {as args : List X} {gd : Option (Nat × Bool)} {first caps : List V} {y : V} {ob2 : Objs} {rs : List Nat}
    (h : callE ev S.ob f (first ++ as.map (tau (fget S.fr)) ++ caps) rs = some (y, ob2)) (hf : tau (fget S.fr) gx = .fn (.func f) first caps) (hco : compAt P sz ops i = some ⟨d, .dyn gx as, gd, args, 2⟩) (hg : gval S.fr gd = some true) (hx : args.all (xcond S.fr) = true) : Op1 P sz ops i S d y ob2 := by
  unfold callE at h
  split at h
  · rename_i hc
    split at h
    · rename_i y' ob' he
      cases h
      obtain ⟨h1, h2, h3⟩ := closedR_facts hc (g := rho S.ob.length rs) fun n hn => inv_rho hn
      refine Op1.dyn gx as args hco hg hf (hev _ _ _ _ _ _ he) rs h1 (.of hx) h3 rfl ?_ rfl (.of _) rfl
      rw [show rs.map (oget S.ob) = _ from h2]
      conv => arg 2; rw [← h2]
      exact .of _
    · cases h
  · cases h
def nonnil : V → Bool
  | .sl _ (_ :: _) => true
  | .own _ _ (_ + 1) => true
  | _ => false
theorem nonnil_ok {v : V} (h : nonnil v = true) : NilOK v false := by
  unfold nonnil at h
  split at h
  · rename_i k x r
    intro w F β u h'
    generalize hl : x :: r = L at h'
    cases h' with
    | fr h =>
      cases h with
      | sl0 => cases hl
      | sl us hne _ _ _ _ _ _ => exact ⟨_, _, _, rfl, fun h => by cases h⟩
  · rename_i n o l
    have := nil_own (n := n) (o := o) (len := l + 1)
    exact this
  · cases h
def rawE (P : Program) (sz : Nat) (ops : Array Oper) (i : Nat) (S : St) : Option (Option Nat × V × Objs) := match rawCap P sz ops i with
  | some (d, x) => match xcond S.fr x, tau (fget S.fr) x with
    | true, .emp => some (d, vi 0, S.ob)
    | _, _ => none
  | none => match rawAppZ P sz ops i with
    | some (d, kk, b, x, y) => match xcond S.fr x && xcond S.fr y, tau (fget S.fr) x, tau (fget S.fr) y with
      | true, .emp, .p (.int .i64 (.ofNat n)) => match decide (0 < n) && room b n with
        | true => some (d, .own S.ob.length 0 n, S.ob ++ [some (.row kk [])])
        | false => none
      | _, _, _ => none
    | none => none
theorem rawE_sound {ops : Array Oper} {i : Nat} {S : St} {K : St → Prop} {d : Option Nat} {v : V} {ob' : Objs} (h : rawE P sz ops i S = some (d, v, ob')) (k : RegJ P sz df m ops (i + 1) ⟨fputc S.fr d v, ob'⟩ K) : RegJ P sz df m ops i S K := by
  unfold rawE at h
  split at h
  · rename_i d' x hr
    split at h
    · rename_i h1 h2
      cases h
      exact RegJ.capE hr h1 h2 k
    · cases h
  · split at h
    · rename_i d' kk b x y hr
      split at h
      · rename_i n h1 h2 h3
        split at h
        · rename_i h4
          cases h
          simp only [Bool.and_eq_true] at h1 h4
          exact RegJ.appZ hr h1.1 h1.2 h2 h3 rfl h4.1 h4.2 k
        · cases h
      · cases h
    · cases h
def opE (P : Program) (ev : CallE) (sz : Nat) (ops : Array Oper) (i : Nat) (S : St) : Option (Option Nat × V × Objs) := match compAt P sz ops i with
  | none => rawE P sz ops i S
  | some ⟨d, op, gd, args, kd⟩ => match gval S.fr gd with
    | none => none
    | some false => some (d, .cond false (vb false), S.ob)
    | some true => match args.all (xcond S.fr), isemE op (tau (fget S.fr)) S.ob with
      | true, some (v, ob') => some (d, v, ob')
      | true, none => match op, kd with
        | .call f as, 2 => match callE ev S.ob f (as.map (tau (fget S.fr))) (roots S.ob (as.map (tau (fget S.fr)))) with
          | some (y, ob') => some (d, y, ob')
          | none => none
        | .dyn g as, 2 => match tau (fget S.fr) g with
          | .fn (.func f) first caps => match callE ev S.ob f (first ++ as.map (tau (fget S.fr)) ++ caps) (roots S.ob (first ++ as.map (tau (fget S.fr)) ++ caps)) with
            | some (y, ob') => some (d, y, ob')
            | none => none
          | _ => none
        | .bytes a, 3 => match gd, tau (fget S.fr) a with
          | none, .p (.string s) => some (d, bytesV s, S.ob)
          | _, _ => none
        | .bin .eql false y (.c .emp), _ => match gd, nilT P ops i && nonnil (tau (fget S.fr) y) with
          | none, true => some (d, vb false, S.ob)
          | _, _ => none
        | _, _ => none
      | false, _ => match op, kd with
        | .pick c a b, 1 => match xval S.fr c, xval S.fr a, xval S.fr b with
          | some (c1, cb), some (a1, ab), some (b1, bb) => match c1 && (!cb || a1) && (cb || b1) with
            | true => match gd with
              | none => some (d, vb (pickB cb ab bb), S.ob)
              | some _ => some (d, .cond true (vb (pickB cb ab bb)), S.ob)
            | false => none
          | _, _, _ => none
        | _, _ => none
theorem opE_sound {ev : CallE} (hev : Sound P ev) {ops : Array Oper} {i : Nat} {S : St} {K : St → Prop} {d : Option Nat} {v : V} {ob' : Objs} (h : opE P ev sz ops i S = some (d, v, ob')) (k : RegJ P sz df m ops (i + 1) ⟨fputc S.fr d v, ob'⟩ K) : RegJ P sz df m ops i S K := by
  unfold opE at h
  split at h
  · exact rawE_sound h k
  · rename_i d' op gd args kd hc
    split at h
    · cases h
    · rename_i hg
      cases h
      exact RegJ.op (Op1.skipc hc hg rfl) k
    · rename_i hg
      split at h
      · rename_i v' ob2 hx he
        cases h
        exact RegJ.op (Op1.effk op args hc hg he (.of hx)) k
      · rename_i hx he
        split at h
        · split at h
          · rename_i hcall
            cases h
            exact RegJ.op (callE_sound hev hcall hc hg hx) k
          · cases h
        · split at h
          · rename_i hf
            split at h
            · rename_i hcall
              cases h
              exact RegJ.op (dynE_sound hev hcall hf hc hg hx) k
            · cases h
          · cases h
        · split at h
          · rename_i hs
            cases h
            exact RegJ.op (Op1.bytes _ hc hs (.of hx)) k
          · cases h
        · split at h
          · rename_i hs
            cases h
            simp only [Bool.and_eq_true] at hs
            refine RegJ.nileq false hc hs.1 (.of hx) rfl (nonnil_ok hs.2) fun b hb => ?_
            cases b with
            | true => exact absurd (hb rfl) (by simp)
            | false => exact k
          · cases h
        · cases h
      · split at h
        · split at h
          · rename_i e1 e2 e3
            split at h
            · rename_i hok
              split at h
              · cases h
                exact RegJ.op (Op1.pick hc e1 e2 e3 hok) k
              · rename_i gt
                cases h
                exact RegJ.op (Op1.pickg hc hg e1 e2 e3 fun _ => hok) k
            · cases h
          · cases h
        · cases h
end
section
open Go
variable {P : Program} {sz : Nat} {df : Rd} {m : Nat}
def callU (b : Bool) (ev : CallE) (ob : Objs) (f : Nat) (xs : List V) (rs : List Nat) : Option (V × Objs × Objs × Nat) := match closedR ob xs rs with
  | true => match ev b f (renL (inv rs) xs) (renO (inv rs) (rs.map (oget ob))) with
    | some (y, ob') => some (y.ren (rhoU ob.length (ob'.length - rs.length) rs), renO (inv rs) (rs.map (oget ob)), ob', ob'.length - rs.length)
    | none => none
  | false => none
theorem callU_facts {b : Bool} {ev : CallE} (hev : Sound P ev) {ob : Objs} {f : Nat} {xs : List V} {rs : List Nat} {y : V} {ob1 ob' : Objs} {c : Nat} (h : callU b ev ob f xs rs = some (y, ob1, ob', c)) :
    ∃ (xs' : List V) (y' : V), FnL P f xs' ob1 y' ob' ∧ xs = renL (rhoU ob.length c rs) xs' ∧ callOK ob.length rs = true ∧ rs.map (oget ob) = renO (rhoU ob.length c rs) ob1 ∧ y'.ren (rhoU ob.length c rs) = y ∧ c = ob'.length - rs.length ∧ ob1.length = rs.length := by
  unfold callU at h
  split at h
  · rename_i hc
    split at h
    · rename_i y' ob2 he
      cases h
      obtain ⟨h1, h2, h3⟩ := closedR_facts hc (g := rhoU ob.length (ob'.length - rs.length) rs) fun n hn => inv_rhoU hn
      exact ⟨_, _, hev _ _ _ _ _ _ he, h1, h3, h2, rfl, rfl, by simp [renO]⟩
    · cases h
  · cases h
theorem setAll_same : ∀ (rs : List Nat) (OB : Objs), rs.Nodup → (∀ r ∈ rs, r < OB.length) → setAll OB rs (rs.map (oget OB)) = OB
  | [], OB, _, _ => by simp [setAll]
  | r :: rs, OB, hn, h => by
    have e : OB.set r (oget OB r) = OB := by
      refine List.ext_getElem? fun i => ?_
      by_cases hi : i = r
      · subst hi
        have := h i (by simp)
        simp [this, oget, List.getD]
      · rw [List.getElem?_set_ne (Ne.symm hi)]
    simp only [List.map_cons, setAll, e]
    exact setAll_same rs OB (List.nodup_cons.1 hn).2 fun x hx => h x (by simp [hx])
abbrev DRes := Option Nat × V × List Nat × List Nat × Objs
def drawC (d : Option Nat) (ob : Objs) (rs : List Nat) (r : Option (V × Objs × Objs × Nat)) : Option DRes := match r with
  | some (y, ob1, ob', c) => match beqO ob' ob1 with
    | true => some (d, y, rs, [], setAll ob rs (renO (rhoU ob.length c rs) ob') ++ [none])
    | false => some (d, y, rs, rs ++ List.range' ob.length c, setAll ob rs (renO (rhoU ob.length c rs) ob') ++ [none])
  | none => none
def drawG (d : Option Nat) (ob : Objs) (rs : List Nat) (r : Option (V × Objs × Objs × Nat)) : Option DRes := match r with
  | some (y, ob1, ob', _) => match beqO ob' ob1 with
    | true => some (d, .cond true y, rs, [], ob ++ [none])
    | false => none
  | none => none
theorem OpD.skipc {ops : Array Oper} {i : Nat} {S : St} {x : Iox} {v : V} (hc : compAt P sz ops i = some x) (hg : gval S.fr x.guard = some false) : OpD P sz ops i S x.dst (.cond false v) [] [] (S.ob ++ [none]) := by
  obtain ⟨⟨o, ho', hco⟩, _, _⟩ := compAt_facts hc
  obtain ⟨c1, c2, c3, c5, c4⟩ := comp_facts hco
  refine ⟨_, hc, rfl, by simp, fun n _ => oget_none_append _ _, fun σ h1 h2 => ?_⟩
  rw [ifnil]
  exact OpRun.pad (OpRun.skipv ho' ((c4 S.fr).trans hg) fun w F β => .cond (by simp) (fun _ => rfl))
def opD (P : Program) (ev : CallE) (sz : Nat) (ops : Array Oper) (i : Nat) (S : St) : Option DRes := match compAt P sz ops i with
  | none => none
  | some ⟨d, op, gd, args, kd⟩ => match gd with
    | none => match args.all (xcond S.fr), isem op (tau (fget S.fr)) (oget S.ob) S.ob.length with
      | true, some ⟨v, eff, true, rd⟩ => match effOK eff S.ob.length with
        | true => some (d, v, rd, eff.tch S.ob.length, eff.obp S.ob)
        | false => none
      | true, none => match op, kd with
        | .call f as, 2 => drawC d S.ob (roots S.ob (as.map (tau (fget S.fr)))) (callU false ev S.ob f (as.map (tau (fget S.fr))) (roots S.ob (as.map (tau (fget S.fr)))))
        | .dyn g as, 2 => match tau (fget S.fr) g with
          | .fn (.func f) first caps => drawC d S.ob (roots S.ob (first ++ as.map (tau (fget S.fr)) ++ caps)) (callU false ev S.ob f (first ++ as.map (tau (fget S.fr)) ++ caps) (roots S.ob (first ++ as.map (tau (fget S.fr)) ++ caps)))
          | _ => none
        | _, _ => none
      | true, some _ => none
      | false, _ => match op, kd with
        | .pick c a b, 1 => match xval S.fr c, xval S.fr a, xval S.fr b with
          | some (c1, cb), some (a1, ab), some (b1, bb) => match c1 && (!cb || a1) && (cb || b1) with
            | true => some (d, vb (pickB cb ab bb), [], [], S.ob ++ [none])
            | false => none
          | _, _, _ => none
        | _, _ => none
    | some (t, w) => match gval S.fr (some (t, w)) with
      | none => none
      | some false => some (d, .cond false (vb false), [], [], S.ob ++ [none])
      | some true => match args.all (xcond S.fr), isem op (tau (fget S.fr)) (oget S.ob) S.ob.length with
        | true, some ⟨v, .none, true, rd⟩ => some (d, .cond true v, rd, [], S.ob ++ [none])
        | true, none => match op, kd with
          | .call f as, 2 => drawG d S.ob (roots S.ob (as.map (tau (fget S.fr)))) (callU true ev S.ob f (as.map (tau (fget S.fr))) (roots S.ob (as.map (tau (fget S.fr)))))
          | .dyn g as, 2 => match tau (fget S.fr) g with
            | .fn (.func f) first caps => drawG d S.ob (roots S.ob (first ++ as.map (tau (fget S.fr)) ++ caps)) (callU true ev S.ob f (first ++ as.map (tau (fget S.fr)) ++ caps) (roots S.ob (first ++ as.map (tau (fget S.fr)) ++ caps)))
            | _ => none
          | _, _ => none
        | true, some _ => none
        | false, _ => match op, kd with
          | .pick c a b, 1 => match xval S.fr c, xval S.fr a, xval S.fr b with
            | some (c1, cb), some (a1, ab), some (b1, bb) => match c1 && (!cb || a1) && (cb || b1) with
              | true => some (d, .cond true (vb (pickB cb ab bb)), [], [], S.ob ++ [none])
              | false => none
            | _, _, _ => none
          | _, _ => none
section
variable {ops : Array Oper} {i : Nat} {S : St} {d d' : Option Nat} {v : V} {rd tch : List Nat} {ob2 : Objs} {args as : List X} {f : Nat} {gx : X} {first caps : List V} {rs : List Nat} {t : Nat} {w : Bool}
theorem drawC_call {ev : CallE} (hev : Sound P ev) (h : drawC d' S.ob rs (callU false ev S.ob f (as.map (tau (fget S.fr))) rs) = some (d, v, rd, tch, ob2)) (hco : compAt P sz ops i = some ⟨d', .call f as, none, args, 2⟩) (hx : args.all (xcond S.fr) = true) : OpD P sz ops i S d v rd tch ob2 := by
  unfold drawC at h
  split at h
  · rename_i y ob1 ob' c hc
    obtain ⟨xs', y', g1, g2, g3, g4, g5, g6, g7⟩ := callU_facts hev hc
    split at h
    · rename_i hb
      cases h
      refine OpD.call c as args hco g1 rd g2 (.of hx) g3 g4 (.of _) g5 (.of _) rfl g6 (.inr ⟨rfl, beqO_eq _ _ hb⟩)
    · cases h
      exact OpD.call c as args hco g1 rd g2 (.of hx) g3 g4 (.of _) g5 (.of _) rfl g6 (.inl rfl)
  · cases h
theorem drawC_dyn {ev : CallE} (hev : Sound P ev) (h : drawC d' S.ob rs (callU false ev S.ob f (first ++ as.map (tau (fget S.fr)) ++ caps) rs) = some (d, v, rd, tch, ob2)) (hco : compAt P sz ops i = some ⟨d', .dyn gx as, none, args, 2⟩) (hf : tau (fget S.fr) gx = .fn (.func f) first caps) (hx : args.all (xcond S.fr) = true) : OpD P sz ops i S d v rd tch ob2 := by
  unfold drawC at h
  split at h
  · rename_i y ob1 ob' c hc
    obtain ⟨xs', y', g1, g2, g3, g4, g5, g6, g7⟩ := callU_facts hev hc
    split at h
    · rename_i hb
      cases h
      refine OpD.dyn c gx as args hco hf g1 rd g2 (.of hx) g3 g4 (.of _) g5 (.of _) rfl g6 (.inr ⟨rfl, beqO_eq _ _ hb⟩)
    · cases h
      exact OpD.dyn c gx as args hco hf g1 rd g2 (.of hx) g3 g4 (.of _) g5 (.of _) rfl g6 (.inl rfl)
  · cases h
theorem drawG_call {ev : CallE} (hev : Sound P ev) (h : drawG d' S.ob rs (callU true ev S.ob f (as.map (tau (fget S.fr))) rs) = some (d, v, rd, tch, ob2)) (hco : compAt P sz ops i = some ⟨d', .call f as, some (t, w), args, 2⟩) (hg : gval S.fr (some (t, w)) = some true) (hx : args.all (xcond S.fr) = true) : OpD P sz ops i S d v rd tch ob2 := by
  unfold drawG at h
  split at h
  · rename_i y ob1 ob' c hc
    obtain ⟨xs', y', g1, g2, g3, g4, g5, g6, g7⟩ := callU_facts hev hc
    split at h
    · rename_i hb
      cases h
      have e := beqO_eq _ _ hb
      subst e
      have hz : c = 0 := by omega
      subst hz
      obtain ⟨hnd, hlt⟩ := callOK_iff g3
      exact OpD.callg as args hco hg (fun _ => g1) rd (fun _ => g2) (fun _ => .of hx) g3 g4 (.of _) g5 (by rw [← g4]; exact setAll_same rd _ hnd hlt) (by omega)
    · cases h
  · cases h
theorem drawG_dyn {ev : CallE} (hev : Sound P ev) (h : drawG d' S.ob rs (callU true ev S.ob f (first ++ as.map (tau (fget S.fr)) ++ caps) rs) = some (d, v, rd, tch, ob2)) (hco : compAt P sz ops i = some ⟨d', .dyn gx as, some (t, w), args, 2⟩) (hg : gval S.fr (some (t, w)) = some true) (hf : tau (fget S.fr) gx = .fn (.func f) first caps) (hx : args.all (xcond S.fr) = true) : OpD P sz ops i S d v rd tch ob2 := by
  unfold drawG at h
  split at h
  · rename_i y ob1 ob' c hc
    obtain ⟨xs', y', g1, g2, g3, g4, g5, g6, g7⟩ := callU_facts hev hc
    split at h
    · rename_i hb
      cases h
      have e := beqO_eq _ _ hb
      subst e
      have hz : c = 0 := by omega
      subst hz
      obtain ⟨hnd, hlt⟩ := callOK_iff g3
      exact OpD.dyng gx as args hco hg hf (fun _ => g1) rd (fun _ => g2) (fun _ => .of hx) g3 g4 (.of _) g5 (by rw [← g4]; exact setAll_same rd _ hnd hlt) (by omega)
    · cases h
  · cases h
theorem opD_sound {ev : CallE} (hev : Sound P ev) (h : opD P ev sz ops i S = some (d, v, rd, tch, ob2)) : OpD P sz ops i S d v rd tch ob2 := by
  unfold opD at h
  split at h
  · cases h
  · rename_i d' op gd args kd hc
    split at h
    · split at h
      · rename_i hx he
        split at h
        · rename_i hef
          cases h
          exact OpD.eff op args hc he (.of hx) hef rfl rfl
        · cases h
      · rename_i hx he
        split at h
        · exact drawC_call hev h hc hx
        · split at h
          · rename_i hf
            exact drawC_dyn hev h hc hf hx
          · cases h
        · cases h
      · cases h
      · split at h
        · split at h
          · rename_i e1 e2 e3
            split at h
            · rename_i hok
              cases h
              exact OpD.pick hc e1 e2 e3 hok
            · cases h
          · cases h
        · cases h
    · rename_i t w
      split at h
      · cases h
      · rename_i hg
        cases h
        exact OpD.skipc hc hg
      · rename_i hg
        split at h
        · rename_i hx he
          cases h
          exact OpD.valg op args hc hg (fun _ => he) (fun _ => .of hx)
        · rename_i hx he
          split at h
          · exact drawG_call hev h hc hg hx
          · split at h
            · rename_i hf
              exact drawG_dyn hev h hc hg hf hx
            · cases h
          · cases h
        · cases h
        · split at h
          · split at h
            · rename_i e1 e2 e3
              split at h
              · rename_i hok
                cases h
                exact OpD.pickg hc hg e1 e2 e3 fun _ => hok
              · cases h
            · cases h
          · cases h
end
end
section
open Go
variable {P : Program} {sz : Nat} {df : Rd} {m : Nat}
def keepF (keep : List Nat) (fr : Fr) : Fr := keep.map fun t => (t, fget fr t)
theorem keepF_le (keep : List Nat) (fr : Fr) : FrLe fr (keepF keep fr) := FrLe.of_map (by simp [keepF, Function.comp_def])
def opsE (P : Program) (ev : CallE) (sz : Nat) (keep : List Nat) (ops : Array Oper) : Nat → Nat → St → Option St
  | 0, i, S => match Nat.beq ops.size i with
    | true => some ⟨keepF keep S.fr, S.ob⟩
    | false => none
  | n + 1, i, S => match opE P ev sz ops i S with
    | some (d, v, ob') => opsE P ev sz keep ops n (i + 1) ⟨fputc S.fr d v, ob'⟩
    | none => none
theorem opsE_sound {ev : CallE} (hev : Sound P ev) {keep : List Nat} {ops : Array Oper} {K : St → Prop} : ∀ (n i : Nat) (S S' : St), opsE P ev sz keep ops n i S = some S' → K S' → RegJ P sz df m ops i S K := by
  intro n
  induction n with
  | zero =>
    intro i S S' h k
    simp only [opsE] at h
    split at h
    · rename_i hi
      cases h
      exact RegJ.sees (Sees.less (keepF_le keep S.fr)) (RegJ.done hi k)
    · cases h
  | succ n ih =>
    intro i S S' h k
    simp only [opsE] at h
    split at h
    · rename_i d v ob' ho
      exact opE_sound hev ho (ih _ _ _ h k)
    · cases h
def opsD (P : Program) (ev : CallE) (sz : Nat) (keep : List Nat) (ops : Array Oper) : Nat → Nat → St → List (List Nat × List Nat) → Option St
  | 0, i, S, acc => match Nat.beq ops.size i && drawOK ops acc with
    | true => some ⟨keepF keep S.fr, S.ob⟩
    | false => none
  | n + 1, i, S, acc => match opD P ev sz ops i S with
    | some (d, v, rd, tch, ob') => opsD P ev sz keep ops n (i + 1) ⟨fputc S.fr d v, ob'⟩ (acc ++ [(rd, tch)])
    | none => none
theorem opsD_sound {ev : CallE} (hev : Sound P ev) {keep : List Nat} {ops : Array Oper} {K : St → Prop} : ∀ (n i : Nat) (S S' : St) (acc : List (List Nat × List Nat)), opsD P ev sz keep ops n i S acc = some S' → K S' → RegD P sz df m ops i S acc K := by
  intro n
  induction n with
  | zero =>
    intro i S S' acc h k
    simp only [opsD] at h
    split at h
    · rename_i hi
      cases h
      simp only [Bool.and_eq_true] at hi
      exact RegD.done hi.1 hi.2 (Sees.less (keepF_le keep S.fr)) k
    · cases h
  | succ n ih =>
    intro i S S' acc h k
    simp only [opsD] at h
    split at h
    · rename_i d v rd tch ob' ho
      exact RegD.op (opD_sound hev ho) (ih _ _ _ _ h k)
    · cases h
def iterE (F : St → Option (Exit × St)) : Nat → St → Option (Exit × St)
  | 0, _ => none
  | n + 1, S => match F S with
    | some (.normal, S') => iterE F n S'
    | r => r
def codeE (P : Program) (ev : CallE) (lf sz : Nat) (keep : List Nat) : Code → St → Option (Exit × St)
  | .skip, S => some (.normal, S)
  | .label _, S => some (.normal, S)
  | .ret, S => some (.ret, S)
  | .exit id, S => some (.exit id, S)
  | .seq a b, S => match codeE P ev lf sz keep a S with
    | some (.normal, S') => codeE P ev lf sz keep b S'
    | r => r
  | .block id c, S => match codeE P ev lf sz keep c S with
    | some (.exit id', S') => match Nat.beq id' id with
      | true => some (.normal, S')
      | false => some (.exit id', S')
    | r => r
  | .scope c, S => match codeE P ev lf sz keep c S with
    | some (.goto _, _) => none
    | r => r
  | .cond c a b, S => match xbool S.fr (toX c) with
    | some true => codeE P ev lf sz keep a S
    | some false => codeE P ev lf sz keep b S
    | none => none
  | .loop c, S => iterE (fun S => codeE P ev lf sz keep c S) lf S
  | .region _ ops draw, S => match draw with
    | false => match (match noDefers ops with | true => opsE P ev sz keep ops ops.size 0 S | false => none) with
      | some S' => some (.normal, S')
      | none => none
    | true => match opsD P ev sz keep ops ops.size 0 S [] with
      | some S' => some (.normal, S')
      | none => none
  | .goto _, _ => none
  | .rangeFunc _ _ _ _, _ => none
  | .refuse _, _ => none
theorem codeE_sound {ev : CallE} (hev : Sound P ev) (hm : P.follows .mixedOrders = true) {lf : Nat} {keep : List Nat} : ∀ (c : Code) (S : St) (e : Exit) (S' : St) (Q : PostS), codeE P ev lf sz keep c S = some (e, S') → Q e S' → TriE P sz df m c S Q := by
  intro c
  induction c with
  | skip => intro S e S' Q h k; simp only [codeE] at h; cases h; exact TriE.skip k
  | label l => intro S e S' Q h k; simp only [codeE] at h; cases h; exact TriE.label k
  | ret => intro S e S' Q h k; simp only [codeE] at h; cases h; exact TriE.ret k
  | exit id => intro S e S' Q h k; simp only [codeE] at h; cases h; exact TriE.exit k
  | seq a b iha ihb =>
    intro S e S' Q h k
    simp only [codeE] at h
    refine TriE.seq ?_
    split at h
    · rename_i S1 h1
      exact iha S .normal S1 _ h1 (ihb _ _ _ _ h k)
    · rename_i hne
      refine iha S e S' _ h ?_
      cases e with
      | normal => exact absurd h (hne S')
      | _ => exact k
  | block id c ih =>
    intro S e S' Q h k
    simp only [codeE] at h
    refine TriE.block ?_
    split at h
    · rename_i id' S1 h1
      refine ih S _ S1 _ h1 ?_
      split at h
      · rename_i hb
        cases h
        simp only [blockS, if_pos (Nat.eq_of_beq_eq_true hb)]
        exact k
      · rename_i hb
        cases h
        simp only [blockS, if_neg (Nat.ne_of_beq_eq_false hb)]
        exact k
    · rename_i hne
      refine ih S e S' _ h ?_
      cases e with
      | exit id' => exact absurd h (hne id' S')
      | _ => exact k
  | scope c ih =>
    intro S e S' Q h k
    simp only [codeE] at h
    refine TriE.scope ?_
    split at h
    · cases h
    · rename_i hne
      refine ih S e S' _ h ?_
      cases e with
      | goto l => exact absurd h (hne l S')
      | _ => exact k
  | cond c a b iha ihb =>
    intro S e S' Q h k
    simp only [codeE] at h
    split at h
    · rename_i hc
      exact TriE.cond hc (fun _ => iha S e S' Q h k) (fun e => by cases e)
    · rename_i hc
      exact TriE.cond hc (fun e => by cases e) (fun _ => ihb S e S' Q h k)
    · cases h
  | loop c ih =>
    intro S e S' Q h k
    simp only [codeE] at h
    refine TriE.loop (fun S n => iterE (fun S => codeE P ev lf sz keep c S) n S = some (e, S')) (k := lf) h ?_
    intro S n hn
    cases n with
    | zero => simp [iterE] at hn
    | succ n =>
      simp only [iterE] at hn
      split at hn
      · rename_i S1 h1
        exact ih S .normal S1 _ h1 ⟨n, Nat.lt_succ_self n, hn⟩
      · rename_i hne
        refine ih S e S' _ hn ?_
        cases e with
        | normal => exact absurd hn (hne S')
        | _ => exact k
  | region id ops draw =>
    intro S e S' Q h k
    simp only [codeE] at h
    split at h
    · split at h
      · rename_i S1 h1
        split at h1
        · rename_i hnd
          cases h
          exact TriE.regJ (opsE_sound hev _ _ _ _ h1 k) hnd
        · cases h1
      · cases h
    · split at h
      · rename_i S1 h1
        cases h
        exact TriE.draw hm (opsD_sound hev _ _ _ _ _ h1 k)
      · cases h
  | goto l => intro S e S' Q h k; simp [codeE] at h
  | rangeFunc _ _ _ _ _ _ => intro S e S' Q h k; simp [codeE] at h
  | refuse _ => intro S e S' Q h k; simp [codeE] at h
def resTs : List ResultVar → Option (List Nat)
  | [] => some []
  | .tmp t :: r => match resTs r with
    | some l => some (t :: l)
    | none => none
  | _ :: _ => none
theorem resTs_eq : ∀ {l : List ResultVar} {ts : List Nat}, resTs l = some ts → l = ts.map ResultVar.tmp
  | [], ts, h => by cases h; rfl
  | .tmp t :: r, ts, h => by
    simp only [resTs] at h
    split at h
    · rename_i l hl
      cases h
      rw [resTs_eq hl]; rfl
    · cases h
  | .cell _ _ :: _, ts, h => by simp [resTs] at h
def enterOK (fn : Func) : Bool := !(fn.name == "runtime.NumGoroutine") && !fn.body.isNone
theorem enter_ok {f : Nat} {fn : Func} (hf : P.funcs[f]? = some fn) (h : enterOK fn = true) : ∀ args w, (callFunc f args).run P w = .ok (.enter f args) w := by
  intro args w
  simp only [enterOK, Bool.and_eq_true, Bool.not_eq_true'] at h
  have h2 : ¬ fn.body = none := by rw [← Option.isNone_iff_eq_none, h.2]; simp
  have h1 : ¬ fn.name = "runtime.NumGoroutine" := by simpa using h.1
  simp [callFunc, go_sem, hf, h1, h2]
def endE0 (m : Nat) (ts : List Nat) (S : St) : Option (V × Objs) :=
  let rs := reach S.ob 100000 (List.range m ++ refsL (ts.map (fget S.fr))) []
  match closedR S.ob (ts.map (fget S.fr)) rs && ((List.range m).all fun n => Nat.beq (rs.getD n 0) n) && Nat.ble m rs.length with
  | true => some (resT ts (ts.map fun t => (t, (fget S.fr t).ren (inv rs))), renO (inv rs) (rs.map (oget S.ob)))
  | false => none
theorem ObRen.of_back {ρ g : Nat → Nat} {ob : Objs} : ∀ (rs : List Nat), (∀ r ∈ rs, ((oget ob r).map (AObj.ren ρ)).map (AObj.ren g) = oget ob r) → ObRen g ob rs (renO ρ (rs.map (oget ob)))
  | [], _ => .nil
  | r :: rs, h => by
    have h1 := h r (by simp)
    have ih := ObRen.of_back (g := g) (ρ := ρ) (ob := ob) rs fun x hx => h x (by simp [hx])
    simp only [renO, List.map_cons] at ih ⊢
    cases e : oget ob r with
    | none => exact .skip ih
    | some o =>
      rw [e] at h1
      refine .cons ?_ ih
      rw [e]
      simpa using h1.symm
theorem endE0_sound {ts : List Nat} {S : St} {y : V} {ob' : Objs} (h : endE0 m ts S = some (y, ob')) : Vs m (fun S' => resT ts S'.fr = y ∧ S'.ob = ob') S := by
  unfold endE0 at h
  simp only at h
  generalize reach S.ob 100000 (List.range m ++ refsL (ts.map (fget S.fr))) [] = rs at h
  split at h
  · rename_i hc
    cases h
    simp only [Bool.and_eq_true] at hc
    obtain ⟨⟨hc, hlow⟩, hle⟩ := hc
    have hc' := hc
    simp only [closedR, Bool.and_eq_true, List.all_eq_true] at hc
    obtain ⟨⟨c1, c2⟩, c3⟩ := hc
    refine ⟨⟨ts.map fun t => (t, (fget S.fr t).ren (inv rs)), renO (inv rs) (rs.map (oget S.ob))⟩, ?_, rfl, rfl⟩
    refine sc rs (callOK_iff c3).1 ?_ ?_ (by simpa [renO] using hle) hlow
    · simp only [List.map_map, Function.comp_def]
      refine List.map_congr_left fun t ht => ?_
      refine V.ren_back _ fun n hn => inv_rho ?_
      have : n ∈ refsL (ts.map (fget S.fr)) := by
        clear c1 c2 c3 hlow hle hc'
        induction ts with
        | nil => cases ht
        | cons a r ih =>
          simp only [List.map_cons, refsL, List.mem_append]
          rcases List.mem_cons.1 ht with rfl | h
          · exact .inl hn
          · exact .inr (ih h)
      simpa using c1 n this
    · exact ObRen.of_back rs fun r hr => AObj.ren_back _ fun n hn => inv_rho (by simpa using c2 r hr n hn)
  · cases h
mutual
def frzV (n k : Nat) (es : List V) : V → V
  | .own n' off len => match Nat.beq n n' && Nat.ble (off + len) es.length with
    | true => .sl k ((es.drop off).take len)
    | false => .own n' off len
  | .agg cs => .agg (frzVs n k es cs)
  | .tup cs => .tup (frzVs n k es cs)
  | x => x
def frzVs (n k : Nat) (es : List V) : List V → List V
  | [] => []
  | x :: r => frzV n k es x :: frzVs n k es r
end
theorem frzVs_len {n k : Nat} {es : List V} : ∀ (l : List V), (frzVs n k es l).length = l.length
  | [] => rfl
  | _ :: r => by simp only [frzVs, List.length_cons, frzVs_len r]
mutual
theorem frzV_ok {n k : Nat} {es : List V} : ∀ (x : V), FrzV n k es x (frzV n k es x)
  | .own n' off len => by
    unfold frzV
    split
    · rename_i h
      simp only [Bool.and_eq_true] at h
      have e := Nat.eq_of_beq_eq_true h.1
      subst e
      exact .own rfl (Nat.le_of_ble_eq_true h.2)
    · exact .refl _
  | .agg cs => by unfold frzV; exact .agg (frzVs_len cs).symm fun j _ => frzVs_ok cs j
  | .tup cs => by unfold frzV; exact .tup (frzVs_len cs).symm fun j _ => frzVs_ok cs j
  | .p _ => .refl _
  | .emp => .refl _
  | .sl _ _ => .refl _
  | .ptr _ _ _ => .refl _
  | .fptr _ _ _ _ => .refl _
  | .fmap _ _ => .refl _
  | .itp _ => .refl _
  | .fn _ _ _ => .refl _
  | .iface _ _ => .refl _
  | .map _ => .refl _
  | .cond _ _ => .refl _
  | .undef => .refl _
theorem frzVs_ok {n k : Nat} {es : List V} : ∀ (l : List V) (j : Nat), FrzV n k es (nth l j) (nth (frzVs n k es l) j)
  | [], _ => .refl _
  | x :: _, 0 => frzV_ok x
  | _ :: r, j + 1 => frzVs_ok r j
end
def frzAt (ts : List Nat) (n : Nat) (S : St) : St := match oget S.ob n with
  | some (.row k es) => match es.all frzE with
    | true => ⟨ts.map fun t => (t, frzV n k es (fget S.fr t)), S.ob.set n none⟩
    | false => S
  | _ => S
theorem frzAt_sees (ts : List Nat) (n : Nat) (S : St) : Sees m S (frzAt ts n S) := by
  unfold frzAt
  split
  · rename_i k es hn
    split
    · rename_i hz
      refine Sees.freeze n hn (List.all_eq_true.1 hz) ?_ rfl
      clear hn hz
      induction ts with
      | nil => exact .nil
      | cons t r ih => exact .cons (frzV_ok _) ih
    · exact Sees.refl
  · exact Sees.refl
def frzAll (m : Nat) (ts : List Nat) : List Nat → St → St
  | [], S => S
  | n :: r, S => match Nat.ble m n with
    | true => frzAll m ts r (frzAt ts n S)
    | false => frzAll m ts r S
theorem frzAll_sees (ts : List Nat) : ∀ (l : List Nat) (S : St), Sees m S (frzAll m ts l S)
  | [], S => Sees.refl
  | n :: r, S => by
    unfold frzAll
    split
    · exact (frzAt_sees ts n S).trans (frzAll_sees ts r _)
    · exact frzAll_sees ts r S
def endE (b : Bool) (m : Nat) (ts : List Nat) (S : St) : Option (V × Objs) := match b with
  | false => endE0 m ts S
  | true => endE0 m ts (frzAll m ts (refsL (ts.map (fget S.fr))) S)
theorem endE_sound {b : Bool} {ts : List Nat} {S : St} {y : V} {ob' : Objs} (h : endE b m ts S = some (y, ob')) : Vs m (fun S' => resT ts S'.fr = y ∧ S'.ob = ob') S := by
  unfold endE at h
  split at h
  · exact endE0_sound h
  · obtain ⟨S2, h1, h2⟩ := endE0_sound h
    exact ⟨S2, (frzAll_sees ts _ S).trans h1, h2⟩
def funE (P : Program) (keep : Nat → List Nat) (lf : Nat) : Nat → CallE
  | 0, _, _, _, _ => none
  | n + 1, b, f, xs, ob => match P.funcs[f]? with
    | some fn => match fn.body, resTs fn.results.toList with
      | some c, some ts => match enterOK fn && Nat.ble xs.length fn.ntmps && ob.all Option.isSome with
        | true => match codeE P (funE P keep lf n) lf fn.ntmps (keep f) c ⟨frOf xs 0, ob⟩ with
          | some (.normal, S) => match endE b ob.length ts S with
            | some (y, ob') => match Nat.ble ob.length ob'.length with
              | true => some (y, ob')
              | false => none
            | none => none
          | some (.ret, S) => match endE b ob.length ts S with
            | some (y, ob') => match Nat.ble ob.length ob'.length with
              | true => some (y, ob')
              | false => none
            | none => none
          | _ => none
        | false => none
      | _, _ => none
    | none => none
theorem funE_sound (hm : P.follows .mixedOrders = true) {keep : Nat → List Nat} {lf : Nat} : ∀ n, Sound P (funE P keep lf n) := by
  intro n
  induction n with
  | zero => intro b f xs ob y ob' h; simp [funE] at h
  | succ n ih =>
    intro b f xs ob y ob' h
    simp only [funE] at h
    split at h
    · rename_i fn hf
      split at h
      · rename_i c ts hb hr
        split at h
        · rename_i hc
          simp only [Bool.and_eq_true, List.all_eq_true] at hc
          obtain ⟨⟨g1, g2⟩, g3⟩ := hc
          have main : ∀ (e : Exit) (S : St), (e = .normal ∨ e = .ret) → codeE P (funE P keep lf n) lf fn.ntmps (keep f) c ⟨frOf xs 0, ob⟩ = some (e, S) → endE b ob.length ts S = some (y, ob') → Nat.ble ob.length ob'.length = true → FnL P f xs ob y ob' := by
            intro e S he h1 h2 h3
            refine FnL.ofS (ts := ts) (enter_ok hf g1) hf hb ?_ (Nat.le_of_ble_eq_true g2) (Nat.le_of_ble_eq_true h3) (fun j hj => ?_) (codeE_sound ih hm c _ e S _ h1 ?_)
            · rw [← resTs_eq hr]
            · have : ob[j]? = some ob[j] := List.getElem?_eq_getElem hj
              have hs := g3 ob[j] (List.getElem_mem hj)
              simp only [oget, List.getD, this, Option.getD_some]
              intro e; rw [e] at hs; cases hs
            · have hv := endE_sound h2
              rcases he with rfl | rfl <;> exact hv
          split at h
          · rename_i S h1
            split at h
            · rename_i y' ob2 h2
              split at h
              · rename_i h3; cases h; exact main _ S (.inl rfl) h1 h2 h3
              · cases h
            · cases h
          · rename_i S h1
            split at h
            · rename_i y' ob2 h2
              split at h
              · rename_i h3; cases h; exact main _ S (.inr rfl) h1 h2 h3
              · cases h
            · cases h
          · cases h
        · cases h
      · cases h
    · cases h
end
section
open Go Go.ChangeShapes Go.WideShapes Go.ChangeAt Go.RowKit
def Fz (W : World) : Nat → Prop := fun b => b < W.heap.size
structure CellsOK (W : World) (cs : List Value) (es : List V) : Prop where
  len : cs.length = es.length
  one : ∀ c ∈ es, As.one c = true
  rep : ∀ j, j < cs.length → FRep W (Fz W) (cs.getD j Go.undef) (nth es j)
def Dec (P : Program) (t : TypeId) {α : Type} (e : α → V) (wf : α → Prop) : Prop :=
  ∀ {H : Type} (enc : TypeId × Value → H) (W : World) (base : Nat) (spare : Nat → Bool) (held : Bool) (fuel : Nat) (cs : List Value) (r : DataW H × List MemPlace), DataW.trod enc P W base spare held fuel t cs = some r →
    ∃ x : α, wf x ∧ CellsOK W cs (e x).flat
theorem CellsOK.single {W : World} {v : Value} {x : V} (h : FRep W (Fz W) v x) (h1 : As.one x = true) : CellsOK W [v] [x] := by
  refine ⟨rfl, by simpa using h1, fun j hj => ?_⟩
  have : j = 0 := by simp at hj; exact hj
  subst this; exact h
theorem dec_int {P : Program} {t : TypeId} {k : IntKind} (ht : P.underlying t = some (.int k)) : Dec P t (vk k) (fun n => k.min ≤ n ∧ n ≤ k.max) := by
  intro H enc W base spare held fuel cs r h
  obtain ⟨n, rfl, _, hw⟩ := DataW.trod_int ht h
  exact ⟨n, by simpa [Lit.wf] using hw, .single (.p rfl) rfl⟩
theorem dec_str {P : Program} {t : TypeId} (ht : P.underlying t = some .string) : Dec P t vt (fun s => s.length ≤ 9223372036854775807) := by
  intro H enc W base spare held fuel cs r h
  obtain ⟨s, rfl, _, hw⟩ := DataW.trod_string ht h
  obtain ⟨⟨l⟩⟩ := s
  exact ⟨l, by simpa [maxLen, ByteArray.size] using hw, .single (.p rfl) rfl⟩
theorem cells?_at {W : World} {base : Nat} {a : Addr} {n : Nat} {cs : List Value} (h : W.cells? base a n = some cs) : cs.length = n ∧ ∀ j, j < n → W.cell? (a.add j) = some (cs.getD j Go.undef) := by
  unfold World.cells? at h
  split at h
  · have hl := mapM_some_length h
    refine ⟨by simpa using hl, fun j hj => ?_⟩
    have := mapM_some_get h j j (by simp [hj])
    rw [this]
    have hj' : j < cs.length := by rw [hl]; simpa using hj
    simp [List.getD, hj']
  · cases h
theorem spot_none {W : World} {a : Addr} {v : Value} (h : W.cell? a = some v) : a.spot = none := by
  unfold World.cell? at h
  split at h
  · split at h
    · cases h
    · rename_i hs; simpa using hs
  · cases h
theorem block_lt {W : World} {a : Addr} {v : Value} (h : W.cell? a = some v) : a.block < W.heap.size := by
  unfold World.cell? at h
  split at h
  · rename_i e; exact (Array.getElem?_eq_some_iff.1 e).1
  · cases h
theorem dec_slice {P : Program} {t el : TypeId} {k : Nat} {α : Type} {e : α → V} {wf : α → Prop} (ht : P.underlying t = some (.slice el)) (hk : P.cellsOf el = k) (hk0 : 0 < k) (hf : ∀ x, (e x).flat.length = k) (hd : Dec P el e wf) :
    Dec P t (eS k e) (fun l => (∀ x ∈ l, wf x) ∧ l.length ≤ 9223372036854775807) := by
  intro H enc W base spare held fuel cs r h
  rcases DataW.trod_slice ht h with ⟨rfl, _⟩ | ⟨a, len, cap, elems, rest, n, rfl, rfl, rfl, h1, h2, h3, h4, h5, _⟩
  · exact ⟨[], ⟨by simp, by simp⟩, .single .sl0 rfl⟩
  · have each : ∀ i, i < len → ∃ cs, W.cells? base (a.add (i * k)) k = some cs ∧ ∃ x : α, wf x ∧ CellsOK W cs (e x).flat := by
      intro i hi
      have := h5 i hi
      rw [hk] at this
      have hs : elems[i]? = some elems[i] := List.getElem?_eq_getElem (by omega)
      rw [hs, Option.bind_eq_some_iff] at this
      obtain ⟨cs, c1, c2⟩ := this
      exact ⟨cs, c1, hd enc W base spare held n cs _ c2⟩
    by_cases h0 : len = 0
    · subst h0
      exact ⟨[], ⟨by simp, by simp⟩, .single .sl0 rfl⟩
    · have hcell0 : ∃ v, W.cell? a = some v := by
        obtain ⟨cs, c1, _⟩ := each 0 (by omega)
        have := (cells?_at c1).2 0 hk0
        simp [Addr.add] at this
        exact ⟨_, this⟩
      obtain ⟨v0, hv0⟩ := hcell0
      have hspot := spot_none hv0
      have hblock := block_lt hv0
      have hx : ∃ f : Nat → α, ∃ us : Nat → Nat → Value, ∀ i, i < len → wf (f i) ∧ (∀ c ∈ (e (f i)).flat, As.one c = true) ∧ ∀ j, j < k → W.cell? ⟨a.block, a.off + i * k + j, none⟩ = some (us i j) ∧ FRep W (Fz W) (us i j) (nth (e (f i)).flat j) := by
        classical
        have hne : ∀ i, i < len → ∃ p : α × List Value, wf p.1 ∧ (∀ c ∈ (e p.1).flat, As.one c = true) ∧ ∀ j, j < k → W.cell? ⟨a.block, a.off + i * k + j, none⟩ = some (p.2.getD j Go.undef) ∧ FRep W (Fz W) (p.2.getD j Go.undef) (nth (e p.1).flat j) := by
          intro i hi
          obtain ⟨cs, c1, x, c2, c3⟩ := each i hi
          refine ⟨(x, cs), c2, c3.one, fun j hj => ⟨?_, c3.rep j (by rw [(cells?_at c1).1]; exact hj)⟩⟩
          have := (cells?_at c1).2 j hj
          rw [← this]
          congr 1
          obtain ⟨ab, ao, asp⟩ := a
          simp only at hspot
          subst hspot
          unfold Addr.add
          by_cases e1 : i * k = 0 <;> by_cases e2 : j = 0 <;> simp [e1, e2]
        obtain ⟨d, _⟩ := hne 0 (by omega)
        let g : Nat → α × List Value := fun i => if hi : i < len then Classical.choose (hne i hi) else d
        refine ⟨fun i => (g i).1, fun i j => (g i).2.getD j Go.undef, fun i hi => ?_⟩
        simp only [g, dif_pos hi]
        exact Classical.choose_spec (hne i hi)
      obtain ⟨f, us, hfu⟩ := hx
      have hnth : ∀ i, i < len → nth ((List.range len).map fun i => e (f i)) i = e (f i) := by
        intro i hi
        simp [nth, List.getD, hi]
      refine ⟨(List.range len).map f, ⟨by
        intro x hx
        simp only [List.mem_map, List.mem_range] at hx
        obtain ⟨i, hi, rfl⟩ := hx
        exact (hfu i hi).1, by simp [maxLen] at h3 ⊢; omega⟩, .single ?_ rfl⟩
      obtain ⟨ab, ao, asp⟩ := a
      simp only at hspot
      subst hspot
      show FRep W (Fz W) _ (.sl k (((List.range len).map f).map e))
      rw [List.map_map]
      have hll : ((List.range len).map (e ∘ f)).length = len := by simp
      have := FRep.sl (w := W) (F := Fz W) (b := ab) (off := ao) (cap := cap) (k := k) (es := (List.range len).map (e ∘ f)) us (by rw [hll]; omega) (by rw [hll]; exact h2) hblock hk0
        (fun i hi => by
          rw [hll] at hi
          have := hnth i hi
          simp only [Function.comp_def]
          rw [this]
          exact ⟨hf _, (hfu i hi).2.1⟩)
        (fun i j hi hj => by rw [hll] at hi; exact ((hfu i hi).2.2 j hj).1)
        (fun i j hi hj => by
          rw [hll] at hi
          have := hnth i hi
          simp only [Function.comp_def]
          rw [this]
          exact ((hfu i hi).2.2 j hj).2)
      rw [hll] at this
      exact this
def CellsFrom (W : World) (cs : List Value) (off : Nat) (es : List V) : Prop := CellsOK W (cs.drop off) es
theorem cells_nil {W : World} {cs : List Value} {off : Nat} (h : cs.length = off) : CellsFrom W cs off [] := by
  have : cs.drop off = [] := by rw [← h]; simp
  unfold CellsFrom
  rw [this]
  exact ⟨rfl, by simp, fun j hj => by simp at hj⟩
theorem cells_cons {W : World} {cs : List Value} {off k off' : Nat} {es fs : List V} (h : CellsOK W ((cs.drop off).take k) es) (hk : es.length = k) (ho : off + k = off') (g : CellsFrom W cs off' fs) : CellsFrom W cs off (es ++ fs) := by
  subst ho; subst hk
  have e : cs.drop off = (cs.drop off).take es.length ++ cs.drop (off + es.length) := by
    rw [← List.drop_drop]; exact (List.take_append_drop _ _).symm
  unfold CellsFrom at g ⊢
  have hl := h.len
  rw [e]
  refine ⟨by simp only [List.length_append]; rw [hl, g.len], fun c hc => ?_, fun j hj => ?_⟩
  · rcases List.mem_append.1 hc with h1 | h1
    · exact h.one c h1
    · exact g.one c h1
  · by_cases hlt : j < es.length
    · have e1 : nth (es ++ fs) j = nth es j := by simp [nth, List.getD, List.getElem?_append_left hlt]
      have e2 : ((cs.drop off).take es.length ++ cs.drop (off + es.length)).getD j Go.undef = ((cs.drop off).take es.length).getD j Go.undef := by
        simp only [List.getD]; rw [List.getElem?_append_left (by omega)]
      rw [e1, e2]
      exact h.rep j (by omega)
    · have e1 : nth (es ++ fs) j = nth fs (j - es.length) := by simp only [nth, List.getD]; rw [List.getElem?_append_right (by omega)]
      have e2 : ((cs.drop off).take es.length ++ cs.drop (off + es.length)).getD j Go.undef = (cs.drop (off + es.length)).getD (j - es.length) Go.undef := by
        simp only [List.getD]; rw [List.getElem?_append_right (by omega), hl]
      rw [e1, e2]
      refine g.rep _ ?_
      simp only [List.length_append] at hj
      omega
theorem dec_f {P : Program} {t : TypeId} {α : Type} {e : α → V} {wf : α → Prop} (hd : Dec P t e wf) {H : Type} {enc : TypeId × Value → H} {W : World} {base : Nat} {spare : Nat → Bool} {held : Bool} {fuel i : Nat} {cs : List Value} {xs : List (DataW H × List MemPlace)}
    (h : DataW.trod enc P W base spare held fuel t cs = xs[i]?) (hi : i < xs.length) : ∃ x : α, wf x ∧ CellsOK W cs (e x).flat := by
  rw [List.getElem?_eq_getElem hi] at h
  exact hd enc W base spare held fuel cs _ h
theorem dec_fk {P : Program} {t : TypeId} {α : Type} {e : α → V} {wf : α → Prop} (hd : Dec P t e wf) (o k : Nat) (hk : P.cellsOf t = k) {H : Type} {enc : TypeId × Value → H} {W : World} {base : Nat} {spare : Nat → Bool} {held : Bool} {fuel i : Nat} {cs : List Value} {xs : List (DataW H × List MemPlace)}
    (h : DataW.trod enc P W base spare held fuel t ((cs.drop o).take (P.cellsOf t)) = xs[i]?) (hi : i < xs.length) : ∃ x : α, wf x ∧ CellsOK W ((cs.drop o).take k) (e x).flat := by
  subst hk
  exact dec_f hd h hi
theorem dec_arg {P : Program} {t : TypeId} {α : Type} {e : α → V} {wf : α → Prop} (hd : Dec P t e wf) {H : Type} {enc : TypeId × Value → H} {W : World} {base : Nat} {spare : Nat → Bool} {held : Bool} {v : Value} {d : DataW H} {ps : List MemPlace}
    (h : DataW.Trod enc P W base spare held t v d ps) (h1 : ∀ x : α, (e x).flat = [e x]) (hv : v.cells.toList = [v]) : ∃ x : α, wf x ∧ FRep W (Fz W) v (e x) := by
  obtain ⟨fuel, hf⟩ := h
  obtain ⟨x, hx, hc⟩ := hd enc W base spare held fuel _ _ hf
  refine ⟨x, hx, ?_⟩
  rw [hv] at hc
  have := hc.rep 0 (by simp)
  rw [h1] at this
  simpa using this
theorem rep_start (W : World) (hg : GRep W (Fz W)) : Rep W (Fz W) (fun _ => none) (oget []) (fun n => ([] : Objs).length ≤ n) := by
  refine ⟨fun b hb => hb, fun _ _ => rfl, fun n o h => by simp [oget] at h, fun n m o o' l l' b h => by simp [oget] at h, hg⟩
theorem FnL.law {P : Program} {f : FuncId} {xs : List V} (h : FnL P f xs [] (vb true) []) {W : World} {args : Array Value} (hl : args.size = xs.length) (hr : ∀ j, j < xs.length → FRep W (Fz W) (args.getD j Go.undef) (nth xs j)) (hg : GRep W (Fz W) := by exact ⟨fun _ => .inl rfl, fun x hx => by cases hx⟩) :
    Calls P f args W fun e w' => e = .returned (.bool true) ∧ Below W.heap.size W w' := by
  refine (h.run W (Fz W) (fun _ => none) args (rep_start W hg) ⟨hl, fun j hj => .fr (hr j hj)⟩).mono ?_
  rintro e w' ⟨v, F', β', rfl, _, hv, he⟩
  have := hv.p_inv.1
  subst this
  exact ⟨rfl, he.os, he.tape, he.output, he.size, fun k hk => he.block k hk (by rintro ⟨n, o, l, h1, _⟩; simp [oget] at h1)⟩
theorem trodAll_stays {H : Type} {enc : TypeId × Value → H} {P : Program} (hl : laidOutB P = true) {W W' : World} (hb : Below W.heap.size W W') {sp : Nat → Bool} : ∀ {ts : List TypeId} {vs : List Value} {ds : List (DataW H)} {ps : List MemPlace},
    (∀ t ∈ ts, P.readableRec t = true ∧ t < P.types.size) → DataW.TrodAll enc P W 0 (fun _ => true) true ts vs ds ps → (∀ p ∈ ps, p.block < W.heap.size) → (∀ p ∈ ps, sp p.block = true) → DataW.TrodAll enc P W' 0 sp true ts vs ds ps
  | [], vs, ds, ps, _, h, _, _ => by
    cases vs <;> cases ds <;> simp [DataW.TrodAll] at h ⊢ <;> exact h
  | t :: ts, vs, ds, ps, hr, h, hlt, hsp => by
    obtain ⟨v, vs', d, ds', p, q, rfl, rfl, rfl, h1, h2⟩ := trodAll_cons h
    refine trodAll_cons_mk ?_ (trodAll_stays hl hb (fun t ht => hr t (by simp [ht])) h2 (fun x hx => hlt x (by simp [hx])) (fun x hx => hsp x (by simp [hx])))
    exact WideElems.Trod_stays hl (hr t (by simp)).1 (hr t (by simp)).2 h1 (fun x hx => hb.same (hlt x (by simp [hx]))) (fun x hx => hsp x (by simp [hx]))
theorem post_law {H : Type} {enc : TypeId × Value → H} {P : Program} {f : Func} {s : ChangeSpec} {apart fresh handsOn again : Bool} {W W' : World} {args : Array Value} {v : Value} {ds gs : List (DataW H)} {before pa pv : List MemPlace}
    (hW : DataW.Whole enc P f.params.toList s.vars apart W args.toList ds gs before)
    (hres : ∀ (b : Nat) (sp : Nat → Bool) (hd : Bool), DataW.TrodAll enc P W' b sp hd f.resultTypes.toList (v.resultList f.resultTypes.size) (s.fn H (ds ++ gs)).results [])
    (hargs : ∀ sp : Nat → Bool, (∀ p ∈ before, sp p.block = true) → DataW.TrodAll enc P W' 0 sp true f.params.toList args.toList (s.fn H (ds ++ gs)).args pa)
    (hvars : ∀ sp : Nat → Bool, (∀ p ∈ before, sp p.block = true) → DataW.TrodVars enc P W' sp s.vars (s.fn H (ds ++ gs)).vars pv)
    (hps : before = pa ++ pv) (hb : Below W.heap.size W W')
    (hok : ∀ (j : Nat) (t : TypeId) (r : Value), f.resultTypes[j]? = some t → (v.resultList f.resultTypes.size)[j]? = some r → Value.okWide P W' .any 0 t r) :
    s.post enc P f apart fresh handsOn again W args v W' := by
  have hold : ∀ p ∈ before, (fun b => decide (b < W.heap.size)) p.block = true := fun p hp => by simpa using hW.lt p hp
  refine ⟨ds, gs, before, [], pa, pv, hW, hres _ _ _, hargs _ hold, hvars _ hold, World.keptBut_mono (fun p hp => ⟨hp, ?_⟩) (hb.frame (· ∈ before)), fun _ => ?_⟩
  · rw [hps, List.mem_append] at hp
    exact Or.inr hp
  · have hlt := hW.lt
    obtain ⟨_, _, _, _, _, hz, hn⟩ := hW
    refine ⟨hok, _, _, ([] ++ pa) ++ pv, ⟨[] ++ pa, pv, trodAll_append (hargs _ (fun _ _ => rfl)) (hres _ _ _), hvars _ (fun _ _ => rfl), rfl, ?_, ?_⟩, ?_⟩
    · intro b off hp
      have hp' : (MemPlace.cell b off) ∈ before := by rw [hps]; simpa using hp
      have := hz b off hp'
      rw [hb.frozen (p := ⟨b, off, none⟩) (hlt _ hp')]
      exact this
    · intro ha
      have := hn ha
      rw [hps] at this
      simpa using this
    · intro p hp _
      rw [hps]
      simpa using hp
theorem dec_str_arg {P : Program} {t : TypeId} (ht : P.underlying t = some .string) {r : Reach} {b0 : Nat} {H : Type} {enc : TypeId × Value → H} {W : World} {base : Nat} {spare : Nat → Bool} {held : Bool} {v : Value} {d : DataW H} {ps : List MemPlace}
    (hv : Value.okWide P W r b0 t v) (h : DataW.Trod enc P W base spare held t v d ps) : ∃ x : Str, x.length ≤ 9223372036854775807 ∧ FRep W (Fz W) v (vt x) :=
  dec_arg (dec_str ht) h (fun _ => rfl) (by obtain ⟨n, rfl⟩ := okWide_string ht hv; rfl)
theorem dec_slice_arg {P : Program} {t el : TypeId} {k : Nat} {α : Type} {e : α → V} {wf : α → Prop} (ht : P.underlying t = some (.slice el)) (hk : P.cellsOf el = k) (hk0 : 0 < k) (hf : ∀ x, (e x).flat.length = k) (hd : Dec P el e wf)
    {r : Reach} {b0 : Nat} {H : Type} {enc : TypeId × Value → H} {W : World} {base : Nat} {spare : Nat → Bool} {held : Bool} {v : Value} {d : DataW H} {ps : List MemPlace}
    (hv : Value.okWide P W r b0 t v) (h : DataW.Trod enc P W base spare held t v d ps) : ∃ x : List α, ((∀ y ∈ x, wf y) ∧ x.length ≤ 9223372036854775807) ∧ FRep W (Fz W) v (eS k e x) :=
  dec_arg (dec_slice ht hk hk0 hf hd) h (fun _ => rfl) (by obtain ⟨a, l, c, rfl⟩ := okWide_slice ht hv; rfl)
end
section
open Go
variable {P : Program} {sz : Nat} {df : Rd} {m : Nat}
theorem leftOf_toList (es : Array MapEntry) (seen : Array Nat) : (leftOf es seen).toList = leftL es seen := by
  unfold leftOf leftL; simp
theorem filter_erase : ∀ (l : List MapEntry) (j : Nat) (e : MapEntry), (l.map (·.born)).Nodup → l[j]? = some e → (l.filter fun x => !(x.born == e.born)) = l.eraseIdx j
  | [], j, e, _, h => by simp at h
  | x :: l, 0, e, hn, h => by
    simp only [List.getElem?_cons_zero, Option.some.injEq] at h
    subst h
    simp only [List.map_cons, List.nodup_cons] at hn
    rw [List.filter_cons, if_neg (by simp), List.eraseIdx_cons_zero, List.filter_eq_self]
    intro y hy
    have : y.born ≠ x.born := fun c => hn.1 (c ▸ List.mem_map_of_mem hy)
    simp [this]
  | x :: l, j + 1, e, hn, h => by
    simp only [List.getElem?_cons_succ] at h
    simp only [List.map_cons, List.nodup_cons] at hn
    have he : e ∈ l := List.mem_of_getElem? h
    have : x.born ≠ e.born := fun c => hn.1 (c ▸ List.mem_map_of_mem he)
    rw [List.filter_cons, if_pos (by simp [this]), List.eraseIdx_cons_succ, filter_erase l j e hn.2 h]
theorem leftL_push {es : Array MapEntry} {clock : Nat} (hb : Born es clock) {seen : Array Nat} {j : Nat} {e : MapEntry} (h : (leftL es seen)[j]? = some e) : leftL es (seen.push e.born) = (leftL es seen).eraseIdx j := by
  have hn : ((leftL es seen).map (·.born)).Nodup := by
    have : List.Sublist ((leftL es seen).map (·.born)) (es.toList.map (·.born)) := List.Sublist.map _ List.filter_sublist
    exact this.nodup hb.2
  rw [← filter_erase _ j e hn h]
  unfold leftL
  rw [List.filter_filter]
  congr 1
  funext x
  rw [contains_push]
  cases seen.contains x.born <;> cases (x.born == e.born) <;> rfl
theorem FEnts.erase {w : World} {F : Nat → Prop} {es : List MapEntry} {ents : List (V × V)} (h : FEnts w F es ents) (j : Nat) : FEnts w F (es.eraseIdx j) (ents.eraseIdx j) := by
  refine ⟨by rw [List.length_eraseIdx, List.length_eraseIdx, h.1], fun i hi => ?_⟩
  have hlen : i < ents.length := by
    rw [List.length_eraseIdx] at hi; split at hi <;> omega
  simp only [List.getElem?_eraseIdx]
  by_cases c : i < j
  · simp only [c, if_true]; exact h.2 i hlen
  · simp only [c, if_false]
    have : i + 1 < ents.length := by
      rw [List.length_eraseIdx] at hi
      split at hi <;> omega
    exact h.2 (i + 1) this
theorem Rep.alloc_it {w : World} {F : Nat → Prop} {β : Beta} {σ : Sig} {Av : Nat → Prop} (hr : Rep w F β σ Av) {nn : Nat} (hnn : Av nn) {b : Nat} {es : Array MapEntry} {clock : Nat} {ents : List (V × V)} (hF : F b) (hb : w.heap[b]? = some (.map es clock)) (hbn : Born es clock)
    (he : FEnts w F es.toList ents) : Rep (w.alloc (.mapIter (some b) clock #[] clock)) F (upd β nn (some (.mp w.heap.size))) (upd σ nn (some (.it none ents))) (fun n => Av n ∧ n ≠ nn) ∧
    Evolve w F β σ (w.alloc (.mapIter (some b) clock #[] clock)) F (upd β nn (some (.mp w.heap.size))) (upd σ nn (some (.it none ents))) := by
  have hold : ∀ c, c < w.heap.size → (w.alloc (.mapIter (some b) clock #[] clock)).heap[c]? = w.heap[c]? := fun c hc => heap_alloc_old w _ hc
  refine hr.change nn (.it none ents) (.mp w.heap.size) rfl rfl rfl (by simp) ?_ ?_ ?_ (by simp) ?_ ?_ ?_ ?_ (fun b hb _ => hold b hb)
  · intro n l h
    rw [upd_other]; exact h
    rintro rfl; rw [hr.dom n hnn] at h; cases h
  · intro n hn; rw [upd_other _ _ hn.2]; exact hr.dom n hn.1
  · intro m o hm
    by_cases h : m = nn
    · subst h; simp at hm; exact .inl ⟨rfl, hm.symm⟩
    · rw [upd_other _ _ h] at hm; exact .inr ⟨h, hm⟩
  · refine ⟨b, es, clock, clock, #[], clock, heap_alloc_new w _, hF, (hold b (hr.falloc b hF)).trans hb, ⟨hbn, hbn.1, Nat.le_refl _, Nat.le_refl _⟩, ?_, fun x hx => by cases hx⟩
    have e1 : leftL es #[] = es.toList := by unfold leftL; rw [List.filter_eq_self]; intro x _; simp
    rw [e1]
    refine ⟨he.1, fun i hi => ?_⟩
    obtain ⟨e, x, g1, g2, g3, g4⟩ := he.2 i hi
    exact ⟨e, x, g1, g2, g3.mono (fun _ h => h) (fun c hc => hold c (hr.falloc c hc)), g4.mono (fun _ h => h) (fun c hc => hold c (hr.falloc c hc))⟩
  · intro c hc
    simp only [Loc.block, Option.some.injEq] at hc
    subst hc
    exact ⟨fun h => absurd (hr.falloc _ h) (by omega), by simp⟩
  · intro m o l c hm hs hl hc e
    simp only [Loc.block, Option.some.injEq] at e
    rw [upd_other _ _ hm] at hs
    obtain ⟨l', h1, _, h3⟩ := hr.obj m o hs
    rw [hl] at h1; cases h1
    have := (h3 c hc).2
    omega
  · intro c hc hlt
    simp only [Loc.block, Option.some.injEq] at hc
    omega
theorem Rep.write_it {w w1 : World} {F : Nat → Prop} {β : Beta} {σ : Sig} {Av : Nat → Prop} (hr : Rep w F β σ Av) (hw1 : w1 = w ∨ w1 = w.drew) {n r : Nat} {o0 : AObj} {cur : Option (V × V)} {left : List (V × V)} (hn : σ n = some o0) (hb : β n = some (.mp r)) (o : Obj)
    (ho : ORep (ChangeMaps.setBlock w1 r o) F β (.mp r) (.it cur left)) :
    Rep (ChangeMaps.setBlock w1 r o) F β (upd σ n (some (.it cur left))) Av ∧ Evolve w F β σ (ChangeMaps.setBlock w1 r o) F β (upd σ n (some (.it cur left))) := by
  obtain ⟨l, hl, _, hblk⟩ := hr.obj n _ hn
  rw [hb] at hl; cases hl
  have hFb := hblk r rfl
  have h1 : w1.heap = w.heap ∧ w1.os = w.os ∧ w1.tape = w.tape ∧ w1.output = w.output := by rcases hw1 with rfl | rfl <;> exact ⟨rfl, rfl, rfl, rfl⟩
  have hheap : ∀ c, c ≠ r → (ChangeMaps.setBlock w1 r o).heap[c]? = w.heap[c]? := fun c hc => by
    show (w1.heap.setIfInBounds r o)[c]? = _
    rw [h1.1]
    exact Array.getElem?_setIfInBounds_ne (Ne.symm hc)
  have hsz : (ChangeMaps.setBlock w1 r o).heap.size = w.heap.size := by
    show (w1.heap.setIfInBounds r o).size = _
    rw [h1.1]; simp
  refine hr.change n (.it cur left) (.mp r) h1.2.1 h1.2.2.1 h1.2.2.2 (by omega) (fun _ _ h => h) hr.dom ?_ hb ho ?_ ?_ ?_ ?_
  · intro m o hm
    by_cases h : m = n
    · subst h; simp at hm; exact .inl ⟨rfl, hm.symm⟩
    · rw [upd_other _ _ h] at hm; exact .inr ⟨h, hm⟩
  · intro c hc
    simp only [Loc.block, Option.some.injEq] at hc
    subst hc
    exact ⟨hFb.1, by rw [hsz]; exact hFb.2⟩
  · intro m o l c hm hs hl hb' e
    simp only [Loc.block, Option.some.injEq] at e
    subst e
    rw [upd_other _ _ hm] at hs
    exact hm (hr.sep m n o _ l _ _ hs hn hl hb hb' rfl)
  · intro c hc _; exact ⟨n, _, _, hn, hb, hc⟩
  · intro c _ hc; exact hheap c (fun e => hc (by simp [Loc.block, e]))
theorem oget_push (ob : Objs) (o : AObj) : oget (ob ++ [some o]) = upd (oget ob) ob.length (some o) := by
  funext m
  rw [oget_append]
  rfl
theorem oget_set_upd {ob : Objs} {n : Nat} (o : AObj) (h : n < ob.length) : oget (ob.set n (some o)) = upd (oget ob) n (some o) := by
  funext m
  rw [oget_set _ _ _ _ h]
  rfl
theorem FEnts.of_zip {w : World} {F : Nat → Prop} {v : Value} {ks vs : List V} (h : FRep w F v (.fmap ks vs)) : ∃ b es clock, v = .map (some b) ∧ F b ∧ w.heap[b]? = some (.map es clock) ∧ Born es clock ∧ FEnts w F es.toList (ks.zip vs) := by
  cases h with
  | fmap us ws hF hb hl hl2 hc hk hvv =>
    refine ⟨_, _, _, rfl, hF, hb, hl.2, by simp [hl.1, hl2], fun i hi => ?_⟩
    simp only [List.length_zip, hl2, Nat.min_self] at hi
    obtain ⟨e, e1, e2, e3⟩ := hc i hi
    refine ⟨e, (nth ks i, nth vs i), by simpa using e1, ?_, by rw [e2]; exact hk i hi, by rw [e3]; exact hvv i hi⟩
    rw [List.getElem?_zip_eq_some]
    constructor
    · simp [nth, List.getD, hi]
    · have : i < vs.length := by omega
      simp [nth, List.getD, this]
theorem VRep.itp_inv {w : World} {F : Nat → Prop} {β : Beta} {v : Value} {n : Nat} (h : VRep w F β v (.itp n)) : ∃ b, v = .pointer (some ⟨b, 0, none⟩) ∧ β n = some (.mp b) := by
  cases h with
  | fr h => cases h
  | itp h => exact ⟨_, rfl, h⟩
def rawRng (P : Program) (sz : Nat) (ops : Array Oper) (i : Nat) : Option (Option Nat × X) := match ops[i]? with
  | none => none
  | some o => match o.op, o.guard, dstOK sz o.dst with
    | .range t x, none, true => match P.underlying t with
      | some (.map _ _) => some (o.dst, toX x)
      | _ => none
    | _, _, _ => none
def rawNxt (sz : Nat) (ops : Array Oper) (i : Nat) : Option (Option Nat × X) := match ops[i]? with
  | none => none
  | some o => match o.op, o.guard, dstOK sz o.dst with
    | .next x false, none, true => some (o.dst, toX x)
    | _, _, _ => none
def rawEnt (sz : Nat) (ops : Array Oper) (i : Nat) : Option (Option Nat × X) := match ops[i]? with
  | none => none
  | some o => match o.op, o.guard, dstOK sz o.dst with
    | .entry x, none, true => some (o.dst, toX x)
    | _, _, _ => none
theorem RegJ.step {ops : Array Oper} {i : Nat} {o : Oper} {S : St} {K : St → Prop} {ob' : Objs} {v : V} (ho : ops[i]? = some o) (hgd : o.guard = none) (hd : ∀ d, o.dst = some d → d < sz) (hl : S.ob.length ≤ ob'.length)
    (h : RegJ P sz df m ops (i + 1) ⟨fputc S.fr o.dst v, ob'⟩ K) {b : Base} (hb : ∀ n, m ≤ n → b.β n = none) {w w' : World} {F F' : Nat → Prop} {β β' : Beta} {a : Act} {R : Exit → Act → World → Prop} (hc : Cur m sz df b S w F β a)
    (hR : ∀ S' F' β' a' w', K S' → Cur m sz df b S' w' F' β' a' → R .normal a' w') {u : Value} (hrun : (execOp a.eval o).run P w = .ok (.value u) w') (hr' : Rep w' F' β' (oget ob') (fun n => ob'.length ≤ n)) (hv : VRep w' F' β' u v)
    (he' : Evolve w F β (oget S.ob) w' F' β' (oget ob')) : wpOps P ops R (List.range' i (ops.size - i)) a w := by
  have hi : i < ops.size := (Array.getElem?_eq_some_iff.1 ho).1
  have e : ops.size - i = (ops.size - (i + 1)) + 1 := by omega
  rw [e, List.range'_succ, wpOps_cons]
  have hw := wanted_of (ops := ops) (w := w) (F := F) (β := β) (a := a) (fr := fget S.fr) (o := o) (fun t _ => hc.fr.2.2 t) (show guardV ops (fget S.fr) o.guard = some true by rw [hgd]; rfl)
  unfold wpOp
  simp only [ho, hw, if_true]
  left
  unfold Oper.wp
  rw [hrun]
  refine h b hb w' F' β' _ R ⟨Nat.le_trans hc.le hl, ⟨?_, ?_, fun t => ?_⟩, hr', hc.ev.trans he'⟩ hR
  · cases hod : o.dst <;> simp [Act.put, hc.fr.1]
  · exact (put_defers a o.dst _).symm ▸ hc.fr.2.1.mono he'.frozen (he'.fheap hc.rep) he'.size
  · show VRep w' F' β' _ (fget (fputc S.fr o.dst v) t)
    rw [fget_fputc]
    by_cases hdt : o.dst = some t
    · rw [putF_eq hdt]
      have hlt : t < a.tmps.size := by rw [hc.fr.1]; exact hd t hdt
      have : (a.put o.dst u).tmps.getD t Go.undef = u := by simp [Act.put, hdt, Array.getD_eq_getD_getElem?, hlt]
      rw [this]; exact hv
    · rw [putF_ne hdt]
      have : (a.put o.dst u).tmps.getD t Go.undef = a.tmps.getD t Go.undef := by
        cases hod : o.dst with
        | none => rfl
        | some q =>
          have : q ≠ t := by rintro rfl; exact hdt hod
          simp [Act.put, Array.getD_eq_getD_getElem?, Array.getElem?_setIfInBounds_ne this]
      rw [this]
      exact he'.vrep hc.rep (hc.fr.2.2 t)
section
variable {ops : Array Oper} {i : Nat} {S : St} {K : St → Prop} {d : Option Nat} {x : X} {n : Nat} {ks vs : List V} {cur : Option (V × V)} {left : List (V × V)}
theorem RegJ.rng (hr : rawRng P sz ops i = some (d, x)) (hx : xcond S.fr x = true) (hv : tau (fget S.fr) x = .fmap ks vs)
    (k : RegJ P sz df m ops (i + 1) ⟨fputc S.fr d (.itp S.ob.length), S.ob ++ [some (.it none (ks.zip vs))]⟩ K) : RegJ P sz df m ops i S K := by
  unfold rawRng at hr
  split at hr
  · cases hr
  · rename_i o ho
    split at hr
    · rename_i t x' hop hgd hd
      split at hr
      · rename_i kt el hu
        simp only [Option.some.injEq, Prod.mk.injEq] at hr
        obtain ⟨rfl, rfl⟩ := hr
        refine RegJ.oprun0 ho (dstOK_lt hd) ?_ (by simp) k
        intro w F β a Q Kk o' ho' hfr hrep hK
        rw [ho] at ho'; cases ho'
        have hw := wanted_of (fr := fget S.fr) hfr (show guardV ops (fget S.fr) o.guard = some true by rw [hgd]; rfl)
        have hxv : VRep w F β (a.eval x') (.fmap ks vs) := by
          have := vrep_operand (w := w) (F := F) (β := β) (a := a) (fr := fget S.fr) (x := x') hrep.gl (fun t e => hfr t (by
            subst e
            exact List.mem_append_left _ (List.mem_filterMap.2 ⟨.tmp t, by simp [hop, Op.operands], rfl⟩))) (by rw [← xcond_opnd]; exact hx)
          rw [hv] at this; exact this
        obtain ⟨b, es, clock, ev, hF, hb, hbn, he⟩ := FEnts.of_zip hxv.fmap_inv
        obtain ⟨r1, r2⟩ := hrep.alloc_it (nn := S.ob.length) (Nat.le_refl _) hF hb hbn he
        unfold wpOp
        simp only [ho, hw, if_true]
        left
        have hrun : (execOp a.eval o).run P w = .ok (.value (.pointer (some ⟨w.heap.size, 0, none⟩))) (w.alloc (.mapIter (some b) clock #[] clock)) := by
          simp [execOp, hop, ev, run_range_map w t kt el b es clock hu hb, Result.andThen]
        unfold Oper.wp
        rw [hrun]
        rw [← oget_push] at r1 r2
        exact hK _ _ F _ (r1.av_mono (by intro q hq; simp at hq; omega)) (.itp (upd_same _ _ _)) r2
      · cases hr
    · cases hr
theorem RegJ.ent {p q : V} (hr : rawEnt sz ops i = some (d, x)) (hx : xcond S.fr x = true) (hv : tau (fget S.fr) x = .itp n) (hn : oget S.ob n = some (.it (some (p, q)) left))
    (k : RegJ P sz df m ops (i + 1) ⟨fputc S.fr d (.tup [p, q]), S.ob⟩ K) : RegJ P sz df m ops i S K := by
  unfold rawEnt at hr
  split at hr
  · cases hr
  · rename_i o ho
    split at hr
    · rename_i x' hop hgd hd
      simp only [Option.some.injEq, Prod.mk.injEq] at hr
      obtain ⟨rfl, rfl⟩ := hr
      refine RegJ.oprun0 ho (dstOK_lt hd) ?_ (Nat.le_refl _) k
      intro w F β a Q Kk o' ho' hfr hrep hK
      rw [ho] at ho'; cases ho'
      have hw := wanted_of (fr := fget S.fr) hfr (show guardV ops (fget S.fr) o.guard = some true by rw [hgd]; rfl)
      have hxv : VRep w F β (a.eval x') (.itp n) := by
        have := vrep_operand (w := w) (F := F) (β := β) (a := a) (fr := fget S.fr) (x := x') hrep.gl (fun t e => hfr t (by
          subst e
          exact List.mem_append_left _ (List.mem_filterMap.2 ⟨.tmp t, by simp [hop, Op.operands], rfl⟩))) (by rw [← xcond_opnd]; exact hx)
        rw [hv] at this; exact this
      obtain ⟨r, ev, hb⟩ := hxv.itp_inv
      obtain ⟨l, hl, hobj, _⟩ := hrep.obj n _ hn
      rw [hb] at hl; cases hl
      obtain ⟨b0, es, clock, since, seen, c0, h1, h2, h3, h4, h5, h6⟩ := hobj
      obtain ⟨e, seen', rfl, rfl, g3, g4, g5⟩ := h6 _ rfl
      unfold wpOp
      simp only [ho, hw, if_true]
      left
      have hrun : (execOp a.eval o).run P w = .ok (.value (.tuple #[e.key, e.val])) w := by
        simp [execOp, hop, ev, run_entry_at w r b0 since seen' es _ e h1 h3 g3 h4.1.2, Result.andThen]
      unfold Oper.wp
      rw [hrun]
      refine hK _ w F β hrep (.tup (by simp) fun j hj => ?_) (Evolve.refl _ _ _ _)
      match j, hj with
      | 0, _ => exact .fr g4
      | 1, _ => exact .fr g5
    · cases hr
theorem RegJ.nxt (hr : rawNxt sz ops i = some (d, x)) (hx : xcond S.fr x = true) (hv : tau (fget S.fr) x = .itp n) (hn : oget S.ob n = some (.it cur left))
    (k0 : left = [] → RegJ P sz df m ops (i + 1) ⟨fputc S.fr d (.tup [vb false]), S.ob⟩ K)
    (k1 : ∀ j e, left[j]? = some e → RegJ P sz df m ops (i + 1) ⟨fputc S.fr d (.tup [vb true, e.1, e.2]), S.ob.set n (some (.it (some e) (left.eraseIdx j)))⟩ K) : RegJ P sz df m ops i S K := by
  intro bs hbs w F β a R hc hR
  unfold rawNxt at hr
  split at hr
  · cases hr
  · rename_i o ho
    split at hr
    · rename_i x' hop hgd hd
      simp only [Option.some.injEq, Prod.mk.injEq] at hr
      obtain ⟨rfl, rfl⟩ := hr
      have hlt : n < S.ob.length := oget_some (by simp [hn])
      have hfr : ∀ t, VRep w F β (a.tmps.getD t Go.undef) (fget S.fr t) := hc.fr.2.2
      have hxv : VRep w F β (a.eval x') (.itp n) := by
        have := vrep_operand (w := w) (F := F) (β := β) (a := a) (fr := fget S.fr) (x := x') hc.rep.gl (fun t e => hfr t) (by rw [← xcond_opnd]; exact hx)
        rw [hv] at this; exact this
      obtain ⟨r, ev, hb⟩ := hxv.itp_inv
      obtain ⟨l, hl, hobj, _⟩ := hc.rep.obj n _ hn
      rw [hb] at hl; cases hl
      obtain ⟨b0, es, clock, since, seen, c0, h1, h2, h3, h4, h5, h6⟩ := hobj
      rcases run_next_at (P := P) w o.type r b0 since c0 seen es clock h1 h3 h4.2.1 h4.2.2.1 with ⟨g1, g2⟩ | ⟨e, g1, w1, g2, g3⟩
      · have hl0 : left = [] := by
          have : (leftL es seen).length = 0 := by rw [← leftOf_toList]; simpa using g1
          rw [h5.1] at this
          exact List.eq_nil_of_length_eq_zero this
        refine RegJ.step ho hgd (dstOK_lt hd) (Nat.le_refl _) (k0 hl0) hbs hc hR (u := .tuple #[.bool false]) (w' := w) (F' := F) (β' := β) ?_ hc.rep (.tup (by simp) fun j hj => ?_) (Evolve.refl _ _ _ _)
        · simp [execOp, hop, ev, g2, Result.andThen]
        · match j, hj with
          | 0, _ => exact .fr (.p rfl)
      · have hm := mem_left g1
        rw [leftOf_toList] at g1
        obtain ⟨j, hj⟩ := List.getElem?_of_mem g1
        have hjl : j < left.length := by rw [← h5.1]; exact (List.getElem?_eq_some_iff.1 hj).1
        obtain ⟨e', p, q1, q2, q3, q4⟩ := h5.2 j hjl
        rw [hj] at q1; cases q1
        have hne : r ≠ b0 := by rintro rfl; rw [h1] at h3; cases h3
        have hw1 : w1.heap = w.heap := by rcases g2 with rfl | rfl <;> rfl
        have hrr : (ChangeMaps.setBlock w1 r (.mapIter (some b0) since (seen.push e.born) clock)).heap[r]? = some (.mapIter (some b0) since (seen.push e.born) clock) := by
          show (w1.heap.setIfInBounds r _)[r]? = _
          have : r < w1.heap.size := by rw [hw1]; exact (Array.getElem?_eq_some_iff.1 h1).1
          simp [this]
        have hoth : ∀ c, c ≠ r → (ChangeMaps.setBlock w1 r (.mapIter (some b0) since (seen.push e.born) clock)).heap[c]? = w.heap[c]? := fun c hcr => by
          show (w1.heap.setIfInBounds r _)[c]? = _
          rw [Array.getElem?_setIfInBounds_ne (Ne.symm hcr), hw1]
        have hnF : ¬ F r := by
          obtain ⟨l', e1, _, e2⟩ := hc.rep.obj n _ hn
          rw [hb] at e1; cases e1
          exact (e2 r rfl).1
        have hFh : ∀ c, F c → (ChangeMaps.setBlock w1 r (.mapIter (some b0) since (seen.push e.born) clock)).heap[c]? = w.heap[c]? := fun c hcF => hoth c (by rintro rfl; exact hnF hcF)
        have ho' : ORep (ChangeMaps.setBlock w1 r (.mapIter (some b0) since (seen.push e.born) clock)) F β (.mp r) (.it (some p) (left.eraseIdx j)) := by
          refine ⟨b0, es, clock, since, seen.push e.born, clock, hrr, h2, (hFh _ h2).trans h3, ⟨h4.1, h4.2.1, h4.2.2.2, h4.2.2.2⟩, ?_, fun x hx => ?_⟩
          · rw [leftL_push h4.1 hj]
            have := h5.erase j
            refine ⟨this.1, fun i hi => ?_⟩
            obtain ⟨e2, x2, z1, z2, z3, z4⟩ := this.2 i hi
            exact ⟨e2, x2, z1, z2, z3.mono (fun _ h => h) hFh, z4.mono (fun _ h => h) hFh⟩
          · cases hx
            exact ⟨e, seen, rfl, rfl, hm.1, q3.mono (fun _ h => h) hFh, q4.mono (fun _ h => h) hFh⟩
        obtain ⟨r1, r2⟩ := hc.rep.write_it g2 hn hb _ ho'
        rw [← oget_set_upd _ hlt] at r1 r2
        refine RegJ.step ho hgd (dstOK_lt hd) (by simp) (k1 j p q2) hbs hc hR (u := .tuple #[.bool true, e.key, e.val]) (F' := F) (β' := β) ?_ (by simpa using r1) (.tup (by simp) fun j' hj' => ?_) r2
        · simp [execOp, hop, ev, g3, Result.andThen]
        · match j', hj' with
          | 0, _ => exact .fr (.p rfl)
          | 1, _ => exact .fr (q3.mono (fun _ h => h) hFh)
          | 2, _ => exact .fr (q4.mono (fun _ h => h) hFh)
    · cases hr
end
inductive FrzM (n : Nat) (ks vs : List V) : V → V → Prop
  | refl (x : V) : FrzM n ks vs x x
  | undef (x : V) : FrzM n ks vs x .undef
  | map : FrzM n ks vs (.map n) (.fmap ks vs)
inductive FrFrzM (n : Nat) (ks vs : List V) (fr : Fr) : Fr → Prop
  | nil : FrFrzM n ks vs fr []
  | cons {t : Nat} {v : V} {r : Fr} (h : FrzM n ks vs (fget fr t) v) (kk : FrFrzM n ks vs fr r) : FrFrzM n ks vs fr ((t, v) :: r)
theorem FrFrzM.get {n : Nat} {ks vs : List V} {fr fr' : Fr} (h : FrFrzM n ks vs fr fr') : ∀ t, FrzM n ks vs (fget fr t) (fget fr' t) := by
  induction h with
  | nil => exact fun t => .undef _
  | @cons u v r h _ ih =>
    intro t
    rw [fget_cons]
    by_cases e : u = t
    · subst e; rw [if_pos rfl]; exact h
    · rw [if_neg e]; exact ih t
section
variable {ops : Array Oper} {i : Nat} {S : St} {K : St → Prop} {d : Option Nat} {n t : Nat} {α β : Type} {ek : α → V} {ev : β → V} {c : Option (α × β)} {l : List (α × β)}
end
end
section
open Go
instance (n : Nat) : OfNat X n := ⟨.t n⟩
abbrev ki (n : Int) : X := .c (.p (.int .i64 n))
inductive Sel : Fr → Fr → Prop
  | a {l : Fr} : Sel l l
  | n {l : Fr} : Sel l []
  | d {x : Nat × V} {l r : Fr} (h : Sel l r) : Sel (x :: l) r
  | k {x : Nat × V} {l r : Fr} (h : Sel l r) : Sel (x :: l) (x :: r)
  | i {l r : Fr} (t : Nat) (v : V) (h : Sel l r) : Sel l ((t, v) :: r)
section
variable {x y z u : Nat × V} {l r : Fr}
theorem Sel.k2 (h : Sel l r) : Sel (x :: y :: l) (x :: y :: r) := .k (.k h)
theorem Sel.k3 (h : Sel l r) : Sel (x :: y :: z :: l) (x :: y :: z :: r) := .k (.k (.k h))
theorem Sel.k4 (h : Sel l r) : Sel (x :: y :: z :: u :: l) (x :: y :: z :: u :: r) := .k (.k (.k (.k h)))
theorem Sel.d2 (h : Sel l r) : Sel (x :: y :: l) r := .d (.d h)
theorem Sel.d3 (h : Sel l r) : Sel (x :: y :: z :: l) r := .d (.d (.d h))
theorem Sel.d4 (h : Sel l r) : Sel (x :: y :: z :: u :: l) r := .d (.d (.d (.d h)))
end
section
variable {P : Program} {sz : Nat} {df : Rd} {m : Nat} {ops : Array Oper} {i id : Nat} {fr fr' : Fr} {ob ob' : Objs} {K : St → Prop} {Q : PostS} {c : Code}
theorem rk (n : Nat) (s : Sel fr fr') (k : RegJ P sz df m ops (i + n) ⟨fr', ob⟩ K) (h : (stepJ P sz ops n i ⟨fr, ob⟩).map (fun S1 => (fr'.map fun e => fget S1.fr e.1, S1.ob)) = some (fr'.map Prod.snd, ob) := by kernel_rfl) : RegJ P sz df m ops i ⟨fr, ob⟩ K := RegJ.run n fr' ob h k
theorem rko (n : Nat) (s : Sel fr fr') (ob' : Objs) (k : RegJ P sz df m ops (i + n) ⟨fr', ob'⟩ K) (h : (stepJ P sz ops n i ⟨fr, ob⟩).map (fun S1 => (fr'.map fun e => fget S1.fr e.1, S1.ob)) = some (fr'.map Prod.snd, ob') := by kernel_rfl) : RegJ P sz df m ops i ⟨fr, ob⟩ K := RegJ.run n fr' ob' h k
theorem tk (s : Sel fr fr') (k : Q .normal ⟨fr', ob⟩) (h : (stepJ P sz ops ops.size 0 ⟨fr, ob⟩).map (fun S1 => (fr'.map fun e => fget S1.fr e.1, S1.ob)) = some (fr'.map Prod.snd, ob) := by kernel_rfl) (hnd : noDefers ops = true := by kernel_rfl) : TriE P sz df m (.region id ops false) ⟨fr, ob⟩ Q := TriE.run fr' ob h k hnd
theorem sk (s : Sel fr fr') (k : TriE P sz df m c ⟨fr', ob⟩ Q) (h : (stepJ P sz ops ops.size 0 ⟨fr, ob⟩).map (fun S1 => (fr'.map fun e => fget S1.fr e.1, S1.ob)) = some (fr'.map Prod.snd, ob) := by kernel_rfl) (hnd : noDefers ops = true := by kernel_rfl) : TriE P sz df m (.seq (.region id ops false) c) ⟨fr, ob⟩ Q := TriE.seq (TriE.run fr' ob h k hnd)
theorem sko (s : Sel fr fr') (ob' : Objs) (k : TriE P sz df m c ⟨fr', ob'⟩ Q) (h : (stepJ P sz ops ops.size 0 ⟨fr, ob⟩).map (fun S1 => (fr'.map fun e => fget S1.fr e.1, S1.ob)) = some (fr'.map Prod.snd, ob') := by kernel_rfl) (hnd : noDefers ops = true := by kernel_rfl) : TriE P sz df m (.seq (.region id ops false) c) ⟨fr, ob⟩ Q := TriE.seq (TriE.run fr' ob' h k hnd)
theorem jf (s : Sel fr fr') (k : K ⟨fr', ob⟩) (h : (fr'.map fun e => fget fr e.1) = fr'.map Prod.snd := by kernel_rfl) (hi : Nat.beq ops.size i = true := by kernel_rfl) : RegJ P sz df m ops i ⟨fr, ob⟩ K := jd fr' h hi k
theorem jk (n : Nat) (s : Sel fr fr') (k : K ⟨fr', ob⟩) (h : (stepJ P sz ops n i ⟨fr, ob⟩).map (fun S1 => (fr'.map fun e => fget S1.fr e.1, S1.ob)) = some (fr'.map Prod.snd, ob) := by kernel_rfl) (hi : Nat.beq ops.size (i + n) = true := by kernel_rfl) : RegJ P sz df m ops i ⟨fr, ob⟩ K := jrd n fr' ob h hi k
theorem jko (n : Nat) (s : Sel fr fr') (ob' : Objs) (k : K ⟨fr', ob'⟩) (h : (stepJ P sz ops n i ⟨fr, ob⟩).map (fun S1 => (fr'.map fun e => fget S1.fr e.1, S1.ob)) = some (fr'.map Prod.snd, ob') := by kernel_rfl) (hi : Nat.beq ops.size (i + n) = true := by kernel_rfl) : RegJ P sz df m ops i ⟨fr, ob⟩ K := jrd n fr' ob' h hi k
theorem ts (s : Sel fr fr') (k : TriE P sz df m c ⟨fr', ob⟩ Q) (h : (fr'.map fun e => fget fr e.1) = fr'.map Prod.snd := by kernel_rfl) : TriE P sz df m c ⟨fr, ob⟩ Q := TriE.sees (sl h) k
theorem rs (s : Sel fr fr') (k : RegJ P sz df m ops i ⟨fr', ob⟩ K) (h : (fr'.map fun e => fget fr e.1) = fr'.map Prod.snd := by kernel_rfl) : RegJ P sz df m ops i ⟨fr, ob⟩ K := RegJ.sees (sl h) k
theorem dk {acc : List (List Nat × List Nat)} (n : Nat) (s : Sel fr fr') (k : RegD P sz df m ops (i + n) ⟨fr', ob ++ List.replicate n none⟩ (accD P sz ops n i ⟨fr, ob⟩ acc) K) (h : (stepD P sz ops n i ⟨fr, ob⟩ acc).map Prod.fst = some ⟨fr', ob ++ List.replicate n none⟩ := by kernel_rfl) : RegD P sz df m ops i ⟨fr, ob⟩ acc K := RegD.run n fr' _ h k
theorem dko {acc : List (List Nat × List Nat)} (n : Nat) (s : Sel fr fr') (ob' : Objs) (k : RegD P sz df m ops (i + n) ⟨fr', ob'⟩ (accD P sz ops n i ⟨fr, ob⟩ acc) K) (h : (stepD P sz ops n i ⟨fr, ob⟩ acc).map Prod.fst = some ⟨fr', ob'⟩ := by kernel_rfl) : RegD P sz df m ops i ⟨fr, ob⟩ acc K := RegD.run n fr' _ h k
theorem dfi {acc : List (List Nat × List Nat)} (s : Sel fr fr') (rs : List Nat) (o : ObRen (rho ob.length rs) ob rs ob') (k : K ⟨fr', ob'⟩) (hi : Nat.beq ops.size i = true := by kernel_rfl) (hd : drawOK ops acc = true := by kernel_rfl) (hn : rs.Nodup := by decide) (hf : (fr'.map fun e => e.2.ren (rho ob.length rs)) = (fr'.map fun e => fget fr e.1) := by kernel_rfl)
    (le : Nat.ble m ob'.length = true := by kernel_rfl) (low : ((List.range m).all fun n => Nat.beq (rs.getD n 0) n) = true := by kernel_rfl) : RegD P sz df m ops i ⟨fr, ob⟩ acc K := RegD.done hi hd (sc (S' := ⟨fr', ob'⟩) rs hn hf o le low) k
variable {S : St} {v : V} {rd : List Nat} {eff : Eff} {acc : List (List Nat × List Nat)} {g : Bool} {t : Nat} {b : Bool}
theorem jo (d : Nat) (op : IOp) (h : Ok op (tau (fget S.fr)) (oget S.ob) S.ob.length v rd) (k : RegJ P sz df m ops (i + 1) ⟨(d, v) :: S.fr, S.ob⟩ K) (hc : compAt P sz ops i = some (I0 d op) := by kernel_rfl) (hx : op.as.all (xcond S.fr) = true := by kernel_rfl) : RegJ P sz df m ops i S K :=
  jv v hc h hx k
theorem dp (d : Nat) (op : IOp) (h : Ok op (tau (fget S.fr)) (oget S.ob) S.ob.length v rd) (k : RegD P sz df m ops (i + 1) ⟨(d, v) :: S.fr, S.ob ++ [none]⟩ (acc ++ [(rd, [])]) K) (hc : compAt P sz ops i = some (I0 d op) := by kernel_rfl) (hx : op.as.all (xcond S.fr) = true := by kernel_rfl) : RegD P sz df m ops i S acc K :=
  dv v hc h hx k
theorem jx (d : Nat) (op : IOp) (ob' : Objs) (h : isem op (tau (fget S.fr)) (oget S.ob) S.ob.length = some ⟨v, eff, true, rd⟩) (he : effOK eff S.ob.length = true) (ho : eff.obs S.ob = ob') (k : RegJ P sz df m ops (i + 1) ⟨(d, v) :: S.fr, ob'⟩ K) (hc : compAt P sz ops i = some (I0 d op) := by kernel_rfl) (hx : op.as.all (xcond S.fr) = true := by kernel_rfl) : RegJ P sz df m ops i S K :=
  je v ob' hc h hx he ho k
theorem jn (op : IOp) (ob' : Objs) (h : isem op (tau (fget S.fr)) (oget S.ob) S.ob.length = some ⟨v, eff, true, rd⟩) (he : effOK eff S.ob.length = true) (ho : eff.obs S.ob = ob') (k : RegJ P sz df m ops (i + 1) ⟨S.fr, ob'⟩ K) (hc : compAt P sz ops i = some (IN op) := by kernel_rfl) (hx : op.as.all (xcond S.fr) = true := by kernel_rfl) : RegJ P sz df m ops i S K :=
  je v ob' hc h hx he ho k
theorem dx (d : Nat) (op : IOp) (ob' : Objs) (h : isem op (tau (fget S.fr)) (oget S.ob) S.ob.length = some ⟨v, eff, true, rd⟩) (he : effOK eff S.ob.length = true) (ho : eff.obp S.ob = ob') (k : RegD P sz df m ops (i + 1) ⟨(d, v) :: S.fr, ob'⟩ (acc ++ [(rd, eff.tch S.ob.length)]) K) (hc : compAt P sz ops i = some (I0 d op) := by kernel_rfl) (hx : op.as.all (xcond S.fr) = true := by kernel_rfl) : RegD P sz df m ops i S acc K :=
  de v ob' hc h hx he ho k
theorem dm (op : IOp) (ob' : Objs) (h : isem op (tau (fget S.fr)) (oget S.ob) S.ob.length = some ⟨v, eff, true, rd⟩) (he : effOK eff S.ob.length = true) (ho : eff.obp S.ob = ob') (k : RegD P sz df m ops (i + 1) ⟨S.fr, ob'⟩ (acc ++ [(rd, eff.tch S.ob.length)]) K) (hc : compAt P sz ops i = some (IN op) := by kernel_rfl) (hx : op.as.all (xcond S.fr) = true := by kernel_rfl) : RegD P sz df m ops i S acc K :=
  de v ob' hc h hx he ho k
theorem gk (v : V) (d : Nat) (op : IOp) (t : Nat) (b : Bool) (hg : gval S.fr (some (t, b)) = some g) (hx : g = true → Conds S.fr op.as) (k : RegJ P sz df m ops (i + 1) ⟨(d, .cond g v) :: S.fr, S.ob⟩ K) (hv : isemV op (tau (fget S.fr)) (oget S.ob) S.ob.length = some v := by kernel_rfl)
    (hc : compAt P sz ops i = some (IG d op t b) := by kernel_rfl) : RegJ P sz df m ops i S K := RegJ.op (Op1.valk op op.as hc hg hv hx) k
theorem gj (v : V) (d : Nat) (op : IOp) (t : Nat) (b : Bool) (hg : gval S.fr (some (t, b)) = some g) (k : RegJ P sz df m ops (i + 1) ⟨(d, .cond g v) :: S.fr, S.ob⟩ K) (hx : op.as.all (xcond S.fr) = true := by kernel_rfl) (hv : isemV op (tau (fget S.fr)) (oget S.ob) S.ob.length = some v := by kernel_rfl)
    (hc : compAt P sz ops i = some (IG d op t b) := by kernel_rfl) : RegJ P sz df m ops i S K := RegJ.op (Op1.valk op op.as hc hg hv fun _ => .of hx) k
theorem gd (g : Bool) (v : V) (d : Nat) (op : IOp) (t : Nat) (b : Bool) (hg : gval S.fr (some (t, b)) = some g) (hx : g = true → Conds S.fr op.as) (k : RegD P sz df m ops (i + 1) ⟨(d, .cond g v) :: S.fr, S.ob ++ [none]⟩ (acc ++ [(isemR op (tau (fget S.fr)) (oget S.ob) S.ob.length, [])]) K)
    (hv : isemV op (tau (fget S.fr)) (oget S.ob) S.ob.length = some v := by kernel_rfl) (hc : compAt P sz ops i = some (IG d op t b) := by kernel_rfl) : RegD P sz df m ops i S acc K := RegD.op (OpD.valk op op.as hc hg hv hx) k
theorem gu (g : Bool) (d : Nat) (op : IOp) (t : Nat) (b : Bool) (hg : gval S.fr (some (t, b)) = some g) (h : g = true → Ok op (tau (fget S.fr)) (oget S.ob) S.ob.length v rd) (hx : g = true → Conds S.fr op.as) (k : RegD P sz df m ops (i + 1) ⟨(d, .cond g v) :: S.fr, S.ob ++ [none]⟩ (acc ++ [(rd, [])]) K)
    (hc : compAt P sz ops i = some (IG d op t b) := by kernel_rfl) : RegD P sz df m ops i S acc K := RegD.op (OpD.valg op op.as hc hg h hx) k
theorem gv (d : Nat) (op : IOp) (t : Nat) (b : Bool) (hg : gval S.fr (some (t, b)) = some g) (h : g = true → Ok op (tau (fget S.fr)) (oget S.ob) S.ob.length v rd) (hx : g = true → Conds S.fr op.as) (k : RegJ P sz df m ops (i + 1) ⟨(d, .cond g v) :: S.fr, S.ob⟩ K)
    (hc : compAt P sz ops i = some (IG d op t b) := by kernel_rfl) : RegJ P sz df m ops i S K := RegJ.op (Op1.valg op op.as hc hg h hx) k
theorem q1 {x y : Code} {S : St} (h : TriE P sz df m x S (seqS P sz df m y Q)) : TriE P sz df m (.seq x y) S Q := TriE.seq h
theorem q2 {S : St} (h : Q .normal S) : TriE P sz df m .skip S Q := TriE.skip h
theorem q3 {S : St} (h : Q .ret S) : TriE P sz df m .ret S Q := TriE.ret h
theorem q4 {id : Nat} {c : Code} {S : St} (h : TriE P sz df m c S (blockS id Q)) : TriE P sz df m (.block id c) S Q := TriE.block h
theorem q5 {id : Nat} {S : St} (h : Q (.exit id) S) : TriE P sz df m (.exit id) S Q := TriE.exit h
theorem q6 {id : Nat} {S : St} (h : RegJ P sz df m ops 0 S (Q .normal)) (hnd : noDefers ops = true := by kernel_rfl) : TriE P sz df m (.region id ops false) S Q := TriE.regJ h hnd
theorem q7 {id : Nat} {c x : Code} {S : St} (h : TriE P sz df m c S (blockS id (seqS P sz df m x Q))) : TriE P sz df m (.seq (.block id c) x) S Q := TriE.seq (TriE.block h)
theorem si {α : Type} {a b : α} (h : some a = some b) : a = b := Option.some.inj h
theorem cK {α : Type} {b : Bool} {k : Option α} {r : α} {Q : Prop} (h : chk b k = some r) (g : b = true → k = some r → Q) : Q := g (chk_some h).1 (chk_some h).2
theorem bK {α β : Type} {x : Option α} {f : α → Option β} {r : β} {Q : Prop} (h : x.bind f = some r) (g : ∀ y, x = some y → f y = some r → Q) : Q := let ⟨y, a, b⟩ := bind_some h; g y a b
theorem bs {α β : Type} {x : Option α} {f : α → Option β} {r : β} (h : x.bind f = some r) : ∃ y, x = some y ∧ f y = some r := bind_some h
theorem tc {R : Type} {p q : Option R} {r : R} {b : Bool} {S : St} {c : Operand} {x y : Code} (h : (bif b then p else q) = some r) (ht : b = true → p = some r → TriE P sz df m x S Q) (he : b = false → q = some r → TriE P sz df m y S Q) (hb : xbool S.fr (toX c) = some b := by kernel_rfl) : TriE P sz df m (.cond c x y) S Q :=
  TriE.cond hb (fun e => ht e (cond_t h e)) (fun e => he e (cond_f h e))
theorem fo {k : FuncId} {fn : Func} {c : Code} {xs : List V} {ob' : Objs} {y : V} (ts : List Nat) (henter : ∀ args w, (callFunc k args).run P w = .ok (.enter k args) w) (hf : P.funcs[k]? = some fn) (hb : fn.body = some c) (h : ∀ {n0}, TriE P fn.ntmps ⟨none, n0⟩ 0 c ⟨frOf xs 0, []⟩ (DoneS 0 ts y ob'))
    (hr : fn.results = (ts.map ResultVar.tmp).toArray := by kernel_rfl) (hn : Nat.ble xs.length fn.ntmps = true := by kernel_rfl) : FnL P k xs [] y ob' := FnL.ofS henter hf hb hr (Nat.le_of_ble_eq_true hn) (Nat.zero_le _) (fun j h => absurd h (Nat.not_lt_zero j)) h
theorem fob {k : FuncId} {fn : Func} {c : Code} {xs : List V} {ob ob' : Objs} {y : V} (ts : List Nat) (henter : ∀ args w, (callFunc k args).run P w = .ok (.enter k args) w) (hf : P.funcs[k]? = some fn) (hb : fn.body = some c) (ha : AllSome ob) (h : ∀ {n0}, TriE P fn.ntmps ⟨none, n0⟩ ob.length c ⟨frOf xs 0, ob⟩ (DoneS ob.length ts y ob'))
    (hr : fn.results = (ts.map ResultVar.tmp).toArray := by kernel_rfl) (hn : Nat.ble xs.length fn.ntmps = true := by kernel_rfl) (hl : Nat.ble ob.length ob'.length = true := by kernel_rfl) : FnL P k xs ob y ob' := FnL.ofS henter hf hb hr (Nat.le_of_ble_eq_true hn) (Nat.le_of_ble_eq_true hl) (hall_of ha) h
theorem po {cb c1 y1 yb : Bool} {S : St} (d : Nat) (c y : X) (hc : xval S.fr c = some (c1, cb)) (hy : xval S.fr y = some (y1, yb)) (k : RegJ P sz df m ops (i + 1) ⟨(d, vb (cb || yb)) :: S.fr, S.ob⟩ K) (hco : compAt P sz ops i = some (I0 d (.pick c (.c (.p (.bool true))) y)) := by kernel_rfl)
    (hok : (c1 && (cb || y1)) = true := by first | exact hokO1 | exact hokO0 | simp) : RegJ P sz df m ops i S K := RegJ.op (Op1.or hco hc hy hok) k
theorem pa {cb c1 y1 yb : Bool} {S : St} (d : Nat) (c y : X) (hc : xval S.fr c = some (c1, cb)) (hy : xval S.fr y = some (y1, yb)) (k : RegJ P sz df m ops (i + 1) ⟨(d, vb (cb && yb)) :: S.fr, S.ob⟩ K) (hco : compAt P sz ops i = some (I0 d (.pick c y (.c (.p (.bool false))))) := by kernel_rfl)
    (hok : (c1 && (!cb || y1)) = true := by first | exact hokA1 | exact hokA0 | simp) : RegJ P sz df m ops i S K := RegJ.op (Op1.and hco hc hy hok) k
theorem jc {f : Nat} {xs : List V} {y : V} (d : Nat) (as : List X) (h : FnL P f xs [] y []) (k : RegJ P sz df m ops (i + 1) ⟨(d, y) :: S.fr, S.ob⟩ K) (hy : y.ren (rho S.ob.length []) = y := by kernel_rfl) (hc : compAt P sz ops i = some (I0 d (.call f as)) := by kernel_rfl) (ha : as.map (tau (fget S.fr)) = renL (rho S.ob.length []) xs := by kernel_rfl)
    (hx : (IOp.call f as).as.all (xcond S.fr) = true := by kernel_rfl) : RegJ P sz df m ops i S K := RegJ.op (Op1.call as _ hc rfl h [] ha (.of hx) rfl rfl .nil hy .nil (List.append_nil _)) k
theorem jco {f : Nat} {xs : List V} {ob ob' obx oby ob2 : Objs} {y : V} (y' : V) (d : Nat) (as : List X) (h : FnL P f xs ob y ob') (rs : List Nat) (hob : rs.map (oget S.ob) = obx) (hobx : ObsRen (rho S.ob.length rs) ob obx) (hoby : ObsRen (rho S.ob.length rs) ob' oby) (ho : setAll S.ob rs oby = ob2)
    (k : RegJ P sz df m ops (i + 1) ⟨(d, y') :: S.fr, ob2⟩ K) (hc : compAt P sz ops i = some (I0 d (.call f as)) := by kernel_rfl) (ha : as.map (tau (fget S.fr)) = renL (rho S.ob.length rs) xs := by kernel_rfl) (hx : (IOp.call f as).as.all (xcond S.fr) = true := by kernel_rfl) (hrs : callOK S.ob.length rs = true := by kernel_rfl)
    (hy : y.ren (rho S.ob.length rs) = y' := by kernel_rfl) : RegJ P sz df m ops i S K := RegJ.op (Op1.call as _ hc rfl h rs ha (.of hx) hrs hob hobx hy hoby ho) k
theorem jy {f : Nat} {xs first caps : List V} {ob ob' obx oby ob2 : Objs} {y : V} (y' : V) (d : Nat) (gx : X) (as : List X) (hf : tau (fget S.fr) gx = .fn (.func f) first caps) (h : FnL P f xs ob y ob') (rs : List Nat) (hob : rs.map (oget S.ob) = obx) (hobx : ObsRen (rho S.ob.length rs) ob obx) (hoby : ObsRen (rho S.ob.length rs) ob' oby) (ho : setAll S.ob rs oby = ob2)
    (k : RegJ P sz df m ops (i + 1) ⟨(d, y') :: S.fr, ob2⟩ K) (hc : compAt P sz ops i = some (I0 d (.dyn gx as)) := by kernel_rfl) (ha : first ++ as.map (tau (fget S.fr)) ++ caps = renL (rho S.ob.length rs) xs := by kernel_rfl) (hx : (IOp.dyn gx as).as.all (xcond S.fr) = true := by kernel_rfl) (hrs : callOK S.ob.length rs = true := by kernel_rfl)
    (hy : y.ren (rho S.ob.length rs) = y' := by kernel_rfl) : RegJ P sz df m ops i S K := RegJ.op (Op1.dyn gx as _ hc rfl hf h rs ha (.of hx) hrs hob hobx hy hoby ho) k
theorem dc {f : Nat} {xs : List V} {ob ob' obx oby ob2 : Objs} {y : V} {tch : List Nat} (y' : V) (c : Nat) (d : Nat) (as : List X) (h : FnL P f xs ob y ob') (rs : List Nat) (hob : rs.map (oget S.ob) = obx) (hobx : ObsRen (rhoU S.ob.length c rs) ob obx) (hoby : ObsRen (rhoU S.ob.length c rs) ob' oby) (ho : setAll S.ob rs oby ++ [none] = ob2) (ht : CallT S rs c ob ob' tch)
    (k : RegD P sz df m ops (i + 1) ⟨(d, y') :: S.fr, ob2⟩ (acc ++ [(rs, tch)]) K) (hc : compAt P sz ops i = some (I0 d (.call f as)) := by kernel_rfl) (ha : as.map (tau (fget S.fr)) = renL (rhoU S.ob.length c rs) xs := by kernel_rfl) (hx : (IOp.call f as).as.all (xcond S.fr) = true := by kernel_rfl) (hrs : callOK S.ob.length rs = true := by kernel_rfl)
    (hy : y.ren (rhoU S.ob.length c rs) = y' := by kernel_rfl) (hcc : c = ob'.length - rs.length := by kernel_rfl) : RegD P sz df m ops i S acc K := RegD.op (OpD.call c as _ hc h rs ha (.of hx) hrs hob hobx hy hoby ho hcc ht) k
theorem gc {f : Nat} {xs : List V} {y : V} (d : Nat) (as : List X) (t : Nat) (b : Bool) (hg : gval S.fr (some (t, b)) = some g) (h : g = true → FnL P f xs [] y []) (hx : g = true → Conds S.fr (IOp.call f as).as) (ha : g = true → as.map (tau (fget S.fr)) = renL (rho S.ob.length []) xs) (k : RegJ P sz df m ops (i + 1) ⟨(d, .cond g y) :: S.fr, S.ob⟩ K)
    (hy : y.ren (rho S.ob.length []) = y := by kernel_rfl) (hc : compAt P sz ops i = some (IG d (.call f as) t b) := by kernel_rfl) : RegJ P sz df m ops i S K := RegJ.op (Op1.callg as _ hc hg h [] ha hx rfl rfl .nil hy (List.append_nil _)) k
theorem du {f : Nat} {xs : List V} {y : V} (g : Bool) (d : Nat) (as : List X) (t : Nat) (b : Bool) (hg : gval S.fr (some (t, b)) = some g) (h : g = true → FnL P f xs [] y []) (hx : g = true → Conds S.fr (IOp.call f as).as) (ha : g = true → as.map (tau (fget S.fr)) = renL (rhoU S.ob.length 0 []) xs) (k : RegD P sz df m ops (i + 1) ⟨(d, .cond g y) :: S.fr, S.ob ++ [none]⟩ (acc ++ [([], [])]) K)
    (hy : y.ren (rhoU S.ob.length 0 []) = y := by kernel_rfl) (hc : compAt P sz ops i = some (IG d (.call f as) t b) := by kernel_rfl) : RegD P sz df m ops i S acc K := RegD.op (OpD.callg as _ hc hg h [] ha hx rfl rfl .nil hy (List.append_nil _) rfl) k
end
end
section
open Go
variable {P : Program} {sz : Nat} {df : Rd} {m : Nat}
end
section
open Go
variable {P : Program} {sz : Nat} {df : Rd} {m : Nat}
def slotR : ResultVar → Nat
  | .tmp t => t
  | .cell a _ => a
def loadC (P : Program) (S : St) (a : Nat) (ty : TypeId) : Option V := match tAgg P ty, tSize P ty, fget S.fr a with
  | some ag, some k, .ptr n i off => match oget S.ob n with
    | some (.row _ es) => match decide (i < es.length) with
      | true => loadE ag k (nth es i) off
      | false => none
    | _ => none
  | _, _, _ => none
def resV (P : Program) (S : St) : ResultVar → Option V
  | .tmp t => some (fget S.fr t)
  | .cell a ty => loadC P S a ty
def zipR : List ResultVar → List V → Fr
  | r :: rs, v :: vs => (slotR r, v) :: zipR rs vs
  | _, _ => []
def resVs (P : Program) (S : St) : List ResultVar → Option (List V)
  | [] => some []
  | r :: rs => match resV P S r, resVs P S rs with
    | some v, some vs => some (v :: vs)
    | _, _ => none
def getR (tmps : Array Value) : ResultVar → Sem Value
  | .tmp t => pure (tmps.getD t Go.undef)
  | .cell b t => do loadVar t (← asAddr (tmps.getD b Go.undef))
theorem resV_run {S : St} {b : Base} {w : World} {F : Nat → Prop} {β : Beta} {a : Act} (hc : Cur m sz df b S w F β a) {r : ResultVar} {v : V} (h : resV P S r = some v) : ∃ u, (getR a.tmps r).run P w = .ok u w ∧ VRep w F β u v := by
  cases r with
  | tmp t =>
    simp only [resV, Option.some.injEq] at h
    subst h
    exact ⟨_, rfl, hc.fr.2.2 t⟩
  | cell c ty =>
    simp only [resV, loadC] at h
    split at h
    · rename_i ag k n i off h1 h2 h3
      split at h
      · rename_i k0 es h4
        split at h
        · rename_i h5
          have hi : i < es.length := by simpa using h5
          have hv := hc.fr.2.2 c
          rw [h3] at hv
          obtain ⟨blk, s, k', sz', hb, e⟩ := hv.ptr_inv
          obtain ⟨l, hl, ho, _⟩ := hc.rep.obj n _ h4
          rw [hb] at hl; cases hl
          have hfl : (nth es i).flat.length = k' := by obtain ⟨_, cs, T, g1, g2, g3, g4, g5, g6⟩ := ho; exact (g5 i hi).1
          obtain ⟨u, hu, hvv⟩ := load_cells (P := P) (p := s + i * k') h1 h2 hfl (fun j hj => row_cell ho i j hi hj) h
          refine ⟨u, ?_, hvv⟩
          simp only [getR, e]
          simpa [asAddr] using hu
        · cases h
      · cases h
    · cases h
def lookR : List ResultVar → List Value → Nat → Value
  | r :: rs, u :: us, t => match Nat.decEq (slotR r) t with
    | .isTrue _ => u
    | .isFalse _ => lookR rs us t
  | _, _, _ => Go.undef
theorem look_fr {w : World} {F : Nat → Prop} {β : Beta} : ∀ (rs : List ResultVar) (us : List Value) (vs : List V), us.length = rs.length → vs.length = rs.length → (∀ j, j < rs.length → VRep w F β (us.getD j Go.undef) (nth vs j)) → ∀ t, VRep w F β (lookR rs us t) (fget (zipR rs vs) t)
  | [], us, vs, _, _, _, t => by
    cases us <;> cases vs <;> exact .undef
  | r :: rs, u :: us, v :: vs, h1, h2, h, t => by
    simp only [lookR, zipR, fget]
    cases Nat.decEq (slotR r) t with
    | isTrue _ => exact h 0 (by simp)
    | isFalse _ => exact look_fr rs us vs (by simpa using h1) (by simpa using h2) (fun j hj => h (j + 1) (by simpa using hj)) t
  | _ :: _, [], _, h, _, _, _ => by simp at h
  | _ :: _, _ :: _, [], _, h, _, _ => by simp at h
theorem look_at : ∀ (rs : List ResultVar) (us : List Value), us.length = rs.length → (rs.map slotR).Nodup → ∀ j (hj : j < rs.length), lookR rs us (slotR rs[j]) = us.getD j Go.undef
  | [], us, _, _, j, hj => by simp at hj
  | r :: rs, u :: us, h1, hn, j, hj => by
    simp only [List.map_cons, List.nodup_cons] at hn
    cases j with
    | zero =>
      simp only [List.getElem_cons_zero, lookR]
      split
      · rfl
      · rename_i hne _; exact absurd rfl hne
    | succ j =>
      have hj' : j < rs.length := by simpa using hj
      simp only [List.getElem_cons_succ, lookR]
      split
      · rename_i he _
        exact absurd (he ▸ List.mem_map_of_mem (List.getElem_mem hj')) hn.1
      · simpa using look_at rs us (by simpa using h1) hn.2 j hj'
  | _ :: _, [], h, _, _, _ => by simp at h
theorem resVs_run {S : St} {b : Base} {w : World} {F : Nat → Prop} {β : Beta} {a : Act} (hc : Cur m sz df b S w F β a) : ∀ {rs : List ResultVar} {vs : List V}, resVs P S rs = some vs → ∃ us : List Value, us.length = rs.length ∧ vs.length = rs.length ∧ ∀ j (hj : j < rs.length), (getR a.tmps rs[j]).run P w = .ok (us.getD j Go.undef) w ∧ VRep w F β (us.getD j Go.undef) (nth vs j)
  | [], vs, h => by cases h; exact ⟨[], rfl, rfl, fun j hj => by simp at hj⟩
  | r :: rs, vs, h => by
    simp only [resVs] at h
    split at h
    · rename_i v vs' h1 h2
      cases h
      obtain ⟨us, g1, g2, g3⟩ := resVs_run hc h2
      obtain ⟨u, k1, k2⟩ := resV_run hc h1
      refine ⟨u :: us, by simp [g1], by simp [g2], fun j hj => ?_⟩
      cases j with
      | zero => exact ⟨k1, k2⟩
      | succ j => exact g3 j (by simpa using hj)
    · cases h
theorem resT_rep {tmps1 : Array Value} {w : World} {F : Nat → Prop} {β : Beta} {fr : Fr} (hv : ∀ t, VRep w F β (tmps1.getD t Go.undef) (fget fr t)) (ts : List Nat) :
    VRep w F β (if h : (ts.map fun t => tmps1.getD t Go.undef).toArray.size = 1 then (ts.map fun t => tmps1.getD t Go.undef).toArray[0] else .tuple (ts.map fun t => tmps1.getD t Go.undef).toArray) (resT ts fr) := by
  match ts with
  | [] => exact .tup (by simp) (fun j hj => by simp at hj)
  | [t] => exact hv t
  | t :: u :: r =>
    have : ¬ ((List.map (fun t => tmps1.getD t Go.undef) (t :: u :: r)).toArray.size = 1) := by simp
    rw [dif_neg this]
    refine .tup (by simp) fun j hj => ?_
    have hj' : j < (t :: u :: r).length := by simpa using hj
    have e1 : (List.map (fun t => tmps1.getD t Go.undef) (t :: u :: r)).toArray.getD j Go.undef = tmps1.getD ((t :: u :: r)[j]) Go.undef := by
      simp only [Array.getD_eq_getD_getElem?, List.getElem?_toArray, List.getElem?_map, List.getElem?_eq_getElem hj', Option.map_some, Option.getD_some]
    have e2 : nth (List.map (fget fr) (t :: u :: r)) j = fget fr ((t :: u :: r)[j]) := by
      simp only [nth, List.getD, List.getElem?_map, List.getElem?_eq_getElem hj', Option.map_some, Option.getD_some]
    rw [e1, e2]
    exact hv _
theorem resultsC_run {fn : Func} {rs : List ResultVar} (hr : fn.results = rs.toArray) {tmps tmps1 : Array Value} {w : World} (h : ∀ r ∈ rs, (getR tmps r).run P w = .ok (tmps1.getD (slotR r) Go.undef) w) {F : Nat → Prop} {β : Beta} {fr : Fr} (hv : ∀ t, VRep w F β (tmps1.getD t Go.undef) (fget fr t)) :
    ∃ v, (results fn tmps).run P w = .ok v w ∧ VRep w F β v (resT (rs.map slotR) fr) := by
  classical
  let ts : List Nat := rs.map slotR
  have hm : (fn.results.mapM (getR tmps)).run P w = .ok (ts.map fun t => tmps1.getD t Go.undef).toArray w := by
    rw [hr]
    refine run_array_mapM (P := P) (w := w) _ (fun r => if (getR tmps r).run P w = .ok (tmps1.getD (slotR r) Go.undef) w then some (tmps1.getD (slotR r) Go.undef) else none) ?_ _ _ ?_
    · intro r c hc
      split at hc
      · rename_i e; cases hc; exact e
      · cases hc
    · show rs.mapM _ = some _
      simp only [ts]
      clear hr hv ts
      induction rs with
      | nil => rfl
      | cons r rs ih =>
        rw [List.mapM_cons, if_pos (h r (by simp)), ih fun x hx => h x (by simp [hx])]
        rfl
  obtain ⟨v, e, hvv⟩ : ∃ v, v = (if h : (ts.map fun t => tmps1.getD t Go.undef).toArray.size = 1 then (ts.map fun t => tmps1.getD t Go.undef).toArray[0] else .tuple (ts.map fun t => tmps1.getD t Go.undef).toArray) ∧ VRep w F β v (resT ts fr) := ⟨_, rfl, resT_rep hv ts⟩
  refine ⟨v, ?_, hvv⟩
  rw [e]
  unfold results
  rw [Sem.run_bind]
  exact (congrArg (fun r => Result.andThen r (fun (vs : Array Value) w' => Sem.run P (pure (if h : vs.size = 1 then vs[0] else Value.tuple vs)) w')) hm)
def DoneC (P : Program) (m : Nat) (rs : List ResultVar) (y : V) (ob' : Objs) : PostS := fun e S => match e with
  | .normal | .ret => ∃ vs, resVs P S rs = some vs ∧ Vs m (fun S' => resT (rs.map slotR) S'.fr = y ∧ S'.ob = ob') ⟨zipR rs vs, S.ob⟩
  | _ => False
theorem DoneC.ret {rs : List ResultVar} {y : V} {ob' : Objs} {S S' : St} (vs : List V) (h : Sees m ⟨zipR rs vs, S.ob⟩ S') (hr : resT (rs.map slotR) S'.fr = y) (ho : S'.ob = ob') (hv : resVs P S rs = some vs := by kernel_rfl) : DoneC P m rs y ob' .ret S := ⟨vs, hv, S', h, hr, ho⟩
theorem DoneC.normal {rs : List ResultVar} {y : V} {ob' : Objs} {S S' : St} (vs : List V) (h : Sees m ⟨zipR rs vs, S.ob⟩ S') (hr : resT (rs.map slotR) S'.fr = y) (ho : S'.ob = ob') (hv : resVs P S rs = some vs := by kernel_rfl) : DoneC P m rs y ob' .normal S := ⟨vs, hv, S', h, hr, ho⟩
def slotsOK (sz : Nat) (rs : List ResultVar) : Bool := rs.all fun r => Nat.blt (slotR r) sz
theorem DoneC.act {rs : List ResultVar} {vs : List V} {S : St} {b : Base} {w : World} {F : Nat → Prop} {β : Beta} {a : Act} (hnd : (rs.map slotR).Nodup) (hsz : slotsOK sz rs = true) (hc : Cur m sz df b S w F β a) (h : resVs P S rs = some vs) :
    ∃ a1 : Act, Cur m sz df b ⟨zipR rs vs, S.ob⟩ w F β a1 ∧ ∀ r ∈ rs, (getR a.tmps r).run P w = .ok (a1.tmps.getD (slotR r) Go.undef) w := by
  obtain ⟨us, g1, g2, g3⟩ := resVs_run hc h
  have hlk : ∀ t, ¬ t < sz → lookR rs us t = Go.undef := by
    intro t ht
    clear g3 g2 h hnd
    induction rs generalizing us with
    | nil => cases us <;> rfl
    | cons r rs ih =>
      cases us with
      | nil => simp at g1
      | cons u us =>
        simp only [slotsOK, List.all_cons, Bool.and_eq_true] at hsz
        have h1 : slotR r < sz := Nat.le_of_ble_eq_true hsz.1
        simp only [lookR]
        cases Nat.decEq (slotR r) t with
        | isTrue e => exact absurd (e ▸ h1) ht
        | isFalse _ => exact ih hsz.2 us (by simpa using g1)
  let T : Array Value := ((List.range sz).map (lookR rs us)).toArray
  have hT : ∀ t, T.getD t Go.undef = lookR rs us t := by
    intro t
    by_cases ht : t < sz
    · simp [T, Array.getD_eq_getD_getElem?, ht]
    · rw [hlk t ht]
      simp [T, Array.getD_eq_getD_getElem?, ht]
  refine ⟨{ a with tmps := T }, ⟨hc.le, ⟨by simp [T], hc.fr.2.1, fun t => ?_⟩, hc.rep, hc.ev⟩, fun r hr => ?_⟩
  · show VRep w F β (T.getD t Go.undef) _
    rw [hT]
    exact look_fr rs us vs g1 g2 (fun j hj => (g3 j hj).2) t
  · obtain ⟨j, hj, rfl⟩ := List.mem_iff_getElem.1 hr
    show _ = Result.ok (T.getD (slotR rs[j]) Go.undef) w
    rw [hT, look_at rs us g1 hnd j hj]
    exact (g3 j hj).1
theorem FnL.ofC {k : FuncId} {fn : Func} {c : Code} {xs : List V} {ob ob' : Objs} {y : V} (rs : List ResultVar) (henter : ∀ args w, (callFunc k args).run P w = .ok (.enter k args) w)
    (hf : P.funcs[k]? = some fn) (hb : fn.body = some c) (ha : AllSome ob) (h : ∀ {n0}, TriE P fn.ntmps ⟨none, n0⟩ ob.length c ⟨frOf xs 0, ob⟩ (DoneC P ob.length rs y ob'))
    (hr : fn.results = rs.toArray := by kernel_rfl) (hn : Nat.ble xs.length fn.ntmps = true := by kernel_rfl) (hl : Nat.ble ob.length ob'.length = true := by kernel_rfl) (hnd : (rs.map slotR).Nodup := by decide) (hsz : slotsOK fn.ntmps rs = true := by kernel_rfl) : FnL P k xs ob y ob' := by
  refine ⟨henter, Nat.le_of_ble_eq_true hl, hall_of ha, fun w F β args hrep hargs => ?_⟩
  refine calls_fin (n0 := w.heap.size) hf hb ?_
  have hn := Nat.le_of_ble_eq_true hn
  have hsz0 : args.size = xs.length := hargs.1
  have hcur : Cur ob.length fn.ntmps ⟨none, w.heap.size⟩ ⟨w, F, β, oget ob⟩ ⟨frOf xs 0, ob⟩ w F β { tmps := args ++ Array.replicate (fn.ntmps - args.size) Go.undef, defers := [] } := by
    refine ⟨Nat.le_refl _, ⟨by simp; omega, Marks.nil (Nat.le_refl _), fun t => ?_⟩, hrep, Evolve.refl _ _ _ _⟩
    show VRep w F β _ (fget (frOf xs 0) t)
    rw [fget_frOf, if_pos (Nat.zero_le _), Nat.sub_zero]
    by_cases ht : t < xs.length
    · have : (args ++ Array.replicate (fn.ntmps - args.size) Go.undef).getD t Go.undef = args.getD t Go.undef := by
        simp only [Array.getD_eq_getD_getElem?]
        rw [Array.getElem?_append_left (by omega)]
      rw [this]; exact hargs.2 t ht
    · have : nth xs t = .undef := by simp only [nth, List.getD]; rw [List.getElem?_eq_none (by omega)]; rfl
      rw [this]; exact .undef
  refine wpR_mono ?_ (h ⟨w, F, β, oget ob⟩ (fun n hn => hrep.dom n hn) w F β _ hcur)
  have fin : ∀ (a' : Act) (w' : World) (S : St) (F' : Nat → Prop) (β' : Beta), (∃ vs, resVs P S rs = some vs ∧ Vs ob.length (fun S' => resT (rs.map slotR) S'.fr = y ∧ S'.ob = ob') ⟨zipR rs vs, S.ob⟩) → Cur ob.length fn.ntmps ⟨none, w.heap.size⟩ ⟨w, F, β, oget ob⟩ S w' F' β' a' →
      ∃ F1, Marks w.heap.size w' F1 a'.defers ∧ ∀ w2, Shut w.heap.size w' w2 → ∃ v, (results fn a'.tmps).run P w2 = .ok v w2 ∧ ∃ v2 F' β', Ending.returned v = .returned v2 ∧ Rep w2 F' β' (oget ob') (fun n => ob'.length ≤ n) ∧ VRep w2 F' β' v2 y ∧ Evolve w F β (oget ob) w2 F' β' (oget ob') := by
    rintro a' w' S F' β' ⟨vs, hvs, S2, k1, rfl, rfl⟩ hc
    refine ⟨F', hc.fr.2.1, fun w2 hsh => ?_⟩
    obtain ⟨a1, hc1, hrun⟩ := DoneC.act hnd hsz (Cur.shut hsh (Nat.le_refl _) hrep.falloc hc) hvs
    obtain ⟨F2, β2, hc2⟩ := k1 _ _ _ (fun n hn => hrep.dom n hn) _ _ _ _ hc1
    obtain ⟨v, r1, r2⟩ := resultsC_run (P := P) hr hrun hc2.fr.2.2
    exact ⟨v, r1, v, _, _, rfl, hc2.rep, r2, hc2.ev⟩
  rintro e a' w' ⟨S, F', β', hq, hc⟩
  cases e with
  | normal => exact fin a' w' S F' β' hq hc
  | ret => exact fin a' w' S F' β' hq hc
  | _ => exact hq.elim
end
section
open Go
variable {P : Program} {sz : Nat} {df : Rd} {m : Nat}
theorem SlAt.first {w : World} {F : Nat → Prop} {β : Beta} {k : Nat} {v : Value} {es : List V} (h : SlAt w F β k v es) (n : Nat) (hn : n ≤ es.length) : (Builtin.lenOf v).run P w = .ok es.length w ∧ ∃ cs : List Value, (Builtin.firstCells k n v).run P w = .ok cs.toArray w ∧ cs.length = n * k ∧
    (∀ i, i < n → okE k (nth (es.take n) i)) ∧ ∀ i j, i < n → j < k → VRep w F β (cs.getD (i * k + j) Go.undef) (nth (nth (es.take n) i).flat j) := by
  obtain ⟨a, cap, rfl, h⟩ := h
  refine ⟨rfl, ?_⟩
  have hl : (es.take n).length = n := by simp; omega
  have h2 : SlAt w F β k (.slice a n cap) (es.take n) := by
    refine ⟨a, cap, by rw [hl], ?_⟩
    rcases h with rfl | ⟨b, p, rfl, hk, hrow⟩
    · exact .inl (by simp)
    · refine .inr ⟨b, p, rfl, hk, ?_⟩
      have := hrow.sub 0 n (by omega)
      simpa using this
  obtain ⟨cs, g1, g2, g3, g4⟩ := h2.cells (P := P)
  rw [hl] at g1 g2 g3 g4
  refine ⟨cs, ?_, g2, g3, g4⟩
  have e : Builtin.firstCells k n (.slice a es.length cap) = Builtin.firstCells k n (.slice a n cap) := by cases a <;> rfl
  rw [e]; exact g1
end
section
open Go
section
variable {α β : Type} {ek : α → V} {ev : β → V}
variable [BEq α] {a b : α → Str}
variable {τ : X → V} {g : Nat → Option AObj} {nn : Nat} {x y z : X} {n : Nat} {l : List (α × β)} {k : α} {zv : V} {z0 : β}
end
section
variable {β : Type} {ev : β → V} {τ : X → V} {g : Nat → Option AObj} {nn : Nat} {x y z : X} {n : Nat} {l : List (Int × β)} {k : Int} {zv : V} {z0 : β}
end
variable {m : Nat}
end
section
open Go
variable {P : Program} {sz : Nat} {df : Rd} {m : Nat}
def errV (T : TypeId) (b : Bool) : V := cond b (.p .nilIface) (.iface T .undef)
theorem VRep.err_inv {w : World} {F : Nat → Prop} {β : Beta} {u : Value} {T : TypeId} {b : Bool} (h : VRep w F β u (errV T b)) : (b = true ∧ u = .nilIface) ∨ (b = false ∧ ∃ v, u = .iface T v) := by
  cases b with
  | true => exact .inl ⟨rfl, h.p_inv.1⟩
  | false =>
    refine .inr ⟨rfl, ?_⟩
    have h' : VRep w F β u (.iface T .undef) := h
    generalize hx : V.iface T .undef = x at h'
    cases h' with
    | fr g => subst hx; cases g; exact ⟨_, rfl⟩
    | iface g => cases hx; exact ⟨_, rfl⟩
    | undef => cases hx
    | _ => cases hx
theorem ofVal_nilIface {v : Value} (h : ofVal v = .p .nilIface) : v = .nilIface := by
  have := (vrep_ofVal (w := default) (F := fun _ => False) (β := fun _ => none) v)
  rw [h] at this
  exact this.p_inv.1
theorem GRep.notn {w : World} {F : Nat → Prop} (h : GRep w F) {g : Nat} (e : globV g = .p .nilIface) : False := by
  rcases h.1 g with q | q
  · rw [e] at q; cases q
  · rw [e] at q
    generalize hv : Value.pointer (some ⟨g, 0, none⟩) = v at q
    cases q
    cases hv
theorem run_equalIn_nil {t : TypeId} {ms : Array (String × TypeId)} (hu : P.underlying t = some (.interface ms)) (d : Nat) (w : World) : (Op.equalIn (d + 1) t .nilIface .nilIface).run P w = .ok true w := by
  simp only [Op.equalIn, Sem.run_bind, run_underlying hu, Result.andThen_ok, Sem.run_pure]
theorem run_equalIn_iface {t : TypeId} {ms : Array (String × TypeId)} (hu : P.underlying t = some (.interface ms)) (d : Nat) (T : TypeId) (v : Value) (w : World) : (Op.equalIn (d + 1) t (.iface T v) .nilIface).run P w = .ok false w := by
  simp only [Op.equalIn, Sem.run_bind, run_underlying hu, Result.andThen_ok, Sem.run_pure]
theorem xcond_err {fr : Fr} {t : Nat} {T : TypeId} {b : Bool} (h : fget fr t = errV T b) : xcond fr (.t t) = true := by
  show condOf (fget fr t) = true
  rw [h]
  cases b <;> rfl
theorem tau_err {fr : Fr} {t : Nat} {T : TypeId} {b : Bool} (h : fget fr t = errV T b) : tau (fget fr) (.t t) = errV T b := by
  show strip (fget fr t) = errV T b
  rw [h]
  cases b <;> rfl
def ifT (P : Program) (ops : Array Oper) (i : Nat) : Bool := match ops[i]? with
  | some o => match o.op with
    | .binOp _ t _ _ _ => match P.underlying t with
      | some (.interface _) => true
      | _ => false
    | _ => false
  | none => false
section
variable {ops : Array Oper} {i : Nat} {S : St} {d : Option Nat} {x : X} {args : List X} {kd : Nat} {gd : Option (Nat × Bool)} {b g : Bool} {t : Nat} {want : Bool} {T : TypeId}
theorem err_run {o : Oper} (neg : Bool) (ho : ops[i]? = some o) (hco : compIO P ops o = some ⟨d, .bin (cond neg .neq .eql) false x (.c (.p .nilIface)), gd, args, kd⟩) (hT : ifT P ops i = true) (hx : tau (fget S.fr) x = errV T b) (hcd : Conds S.fr args)
    {w : World} {F : Nat → Prop} {β : Beta} {a : Act} (hgl : GRep w F) (hfr : ∀ t ∈ o.looksAt ops, VRep w F β (a.tmps.getD t Go.undef) (fget S.fr t)) : (execOp a.eval o).run P w = .ok (.value (.bool (cond neg (!b) b))) w := by
  obtain ⟨c1, c2, c3, c5, c4⟩ := comp_facts hco
  simp only [ifT, ho] at hT
  split at hT
  · rename_i op' t x' y' yt hop
    split at hT
    · rename_i ms hu
      rw [hop] at c1
      simp only [compileOp?, Option.some.injEq, IOp.bin.injEq] at c1
      obtain ⟨h0, _, h3, h4⟩ := c1
      have hxv : VRep w F β (a.eval x') (tau (fget S.fr) (toX x')) := by
        refine vrep_operand hgl (fun t e => hfr t ?_) ?_
        · subst e
          exact List.mem_append_left _ (List.mem_filterMap.2 ⟨.tmp t, by simp [hop, Op.operands], rfl⟩)
        · have := args_all c3 hcd.all
          rw [List.all_eq_true] at this
          exact this x' (by simp [hop, Op.operands])
      rw [h3, hx] at hxv
      have hy : a.eval y' = .nilIface ∧ (∃ v, y' = .const v) := by
        cases y' with
        | const v' => simp only [toX, X.c.injEq] at h4; exact ⟨ofVal_nilIface h4, v', rfl⟩
        | tmp _ => cases h4
        | func _ => simp [toX] at h4
        | global _ => simp only [toX, X.c.injEq] at h4; exact (hgl.notn h4).elim
      obtain ⟨hy, v', rfl⟩ := hy
      have main : ∀ u, u = a.eval x' → (Op.equal t u .nilIface).run P w = .ok b w ∧ (eqGuard op' t x' (.const v') u .nilIface).run P w = .ok () w ∧ ∀ q : Bool, (cond q (do pure (Value.bool (!(← Op.equal t u .nilIface)))) (do pure (Value.bool (← Op.equal t u .nilIface))) : Sem Value) = binOp (cond q .neq .eql) t u .nilIface := by
        intro u hu2
        rw [← hu2] at hxv
        rcases hxv.err_inv with ⟨rfl, rfl⟩ | ⟨rfl, v, rfl⟩
        · refine ⟨run_equalIn_nil hu 9999 w, ?_, fun q => by cases q <;> rfl⟩
          unfold eqGuard
          cases op' <;> cases x' <;> rfl
        · refine ⟨run_equalIn_iface hu 9999 T v w, ?_, fun q => by cases q <;> rfl⟩
          unfold eqGuard
          cases op' <;> rfl
      obtain ⟨m1, m2, m3⟩ := main _ rfl
      have he : (binOp op' t (a.eval x') .nilIface).run P w = .ok (.bool (cond neg (!b) b)) w := by
        rw [h0, ← m3 neg]
        cases neg
        · simp only [cond_false, Sem.run_bind, m1, Result.andThen_ok, Sem.run_pure]
        · simp only [cond_true, Sem.run_bind, m1, Result.andThen_ok, Sem.run_pure]
      simp only [execOp, hop, hy, Sem.run_bind, m2, Result.andThen_ok, he, Sem.run_pure]
    · cases hT
  · cases hT
theorem OpRun.err {o : Oper} (neg : Bool) (ho : ops[i]? = some o) (hco : compIO P ops o = some ⟨d, .bin (cond neg .neq .eql) false x (.c (.p .nilIface)), gd, args, kd⟩) (hT : ifT P ops i = true) (hg : gval S.fr gd = some true) (hx : tau (fget S.fr) x = errV T b) (hcd : Conds S.fr args) {σ : Sig} :
    OpRun P ops i (fget S.fr) σ (fun _ => False) (vb (cond neg (!b) b)) σ := by
  intro w F β Av a Q K o' ho' hfr hr _ hK
  rw [ho] at ho'; cases ho'
  have hw := wanted_of hfr (((comp_facts hco).2.2.2.2 S.fr).trans hg)
  unfold wpOp
  simp only [ho, hw, if_true]
  left
  unfold Oper.wp
  rw [err_run neg ho hco hT hx hcd hr.gl hfr]
  exact hK _ w F β (hr.av_mono fun n h => h.1) (.fr (.p rfl)) (Evolve.refl _ _ _ _)
theorem OpRun1.err {o : Oper} (neg : Bool) (ho : ops[i]? = some o) (hco : compIO P ops o = some ⟨d, .bin (cond neg .neq .eql) false x (.c (.p .nilIface)), gd, args, kd⟩) (hT : ifT P ops i = true) (hg : gval S.fr gd = some true) (hx : tau (fget S.fr) x = errV T b) (hcd : Conds S.fr args) :
    OpRun1 P ops i (fget S.fr) S.ob (vb (cond neg (!b) b)) S.ob := by
  intro w F β a Q K o' ho' hfr hr hK
  rw [ho] at ho'; cases ho'
  have hw := wanted_of hfr (((comp_facts hco).2.2.2.2 S.fr).trans hg)
  unfold wpOp
  simp only [ho, hw, if_true]
  left
  unfold Oper.wp
  rw [err_run neg ho hco hT hx hcd hr.gl hfr]
  exact hK _ w F β hr (.fr (.p rfl)) (Evolve.refl _ _ _ _)
theorem Op1.err (neg : Bool) (hc : compAt P sz ops i = some ⟨d, .bin (cond neg .neq .eql) false x (.c (.p .nilIface)), gd, args, kd⟩) (hT : ifT P ops i = true)
    (hg : gval S.fr gd = some true) (hx : tau (fget S.fr) x = errV T b) (hcd : Conds S.fr args) : Op1 P sz ops i S d (vb (cond neg (!b) b)) S.ob :=
  ⟨_, hc, rfl, Nat.le_refl _, fun ⟨_, ho, hco⟩ => OpRun1.err neg ho hco hT hg hx hcd⟩
theorem OpD.err (neg : Bool) (hc : compAt P sz ops i = some ⟨d, .bin (cond neg .neq .eql) false x (.c (.p .nilIface)), gd, args, kd⟩) (hT : ifT P ops i = true)
    (hg : gval S.fr gd = some true) (hx : tau (fget S.fr) x = errV T b) (hcd : Conds S.fr args) : OpD P sz ops i S d (vb (cond neg (!b) b)) [] [] (S.ob ++ [none]) := by
  obtain ⟨⟨o, ho', hco⟩, _, _⟩ := compAt_facts hc
  refine ⟨_, hc, rfl, by simp, fun n _ => oget_none_append _ _, fun σ h1 h2 => ?_⟩
  rw [ifnil]
  exact OpRun.pad (OpRun.err neg ho' hco hT hg hx hcd)
end
end
section
open Go Go.Sort Go.Proofs
set_option linter.all false
end
section
open Go Go.RowKit
variable {P : Program} {k : FuncId}
def newF (F : Nat → Prop) (w w' : World) : Nat → Prop := fun b => F b ∨ (w.heap.size ≤ b ∧ b < w'.heap.size)
theorem Rep.fresh {w w' : World} {F : Nat → Prop} {β : Beta} {σ : Sig} {Av : Nat → Prop} (hr : Rep w F β σ Av) (hb : Below w.heap.size w w') : Rep w' (newF F w w') β σ Av ∧ Evolve w F β σ w' (newF F w w') β σ := by
  have hF : ∀ b, F b → w'.heap[b]? = w.heap[b]? := fun b h => hb.block b (hr.falloc b h)
  refine ⟨⟨fun b h => ?_, hr.dom, fun n o h => ?_, hr.sep, hr.gl.mono (fun _ h => .inl h) hF⟩, ⟨hb.os, hb.tape, hb.output, hb.size, fun _ _ h => h, fun _ h => .inl h, fun b h _ => hb.block b h, fun b h g => ?_, fun _ _ h => h⟩⟩
  · rcases h with h | h
    · exact Nat.lt_of_lt_of_le (hr.falloc b h) hb.size
    · exact h.2
  · obtain ⟨l, g1, g2, g3⟩ := hr.obj n o h
    refine ⟨l, g1, g2.mono (fun _ h => .inl h) hF (fun _ _ h => h) (fun b h => hb.block b (g3 b h).2), fun b h => ⟨?_, Nat.lt_of_lt_of_le (g3 b h).2 hb.size⟩⟩
    rintro (q | q)
    · exact (g3 b h).1 q
    · have := (g3 b h).2; omega
  · rcases g with g | g
    · exact .inl g
    · omega
theorem plain_args {w : World} {F : Nat → Prop} {β : Beta} {args : Array Value} {vs : List Value} (h : CellsRep w F β args (vs.map V.p)) : args = vs.toArray := by
  obtain ⟨h1, h2⟩ := h
  rw [List.length_map] at h1 h2
  refine Array.ext (by simpa using h1) fun j hj hj' => ?_
  have hv := h2 j (by omega)
  have e : nth (vs.map V.p) j = .p (vs[j]'(by omega)) := by simp [nth, List.getD, List.getElem?_map, List.getElem?_eq_getElem (show j < vs.length by omega)]
  rw [e] at hv
  have := hv.p_inv.1
  rw [show args.getD j Go.undef = args[j] by simp [Array.getD, hj]] at this
  simpa using this
theorem FnL_lib (hE : ∀ args w, (callFunc k args).run P w = .ok (.enter k args) w) {vs : List Value} {y : V}
    (C : ∀ w F, GRep w F → Calls P k vs.toArray w fun e w' => ∃ v, e = .returned v ∧ Below w.heap.size w w' ∧ ∀ β, VRep w' (newF F w w') β v y) : FnL P k (vs.map V.p) [] y [] := by
  refine ⟨hE, Nat.le_refl _, fun j hj => by simp at hj, fun w F β args hr hc => ?_⟩
  rw [plain_args hc]
  refine (C w F hr.gl).mono ?_
  rintro e w' ⟨v, rfl, hb, hv⟩
  obtain ⟨r1, ev⟩ := hr.fresh hb
  exact ⟨v, _, β, rfl, r1, hv β, ev⟩
theorem frep_strings {w' : World} {F : Nat → Prop} {b n : Nat} {T : TypeId} {z : Nat × Nat} {l : List Str} (hF : F b) (hn : l.length ≤ n) (h : w'.heap[b]? = some (.cells (l.map fun s => Value.string ⟨⟨s⟩⟩).toArray T z)) : FRep w' F (.slice (some ⟨b, 0, none⟩) l.length n) (eS 1 vt l) := by
  by_cases h0 : l.length = 0
  · have : l = [] := List.eq_nil_of_length_eq_zero h0
    subst this
    exact .sl0
  · have hlen : (l.map vt).length = l.length := by simp
    have hnth : ∀ i, i < l.length → nth (l.map vt) i = vt (l.getD i []) := fun i hi => by simp [nth, List.getD, hi]
    have := FRep.sl (w := w') (F := F) (b := b) (off := 0) (cap := n) (k := 1) (es := l.map vt) (fun i j => .string ⟨⟨l.getD i []⟩⟩) (by rw [hlen]; omega) (by rw [hlen]; exact hn) hF Nat.one_pos
      (fun i hi => by rw [hnth i (by rw [hlen] at hi; exact hi)]; exact ⟨rfl, by simp [V.flat, vt, one]⟩)
      (fun i j hi hj => by
        have : j = 0 := by omega
        subst this
        rw [hlen] at hi
        rw [show 0 + i * 1 + 0 = i by omega]
        simp [World.cell?, h, List.getD, hi])
      (fun i j hi hj => by
        have : j = 0 := by omega
        subst this
        rw [hnth i (by rw [hlen] at hi; exact hi)]
        exact .p rfl)
    rw [hlen] at this
    exact this
theorem strings_cells {w : World} {F : Nat → Prop} {v : Value} {l : List Str} (h : FRep w F v (eS 1 vt l)) : (∃ a cap, l = [] ∧ v = .slice a 0 cap) ∨ ∃ b off cap, F b ∧ l.length ≤ cap ∧ v = .slice (some ⟨b, off, none⟩) l.length cap ∧ ∀ j s, l[j]? = some s → w.cell? ⟨b, off + j, none⟩ = some (.string ⟨⟨s⟩⟩) := by
  have h' : FRep w F v (.sl 1 (l.map vt)) := h
  clear h
  generalize hL : l.map vt = L at h'
  cases h' with
  | sl0 =>
    have : l = [] := by
      cases l with
      | nil => rfl
      | cons _ _ => cases hL
    exact .inl ⟨_, _, this, rfl⟩
  | @sl b off cap _ _ us hne hcap hF hk hflat hcell hrep =>
    subst hL
    refine .inr ⟨b, off, cap, hF, by simpa using hcap, by simp, fun j s hj => ?_⟩
    have hj' : j < l.length := by
      rcases Nat.lt_or_ge j l.length with h | h
      · exact h
      · rw [List.getElem?_eq_none h] at hj; cases hj
    have h1 := hcell j 0 (by simpa using hj') Nat.one_pos
    have h2 := hrep j 0 (by simpa using hj') Nat.one_pos
    have e : nth (nth (l.map vt) j).flat 0 = vt s := by
      have : nth (l.map vt) j = vt s := by simp [nth, List.getD, hj]
      rw [this]; rfl
    rw [e] at h2
    have h3 := (VRep.fr (β := fun _ => none) h2).p_inv.1
    rw [Nat.mul_one, Nat.add_zero] at h1
    rw [h1, h3]
end
section
open Go Go.RowKit
def lineH : Str → Str
  | [] => []
  | c :: r => bif c == 10 then [c] else c :: lineH r
def lineT : Str → Str
  | [] => []
  | c :: r => bif c == 10 then r else lineT r
theorem lineT_lt : ∀ (s : Str), s ≠ [] → (lineT s).length < s.length
  | [], h => absurd rfl h
  | c :: r, _ => by
    rw [lineT]
    cases hc : c == 10 with
    | true => simp
    | false =>
      rw [cond_false]
      cases r with
      | nil => simp [lineT]
      | cons d r => have := lineT_lt (d :: r) (by simp); simp at this ⊢; omega
def linesN : Nat → Str → List Str
  | 0, _ => []
  | n + 1, s => match s with
    | [] => []
    | c :: r => lineH (c :: r) :: linesN n (lineT (c :: r))
def linesL (s : Str) : List Str := linesN s.length s
theorem linesN_more : ∀ (n m : Nat) (s : Str), s.length ≤ n → s.length ≤ m → linesN n s = linesN m s
  | 0, m, s, h, _ => by
    have : s = [] := List.eq_nil_of_length_eq_zero (by omega)
    subst this; cases m <;> rfl
  | n + 1, 0, s, _, h => by
    have : s = [] := List.eq_nil_of_length_eq_zero (by omega)
    subst this; rfl
  | n + 1, m + 1, s, h, g => by
    cases s with
    | nil => rfl
    | cons c r =>
      have := lineT_lt (c :: r) (by simp)
      simp only [linesN]
      rw [linesN_more n m _ (by omega) (by omega)]
theorem linesL_nil : linesL [] = [] := rfl
theorem linesL_cons {s : Str} (h : s ≠ []) : linesL s = lineH s :: linesL (lineT s) := by
  have hl := lineT_lt s h
  cases s with
  | nil => exact absurd rfl h
  | cons c r =>
    unfold linesL
    show linesN (r.length + 1) (c :: r) = _
    simp only [linesN]
    rw [linesN_more r.length (lineT (c :: r)).length _ (by simp at hl; omega) (Nat.le_refl _)]
def linK {α R : Type} (f : Str → (α → Option R) → α → Option R) (k : α → Option R) : List Str → α → Option R
  | [], t => k t
  | x :: r, t => f x (linK f k r) t
def LinesC (P : Program) (gf : FuncId) : Prop := ∀ (l bc oc : Nat) (J : Str → World → Prop) (Y : Str → Str → World → Prop) (Jx : World → Prop),
  (∀ r W, J r W → W.cell? ⟨bc, oc, none⟩ = some (.string ⟨⟨r⟩⟩) ∧ W.frozen? ⟨bc, oc, none⟩ = false) → (∀ r W, J r W → J r W.drew) →
  (∀ r W, J r W → r ≠ [] → Y (lineH r) (lineT r) (W.setCell ⟨bc, oc, none⟩ (.string ⟨⟨lineT r⟩⟩))) →
  (∀ x r W, Y x r W → YieldAt Fence.wide 0 P l #[.string ⟨⟨x⟩⟩] W fun e W' => (e = .returned (.bool true) ∧ J r W') ∨ (e = .returned (.bool false) ∧ Jx W')) →
  ∀ r W, r.length ≤ 4611686018427387904 → J r W → CallsIn Fence.wide 0 P gf #[.func (.yield l) #[] #[], .pointer (some ⟨bc, oc, none⟩)] W fun e W' => (∃ v, e = .returned v) ∧ (J [] W' ∨ Jx W')
section
variable {P : Program} {sz : Nat} {df : Rd} {m : Nat} {w w' : World} {F F' : Nat → Prop} {β : Beta} {σ : Sig} {Av : Nat → Prop}
theorem Rep.env (hr : Rep w F β σ Av) (hz : w.heap.size ≤ w'.heap.size) (hF : ∀ x, F x → F' x) (hN : ∀ x, F' x → ¬ F x → w.heap.size ≤ x ∧ x < w'.heap.size)
    (hh : ∀ x, x < w.heap.size → F x ∨ owned σ β x → w'.heap[x]? = w.heap[x]?) : Rep w' F' β σ Av := by
  have hFw : ∀ x, F x → w'.heap[x]? = w.heap[x]? := fun x hx => hh x (hr.falloc x hx) (.inl hx)
  refine ⟨fun x hx => ?_, hr.dom, fun n o hn => ?_, hr.sep, hr.gl.mono hF hFw⟩
  · by_cases h : F x
    · exact Nat.lt_of_lt_of_le (hr.falloc x h) hz
    · exact (hN x hx h).2
  · obtain ⟨l, h1, h2, h3⟩ := hr.obj n o hn
    refine ⟨l, h1, h2.mono hF hFw (fun _ _ h => h) (fun x hx => hh x (h3 x hx).2 (.inr ⟨n, o, l, hn, h1, hx⟩)), fun x hx => ⟨fun g => ?_, Nat.lt_of_lt_of_le (h3 x hx).2 hz⟩⟩
    by_cases h : F x
    · exact (h3 x hx).1 h
    · have := (hN x g h).1; have := (h3 x hx).2; omega
theorem Cur.env {b : Base} {S : St} {a a' : Act} (hc : Cur m sz df b S w F β a) (ho : w'.os = w.os) (ht : w'.tape = w.tape) (hou : w'.output = w.output) (hz : w.heap.size ≤ w'.heap.size) (hF : ∀ x, F x → F' x)
    (hN : ∀ x, F' x → ¬ F x → w.heap.size ≤ x ∧ x < w'.heap.size) (hh : ∀ x, x < w.heap.size → (F x ∨ owned (oget S.ob) β x) ∨ x < b.w.heap.size → w'.heap[x]? = w.heap[x]?) (hat : a'.tmps = a.tmps)
    (hm : Marks df.n0 w' F' a'.defers) : Cur m sz df b S w' F' β a' := by
  have hFw : ∀ x, F x → w'.heap[x]? = w.heap[x]? := fun x hx => hh x (hc.rep.falloc x hx) (.inl (.inl hx))
  refine ⟨hc.le, ⟨by rw [hat]; exact hc.fr.1, hm, fun t => by rw [hat]; exact (hc.fr.2.2 t).mono hF hFw (fun _ _ h => h)⟩, hc.rep.env hz hF hN (fun x hx h => hh x hx (.inl h)), ?_⟩
  refine ⟨ho.trans hc.ev.os, ht.trans hc.ev.tape, hou.trans hc.ev.output, Nat.le_trans hc.ev.size hz, hc.ev.beta, fun x hx => hF x (hc.ev.frozen x hx), fun x hx hn => (hh x (Nat.lt_of_lt_of_le hx hc.ev.size) (.inr hx)).trans (hc.ev.block x hx hn), fun x hx h => ?_, hc.ev.ownd⟩
  by_cases g : F x
  · exact hc.ev.newF x hx g
  · have := (hN x h g).1; have := hc.ev.size; omega
theorem Cur.step {b : Base} {S : St} {a : Act} {ob' : Objs} {β' : Beta} (hc : Cur m sz df b S w F β a) (hle : S.ob.length ≤ ob'.length) (hr : Rep w' F' β' (oget ob') (fun n => ob'.length ≤ n)) (he : Evolve w F β (oget S.ob) w' F' β' (oget ob')) :
    Cur m sz df b ⟨S.fr, ob'⟩ w' F' β' a :=
  ⟨Nat.le_trans hc.le hle, ⟨hc.fr.1, hc.fr.2.1.mono he.frozen (he.fheap hc.rep) he.size, fun t => he.vrep hc.rep (hc.fr.2.2 t)⟩, hr, hc.ev.trans he⟩
theorem Cov.owned {S S' : St} {rs : List Nat} (hc : Cov m S S' rs) {β : Beta} : ∀ b, owned (oget S'.ob) (fun n => β (rho S.ob.length rs n)) b → owned (oget S.ob) β b := by
  rintro b ⟨n, o, l, h1, h2, h3⟩
  have hn : n < rs.length := by rw [hc.len]; exact oget_some (by simp [h1])
  have hρ1 : rho S.ob.length rs n = rs.getD n 0 := by simp [rho, hn]
  rcases hc.ob n hn with k | k
  · rw [h1] at k; cases k
  · rw [h1] at k
    simp only [hρ1] at h2
    exact ⟨_, _, l, k, h2, h3⟩
theorem setCell_setRow {w : World} {b off : Nat} {cs : Array Value} {T : TypeId} {z : Nat × Nat} (h : w.heap[b]? = some (.cells cs T z)) (v : Value) : w.setCell ⟨b, off, none⟩ v = w.setRow b (cs.setIfInBounds off v) := by
  unfold World.setCell World.setRow
  congr 1
  apply Array.ext_getElem?
  intro i
  simp only [Array.getElem?_modify]
  by_cases e : b = i
  · subst e; simp [h]
  · simp [e]
def jumpOf : Exit → Option Code
  | .ret => some .ret
  | .exit id => some (.exit id)
  | _ => none
theorem TriE.lines {α R : Type} {tg p gf nc : Nat} {assign body : Code} {frE : Fr} {s : Str} {f : Str → (α → Option R) → α → Option R} {k : α → Option R} {t0 : α} {res : R} {Q : PostS} (h : linK f k (linesL s) t0 = some res)
    (st : Str → α → Objs) (frB : Str → Fr) (hro : df.ro = none) (hP : LinesC P gf) (hE : ∀ args w, (callFunc gf args).run P w = .ok (.enter gf args) w)
    (hg : fget frE tg = .fn (.func gf) [] [.ptr nc 0 0]) (hnc : ∀ r t, oget (st r t) nc = some (.row 1 [vt r])) (hset : ∀ r r' t, (st r t).set nc (some (.row 1 [vt r'])) = st r' t) (hp : p < sz) (hlen : s.length ≤ 4611686018427387904)
    (hassign : ∀ l x r t, TriE P sz ⟨some l, 0⟩ (st r t).length assign ⟨(p, vt x) :: frE, st r t⟩ (fun e S' => e = .normal ∧ S' = ⟨frB x, st r t⟩))
    (hbody : ∀ l x r t back, f x back t = some res → TriE P sz ⟨some l, 0⟩ (st r t).length body ⟨frB x, st r t⟩ (fun e S' => match e with
      | .normal => ∃ t' rs, Cov m ⟨frE, S'.ob⟩ ⟨frE, st r t'⟩ rs ∧ back t' = some res
      | e => ∃ c, jumpOf e = some c ∧ Q e ⟨frE, S'.ob⟩))
    (hdone : ∀ t, k t = some res → Q .normal ⟨frE, st [] t⟩) : TriE P sz df m (.rangeFunc (.tmp tg) #[p] assign body) ⟨frE, st s t0⟩ Q := by
  intro b hb w F β a hc
  obtain ⟨us, vs, e1, l1, l2, _, hv⟩ := (show VRep w F β (a.tmps.getD tg Go.undef) (.fn (.func gf) [] [.ptr nc 0 0]) from hg ▸ hc.fr.2.2 tg).fn_inv
  obtain rfl : us = #[] := Array.eq_empty_of_size_eq_zero l1
  obtain ⟨v0, rfl⟩ : ∃ v, vs = #[v] := by
    obtain ⟨l⟩ := vs
    match l, l2 with
    | [v], _ => exact ⟨v, rfl⟩
  obtain ⟨bc, s0, k0, sz0, _, hv0⟩ := (show VRep w F β v0 (.ptr nc 0 0) from hv 0 (by simp)).ptr_inv
  obtain ⟨oc, hoc⟩ : ∃ oc, oc = s0 + 0 * k0 + 0 := ⟨_, rfl⟩
  rw [← hoc] at hv0
  subst hv0
  have hcf : ∀ {r : Str} {t : α} {W : World} {F : Nat → Prop} {β : Beta} {aM : Act}, Cur m sz df b ⟨frE, st r t⟩ W F β aM → aM.tmps = a.tmps →
      ∃ sz' cs T, β nc = some (.at bc oc 1 sz') ∧ W.heap[bc]? = some (.cells cs T (0, 0)) ∧ cs.size = sz' ∧ oc + 1 ≤ sz' ∧ cs.getD oc Go.undef = .string ⟨⟨r⟩⟩ := by
    intro r t W F β aM hcur hta
    have hv := (show VRep W F β (aM.tmps.getD tg Go.undef) (.fn (.func gf) [] [.ptr nc 0 0]) from hg ▸ hcur.fr.2.2 tg)
    rw [hta, e1] at hv
    obtain ⟨us', vs', e2, _, _, _, hv'⟩ := hv.fn_inv
    cases e2
    obtain ⟨b2, s2, k2, sz2, hβ2, hv2⟩ := (show VRep W F β (.pointer (some ⟨bc, oc, none⟩)) (.ptr nc 0 0) from hv' 0 (by simp)).ptr_inv
    obtain ⟨l, hl, ho, _⟩ := hcur.rep.obj nc _ (hnc r t)
    rw [hβ2] at hl; cases hl
    obtain ⟨hk, cs, T, h1, h2, h3, h4, h5, h6⟩ := ho
    subst hk
    have hb2 : b2 = bc := by cases hv2; rfl
    subst hb2
    have ho2 : oc = s2 := by
      have : oc = s2 + 0 * 1 + 0 := by
        have h : (some ⟨b2, oc, none⟩ : Option Addr) = some ⟨b2, s2 + 0 * 1 + 0, none⟩ := by injection hv2
        exact congrArg Addr.off (Option.some.inj h)
      omega
    subst ho2
    refine ⟨sz2, cs, T, hβ2, h1, h2, by simpa using h4, ?_⟩
    have := h6 0 0 (by simp) (by decide)
    simp only [Nat.zero_mul, Nat.add_zero] at this
    exact (show VRep W F β _ (vt r) from this).p_inv.1
  show wpR P df.ro _ _ a w
  rw [hro]
  refine wpIn_rangeFunc ?_
  intro fn hfn
  obtain ⟨rec, hrec⟩ : ∃ rec : LoopState → Option Code → Loop, rec = fun st pe => { state := st, pending := pe, fn, tmps := a.tmps, params := #[p], assign, body, defers := w.heap.size } := ⟨_, rfl⟩
  obtain ⟨l, hl⟩ : ∃ l, l = w.heap.size + 1 := ⟨_, rfl⟩
  obtain ⟨aM, haM⟩ : ∃ aM : Act, aM = { a with defers := [{ target := .collected w.heap.size, args := #[] }] ++ a.defers } := ⟨_, rfl⟩
  have haT : aM.tmps = a.tmps := by rw [haM]
  obtain ⟨W1, hW1⟩ : ∃ W1, (w.alloc (.deferred (some []))).alloc (.loop (rec .ready none)) = W1 := ⟨_, rfl⟩
  have hW1s : W1.heap.size = w.heap.size + 2 := by rw [← hW1]; simp
  have hW1o : ∀ x, x < w.heap.size → W1.heap[x]? = w.heap[x]? := fun x hx => by
    rw [← hW1]
    exact (heap_alloc_old _ _ (by simp; omega)).trans (heap_alloc_old _ _ hx)
  have hL1 : W1.heap[l]? = some (.loop (rec .ready none)) := by
    rw [← hW1, hl]; have := World.alloc_heap_new (w.alloc (.deferred (some []))) (.loop (rec .ready none)); rwa [World.size_alloc] at this
  have hD1 : W1.heap[w.heap.size]? = some (.deferred (some [])) := by
    rw [← hW1]; exact (heap_alloc_old _ _ (by simp)).trans (World.alloc_heap_new w _)
  have hownlt : ∀ {W : World} {F : Nat → Prop} {β : Beta} {ob : Objs}, Rep W F β (oget ob) (fun n => ob.length ≤ n) → ∀ x, owned (oget ob) β x → x < W.heap.size := fun hr x ⟨n, o, l, h1, h2, h3⟩ => by
    obtain ⟨l', e, _, hn⟩ := hr.obj n o h1
    rw [h2] at e; cases e
    exact (hn x h3).2
  have hc1 : Cur m sz df b ⟨frE, st s t0⟩ W1 (fun x => F x ∨ x = w.heap.size) β aM := by
    have e : W1.os = w.os ∧ W1.tape = w.tape ∧ W1.output = w.output := by rw [← hW1]; exact ⟨rfl, rfl, rfl⟩
    refine Cur.env (w' := W1) (F' := fun x => F x ∨ x = w.heap.size) hc e.1 e.2.1 e.2.2 (by omega) (fun x hx => .inl hx) (fun x hx hn => ?_) (fun x hx _ => hW1o x hx) haT ?_
    · rcases hx with hx | hx
      · exact absurd hx hn
      · subst hx; omega
    · obtain ⟨⟨hm0, hm1⟩, hm2⟩ := hc.fr.2.1
      rw [haM]
      refine ⟨⟨by omega, List.nodup_cons.2 ⟨fun hmem => ?_, hm1⟩⟩, fun d hd => ?_⟩
      · obtain ⟨D, hd1, hd2, hd3, hd4⟩ := hm2 _ hmem
        have : D = w.heap.size := by cases hd1; rfl
        subst this
        exact absurd (hc.rep.falloc _ hd3) (Nat.lt_irrefl _)
      · rcases List.mem_cons.1 hd with rfl | hd
        · exact ⟨_, rfl, hm0, .inr rfl, hD1⟩
        · obtain ⟨D, hd1, hd2, hd3, hd4⟩ := hm2 _ hd
          exact ⟨D, hd1, hd2, .inl hd3, (hW1o D (hc.rep.falloc _ hd3)).trans hd4⟩
  let J : Str → World → Prop := fun r W => ∃ t F β, Cur m sz df b ⟨frE, st r t⟩ W F β aM ∧ linK f k (linesL r) t = some res ∧ W.heap[l]? = some (.loop (rec .ready none)) ∧ ¬ F l ∧ ¬ owned (oget (st r t)) β l
  let Y : Str → Str → World → Prop := fun x r W => ∃ t F β, Cur m sz df b ⟨frE, st r t⟩ W F β aM ∧ f x (linK f k (linesL r)) t = some res ∧ W.heap[l]? = some (.loop (rec .ready none)) ∧ ¬ F l ∧ ¬ owned (oget (st r t)) β l
  let Jx : World → Prop := fun W => ∃ e c S F β, jumpOf e = some c ∧ Q e S ∧ Cur m sz df b S W F β aM ∧ W.heap[l]? = some (.loop (rec .done (some c))) ∧ ¬ F l ∧ ¬ owned (oget S.ob) β l
  have hbl : b.w.heap.size ≤ l := by have := hc.ev.size; omega
  have hJ1 : J s W1 := by
    refine ⟨t0, _, β, hc1, h, hL1, ?_, fun ho => ?_⟩
    · rintro (g | g)
      · have := hc.rep.falloc _ g; omega
      · omega
    · have := hownlt hc.rep _ ho; omega
  have hput : ∀ {S : St} {W : World} {F : Nat → Prop} {β : Beta} {o0 : Obj} (o : Obj), Cur m sz df b S W F β aM → W.heap[l]? = some o0 → ¬ F l → ¬ owned (oget S.ob) β l → Cur m sz df b S (W.putObj l o) F β aM := by
    intro S W F β o0 o hcur ho0 hF ho
    have hother : ∀ x, x ≠ l → (W.putObj l o).heap[x]? = W.heap[x]? := fun x hx => World.putObj_heap_other hx
    refine Cur.env hcur rfl rfl rfl (by simp) (fun _ h => h) (fun x h1 h2 => absurd h1 h2) (fun x hx hd => hother x ?_) rfl ?_
    · rintro rfl
      rcases hd with (hd | hd) | hd
      · exact hF hd
      · exact ho hd
      · omega
    · exact hcur.fr.2.1.mono (fun _ h => h) (fun x hx => hother x (by rintro rfl; exact hF hx)) (by simp)
  have hround : ∀ x r W, Y x r W → YieldAt Fence.wide 0 P l #[.string ⟨⟨x⟩⟩] W fun e W' => (e = .returned (.bool true) ∧ J r W') ∨ (e = .returned (.bool false) ∧ Jx W') := by
    rintro x r W ⟨t, F1, β1, hcur, hres, hlW, hFl, hol⟩
    have hy := run_yield (P := P) (args := #[.string ⟨⟨x⟩⟩]) hlW (by rw [hrec]; rfl)
    rw [hrec] at hy
    refine ⟨fn, _, assign, body, hy, roundIn_of_wpIn trivial ?_⟩
    clear hy
    have hlt : l < W.heap.size := (Array.getElem?_eq_some_iff.1 hlW).1
    obtain ⟨T0, hT0⟩ : ∃ T0, T0 = (#[p].zip #[Value.string ⟨⟨x⟩⟩]).foldl (fun tmps (t, a) => tmps.setIfInBounds t a) a.tmps := ⟨_, rfl⟩
    have hT0' : T0 = a.tmps.setIfInBounds p (.string ⟨⟨x⟩⟩) := by rw [hT0]; simp
    have hcA : Cur (st r t).length sz ⟨some l, 0⟩ ⟨W, F1, β1, oget (st r t)⟩ ⟨(p, vt x) :: frE, st r t⟩ W F1 β1 { tmps := T0, defers := [] } := by
      refine ⟨Nat.le_refl _, ⟨by rw [hT0']; simp [← haT, hcur.fr.1], Marks.nil (Nat.zero_le _), fun u => ?_⟩, hcur.rep, Evolve.refl _ _ _ _⟩
      show VRep W F1 β1 (T0.getD u Go.undef) (fget ((p, vt x) :: frE) u)
      rw [fget_cons]
      by_cases hu : p = u
      · subst hu
        have hps : p < a.tmps.size := by rw [← haT, hcur.fr.1]; exact hp
        have : T0.getD p Go.undef = .string ⟨⟨x⟩⟩ := by rw [hT0']; simp [Array.getD_eq_getD_getElem?, hps]
        rw [this, if_pos rfl]
        exact .fr (.p rfl)
      · have : T0.getD u Go.undef = a.tmps.getD u Go.undef := by rw [hT0']; simp [Array.getD_eq_getD_getElem?, Array.getElem?_setIfInBounds_ne hu]
        rw [this, if_neg hu, ← haT]
        exact hcur.fr.2.2 u
    have hA := hassign l x r t ⟨W, F1, β1, oget (st r t)⟩ (fun n hn => hcur.rep.dom n hn) W F1 β1 _ hcA
    rw [hT0] at hA
    refine wpIn_mono hA ?_
    intro e a2 W2 hq
    cases e with
    | normal =>
      obtain ⟨S2, F2, β2, ⟨_, rfl⟩, hc2⟩ := hq
      have hlW2 : W2.heap[l]? = some (.loop (rec .ready none)) := (hc2.ev.block l hlt hol).trans hlW
      have hFl2 : ¬ F2 l := fun g => (hc2.ev.newF l hlt g).elim hFl hol
      have hol2 : ¬ owned (oget (st r t)) β2 l := fun g => hol (hc2.ev.ownd l hlt g)
      have hM2 : Cur m sz df b ⟨frE, st r t⟩ W2 F2 β2 aM := hcur.step (S := ⟨frE, st r t⟩) (Nat.le_refl _) hc2.rep hc2.ev
      have hlt2 : l < W2.heap.size := (Array.getElem?_eq_some_iff.1 hlW2).1
      obtain ⟨W3, hW3⟩ : ∃ W3, W3 = W2.putObj l (.loop { rec .ready none with state := .busy }) := ⟨_, rfl⟩
      have hM3 : Cur m sz df b ⟨frE, st r t⟩ W3 F2 β2 aM := by rw [hW3]; exact hput _ hM2 hlW2 hFl2 hol2
      have hW3o : ∀ y, y ≠ l → W3.heap[y]? = W2.heap[y]? := fun y hy => by rw [hW3]; exact World.putObj_heap_other hy
      have hlW3 : W3.heap[l]? = some (.loop { rec .ready none with state := .busy }) := by rw [hW3]; exact World.putObj_heap_same hlt2
      refine ⟨W3, by rw [hW3]; exact run_beginRound hlW2 (by rw [hrec]), ?_⟩
      have hcB : Cur (st r t).length sz ⟨some l, 0⟩ ⟨W3, F2, β2, oget (st r t)⟩ ⟨frB x, st r t⟩ W3 F2 β2 a2 :=
        ⟨Nat.le_refl _, ⟨hc2.fr.1, hc2.fr.2.1.mono (fun _ h => h) (fun y hy => hW3o y (by rintro rfl; exact hFl2 hy)) (by rw [hW3]; simp), fun u => (hc2.fr.2.2 u).mono (fun _ h => h) (fun y hy => hW3o y (by rintro rfl; exact hFl2 hy)) (fun _ _ h => h)⟩, hM3.rep, Evolve.refl _ _ _ _⟩
      have hB := hbody l x r t _ hres ⟨W3, F2, β2, oget (st r t)⟩ (fun n hn => hM3.rep.dom n hn) W3 F2 β2 a2 hcB
      refine wpIn_mono hB ?_
      have hlt3 : l < W3.heap.size := (Array.getElem?_eq_some_iff.1 hlW3).1
      intro e3 a4 W4 hq4
      have fin : ∀ (S4 : St) (F4 : Nat → Prop) (β4 : Beta), Cur (st r t).length sz ⟨some l, 0⟩ ⟨W3, F2, β2, oget (st r t)⟩ S4 W4 F4 β4 a4 → ∀ jump : Option Code,
          (Instr.endRound l jump).run P W4 = .ok (.bool jump.isNone) (W4.putObj l (.loop (rec (if jump.isNone then .ready else .done) jump))) ∧ Cur m sz df b ⟨frE, S4.ob⟩ (W4.putObj l (.loop (rec (if jump.isNone then .ready else .done) jump))) F4 β4 aM ∧
            (W4.putObj l (.loop (rec (if jump.isNone then .ready else .done) jump))).heap[l]? = some (.loop (rec (if jump.isNone then .ready else .done) jump)) ∧ ¬ F4 l ∧ ¬ owned (oget S4.ob) β4 l := by
        intro S4 F4 β4 hc4 jump
        have hlW4 : W4.heap[l]? = some (.loop { rec .ready none with state := .busy }) := (hc4.ev.block l hlt3 hol2).trans hlW3
        have hFl4 : ¬ F4 l := fun g => (hc4.ev.newF l hlt3 g).elim hFl2 hol2
        have hol4 : ¬ owned (oget S4.ob) β4 l := fun g => hol2 (hc4.ev.ownd l hlt3 g)
        have hM4 : Cur m sz df b ⟨frE, S4.ob⟩ W4 F4 β4 aM := hM3.step (S := ⟨frE, st r t⟩) hc4.le hc4.rep hc4.ev
        refine ⟨?_, hput _ hM4 hlW4 hFl4 hol4, World.putObj_heap_same (Array.getElem?_eq_some_iff.1 hlW4).1, hFl4, hol4⟩
        have := run_endRound (P := P) jump hlW4
        rw [hrec] at this ⊢
        exact this
      cases e3 with
      | normal =>
        obtain ⟨S4, F4, β4, ⟨t', rs, hcov, hback⟩, hc4⟩ := hq4
        obtain ⟨g1, g2, g3, g4, g5⟩ := fin S4 F4 β4 hc4 none
        refine ⟨_, _, g1, .inl ⟨rfl, t', F4, _, hcov.cur hb g2, hback, g3, g4, fun ho => g5 (hcov.owned _ ho)⟩⟩
      | ret =>
        obtain ⟨S4, F4, β4, ⟨c, hj, hQ⟩, hc4⟩ := hq4
        cases hj
        obtain ⟨g1, g2, g3, g4, g5⟩ := fin S4 F4 β4 hc4 (some .ret)
        exact ⟨_, _, g1, .inr ⟨rfl, .ret, .ret, _, F4, β4, rfl, hQ, g2, g3, g4, g5⟩⟩
      | exit id =>
        obtain ⟨S4, F4, β4, ⟨c, hj, hQ⟩, hc4⟩ := hq4
        cases hj
        obtain ⟨g1, g2, g3, g4, g5⟩ := fin S4 F4 β4 hc4 (some (.exit id))
        exact ⟨_, _, g1, .inr ⟨rfl, .exit id, .exit id, _, F4, β4, rfl, hQ, g2, g3, g4, g5⟩⟩
      | goto t =>
        obtain ⟨S4, F4, β4, ⟨c, hj, hQ⟩, hc4⟩ := hq4
        cases hj
      | panic ch =>
        obtain ⟨S4, F4, β4, ⟨c, hj, hQ⟩, hc4⟩ := hq4
        cases hj
      | outgrown => exact hq4.elim
    | _ => first | exact hq.elim | (obtain ⟨S2, F2, β2, ⟨he, _⟩, _⟩ := hq; cases he)
  refine ⟨l, [{ target := .collected w.heap.size, args := #[] }], W1, { target := .fn (.func gf) #[.pointer (some ⟨bc, oc, none⟩)], args := #[.func (.yield l) #[] #[]] }, W1, gf,
    #[.func (.yield l) #[] #[]] ++ #[.pointer (some ⟨bc, oc, none⟩)], W1, ?_, ?_, ?_, ?_, fun hh => by simp [Rnd, Fence.wide] at hh, ?_⟩
  · rw [← hW1, hrec, hl]; exact run_enterLoop_outer _ _ _ _ _
  · have hev : a.eval (.tmp tg) = .func (.func gf) #[] #[.pointer (some ⟨bc, oc, none⟩)] := e1
    simp only [resolve, hev]
    simp [go_sem]
  · intro _ _; trivial
  · simp [invoke, go_sem, hE]
  · have hcall := hP l bc oc J Y Jx (fun r W hJ => ?_) (fun r W hJ => ?_) (fun r W hJ hne => ?_) hround s W1 hlen hJ1
    · refine hcall.mono ?_
      rintro e W' ⟨⟨v, rfl⟩, hj⟩
      show ∃ jump w₄, _
      rcases hj with ⟨t, F', β', hcur, hres, hlW, hFl, hol⟩ | ⟨e, c, S, F', β', hjc, hQ, hcur, hlW, hFl, hol⟩
      · refine ⟨_, _, run_endLoop hlW (by rw [hrec]; simp), ?_⟩
        rw [hrec]
        show NoOut _ .normal _ _
        rw [← haM]
        have h2 := hput (.loop { (rec .ready none) with state := .exhausted }) hcur hlW hFl hol
        rw [hrec] at h2
        exact ⟨_, F', β', hdone t hres, h2⟩
      · refine ⟨_, _, run_endLoop hlW (by rw [hrec]; simp), ?_⟩
        have h2 := hput (.loop { (rec .done (some c)) with state := .exhausted }) hcur hlW hFl hol
        rw [hrec] at h2 ⊢
        rw [← haM]
        cases e with
        | ret => cases hjc; exact wpIn_ret ⟨S, F', β', hQ, h2⟩
        | exit id => cases hjc; exact wpIn_exit ⟨S, F', β', hQ, h2⟩
        | _ => cases hjc
    · obtain ⟨t, F', β', hcur, _⟩ := hJ
      obtain ⟨sz', cs, T, _, h1, h2, h3, h4⟩ := hcf hcur haT
      have : cs[oc]? = some (.string ⟨⟨r⟩⟩) := by
        rw [← h4, Array.getD_eq_getD_getElem?, Array.getElem?_eq_getElem (by omega)]; rfl
      exact ⟨by simp [World.cell?, h1, this], by simp [World.frozen?, h1]⟩
    · obtain ⟨t, F', β', hcur, h2, h3, h4, h5⟩ := hJ
      exact ⟨t, F', β', Cur.env hcur rfl rfl rfl (Nat.le_refl _) (fun _ h => h) (fun x h1 h2 => absurd h1 h2) (fun _ _ _ => rfl) rfl (hcur.fr.2.1.mono (fun _ h => h) (fun _ _ => rfl) (Nat.le_refl _)), h2, h3, h4, h5⟩
    · obtain ⟨t, F', β', hcur, hres, hlW, hFl, hol⟩ := hJ
      obtain ⟨sz', cs, T, hβ, h1, h2, h3, h4⟩ := hcf hcur haT
      rw [linesL_cons hne] at hres
      have hw := hcur.rep.write_row (hnc r t) hβ h1 (cs.setIfInBounds oc (.string ⟨⟨lineT r⟩⟩)) (by simp [h2]) [vt (lineT r)] Nat.one_pos (by simpa using h3) (fun i hi => by
          have : i = 0 := by simpa using hi
          subst this
          exact ⟨rfl, by simp [V.flat, vt, one]⟩) (fun i j hi hj => by
          have : i = 0 := by simpa using hi
          subst this
          have : j = 0 := by omega
          subst this
          have : (cs.setIfInBounds oc (.string ⟨⟨lineT r⟩⟩)).getD (oc + 0 * 1 + 0) Go.undef = .string ⟨⟨lineT r⟩⟩ := by simp [Array.getD_eq_getD_getElem?, show oc < cs.size by omega]
          rw [this]
          exact .fr (.p rfl))
      have hlt : nc < (st r t).length := oget_some (by rw [hnc r t]; simp)
      have hsig : upd (oget (st r t)) nc (some (.row 1 [vt (lineT r)])) = oget (st (lineT r) t) := by
        rw [← hset r (lineT r) t]
        funext n
        rw [oget_set _ _ _ _ hlt]
        rfl
      rw [hsig] at hw
      have hle : (st r t).length = (st (lineT r) t).length := by rw [← hset r (lineT r) t]; simp
      rw [setCell_setRow h1]
      have hbcl : l ≠ bc := by
        rintro rfl
        rw [h1] at hlW; cases hlW
      refine ⟨t, F', β', hcur.step (S := ⟨frE, st r t⟩) (Nat.le_of_eq hle) (hw.1.av_mono fun n hn => by show (st r t).length ≤ n; rw [hle]; exact hn) hw.2, hres, ?_, hFl, fun ho => hol ?_⟩
      · rw [setRow_other _ _ _ _ hbcl]; exact hlW
      · exact hw.2.ownd l (Array.getElem?_eq_some_iff.1 hlW).1 ho
end
end
section
open Go
variable {P : Program} {sz : Nat} {df : Rd} {m : Nat}
def liveN : List Nat → Objs → List Nat
  | r :: rs, some _ :: os => r :: liveN rs os
  | _ :: rs, none :: os => liveN rs os
  | _, _ => []
def notIn (r : Nat) : List Nat → Bool
  | [] => true
  | q :: l => !(Nat.beq q r) && notIn r l
def nodupB : List Nat → Bool
  | [] => true
  | r :: l => notIn r l && nodupB l
theorem notIn_iff {r : Nat} : ∀ {l : List Nat}, notIn r l = true → r ∉ l
  | [], _ => by simp
  | q :: l, h => by
    simp only [notIn, Bool.and_eq_true, Bool.not_eq_true'] at h
    have h1 : q ≠ r := fun e => by subst e; simp at h
    have := notIn_iff h.2
    simp only [List.mem_cons, not_or]
    exact ⟨Ne.symm h1, this⟩
theorem live_mem : ∀ {rs : List Nat} {os : Objs} {j : Nat}, oget os j ≠ none → j < rs.length → rs.getD j 0 ∈ liveN rs os
  | [], _, _, _, h => by simp at h
  | r :: rs, [], j, h, _ => by simp [oget] at h
  | r :: rs, some o :: os, 0, _, _ => by simp [liveN]
  | r :: rs, none :: os, 0, h, _ => by simp [oget] at h
  | r :: rs, some o :: os, j + 1, h, hj => by
    have := live_mem (rs := rs) (os := os) (j := j) (by simpa [oget] using h) (by simpa using hj)
    simp only [liveN, List.mem_cons]
    right
    simpa using this
  | r :: rs, none :: os, j + 1, h, hj => by
    have := live_mem (rs := rs) (os := os) (j := j) (by simpa [oget] using h) (by simpa using hj)
    simpa [liveN] using this
theorem live_inj : ∀ {rs : List Nat} {os : Objs} {i j : Nat}, nodupB (liveN rs os) = true → oget os i ≠ none → oget os j ≠ none → i < rs.length → j < rs.length → rs.getD i 0 = rs.getD j 0 → i = j
  | [], _, _, _, _, _, _, h, _, _ => by simp at h
  | r :: rs, [], i, j, _, h, _, _, _, _ => by simp [oget] at h
  | r :: rs, none :: os, 0, _, _, h, _, _, _, _ => by simp [oget] at h
  | r :: rs, none :: os, i + 1, 0, _, _, h, _, _, _ => by simp [oget] at h
  | r :: rs, none :: os, i + 1, j + 1, hn, h1, h2, h3, h4, h5 => by
    have := live_inj (rs := rs) (os := os) (i := i) (j := j) hn (by simpa [oget] using h1) (by simpa [oget] using h2) (by simpa using h3) (by simpa using h4) (by simpa using h5)
    omega
  | r :: rs, some o :: os, 0, 0, _, _, _, _, _, _ => rfl
  | r :: rs, some o :: os, 0, j + 1, hn, h1, h2, h3, h4, h5 => by
    simp only [liveN, nodupB, Bool.and_eq_true] at hn
    have := live_mem (rs := rs) (os := os) (j := j) (by simpa [oget] using h2) (by simpa using h4)
    have h6 : r = rs.getD j 0 := by simpa using h5
    rw [← h6] at this
    exact absurd this (notIn_iff hn.1)
  | r :: rs, some o :: os, i + 1, 0, hn, h1, h2, h3, h4, h5 => by
    simp only [liveN, nodupB, Bool.and_eq_true] at hn
    have := live_mem (rs := rs) (os := os) (j := i) (by simpa [oget] using h1) (by simpa using h3)
    have h6 : r = rs.getD i 0 := by simpa using h5.symm
    rw [← h6] at this
    exact absurd this (notIn_iff hn.1)
  | r :: rs, some o :: os, i + 1, j + 1, hn, h1, h2, h3, h4, h5 => by
    simp only [liveN, nodupB, Bool.and_eq_true] at hn
    have := live_inj (rs := rs) (os := os) (i := i) (j := j) hn.2 (by simpa [oget] using h1) (by simpa [oget] using h2) (by simpa using h3) (by simpa using h4) (by simpa using h5)
    omega
theorem Sees.mov {S S' : St} {rs : List Nat} (nd : nodupB (liveN rs S'.ob) = true) (le : Nat.ble m S'.ob.length = true) (low : ((List.range m).all fun n => Nat.beq (rs.getD n 0) n) = true) (fr : FrRen (rho S.ob.length rs) S.fr S'.fr) (ob : ObRen (rho S.ob.length rs) S.ob rs S'.ob) : Sees m S S' := by
  intro sz df b hb w F β a h
  have hclen := ob.len
  have hlow : ∀ n, n < m → rs.getD n 0 = n := fun n hn => Nat.eq_of_beq_eq_true (List.all_eq_true.1 low n (List.mem_range.2 hn))
  have hle := Nat.le_of_ble_eq_true le
  have hρ1 : ∀ j, j < rs.length → rho S.ob.length rs j = rs.getD j 0 := fun j hj => by simp [rho, hj]
  have hρ2 : ∀ j, rs.length ≤ j → rho S.ob.length rs j = S.ob.length + (j - rs.length) := fun j hj => by simp only [rho]; rw [if_neg (by omega)]
  have hget : ∀ n o, oget S'.ob n = some o → n < rs.length ∧ oget S.ob (rs.getD n 0) = some (o.ren (rho S.ob.length rs)) := by
    intro n o ho
    have hn : n < rs.length := by rw [hclen]; exact oget_some (by simp [ho])
    refine ⟨hn, ?_⟩
    rcases ob.all n hn with k | k
    · rw [ho] at k; cases k
    · rw [k, ho]; rfl
  have hown : ∀ b, owned (oget S'.ob) (fun n => β (rho S.ob.length rs n)) b → owned (oget S.ob) β b := by
    rintro b ⟨n, o, l, h1, h2, h3⟩
    obtain ⟨g1, g2⟩ := hget n o h1
    simp only [hρ1 n g1] at h2
    exact ⟨_, _, l, g2, h2, h3⟩
  refine ⟨F, fun n => β (rho S.ob.length rs n), hle, ⟨h.fr.1, h.fr.2.1, fun t => ?_⟩, ⟨h.rep.falloc, fun n hn => ?_, fun n o hn => ?_, fun n n' o o' l l' b h1 h2 h3 h4 h5 h6 => ?_, h.rep.gl⟩, ?_⟩
  · rcases fget_mem (fr := S'.fr) (t := t) with k | k
    · rw [k]; exact .undef
    · rcases fr.all _ k with q | q
      · have := h.fr.2.2 t
        simp only at q
        rw [← q] at this
        exact VRep.unren _ _ (Nat.lt_succ_self _) _ this
      · simp only at q; rw [q]; exact .undef
  · show β (rho S.ob.length rs n) = none
    rw [hρ2 n (by rw [hclen]; exact hn)]
    exact h.rep.dom _ (by omega)
  · obtain ⟨g1, g2⟩ := hget n o hn
    obtain ⟨l, k1, k2, k3⟩ := h.rep.obj _ _ g2
    refine ⟨l, ?_, ORep.unren k2, k3⟩
    show β (rho S.ob.length rs n) = some l
    rw [hρ1 n g1]; exact k1
  · obtain ⟨a1, a2⟩ := hget n o h1
    obtain ⟨b1, b2⟩ := hget n' o' h2
    simp only [hρ1 _ a1] at h3
    simp only [hρ1 _ b1] at h4
    have := h.rep.sep _ _ _ _ _ _ b a2 b2 h3 h4 h5 h6
    exact live_inj nd (by rw [h1]; simp) (by rw [h2]; simp) a1 b1 this
  · refine ⟨h.ev.os, h.ev.tape, h.ev.output, h.ev.size, fun n l hn => ?_, h.ev.frozen, h.ev.block, h.ev.newF, fun b hb' ho => h.ev.ownd b hb' (hown b ho)⟩
    have hnm : n < m := by
      rcases Nat.lt_or_ge n m with q | q
      · exact q
      · rw [hb n q] at hn; cases hn
    show β (rho S.ob.length rs n) = some l
    rw [hρ1 n (by omega), hlow n hnm]
    exact h.ev.beta n l hn
theorem row_ren_set {α : Type} {e : α → V} (he : ∀ x, (e x).frz = true) {ρ : Nat → Nat} {k i : Nat} {l : List α} {X0 Y : V} (hX : Y.ren ρ = X0) : (some (AObj.row k ((l.map e).set i Y))).map (AObj.ren ρ) = some (AObj.row k ((l.map e).set i X0)) := by
  have : (l.map e).map (V.ren ρ) = l.map e := by
    rw [List.map_map]
    exact List.map_congr_left fun x _ => V.ren_frz ρ _ _ (Nat.lt_succ_self _) (he x)
  simp only [Option.map_some, AObj.ren, renL_map, List.map_set, this, hX]
theorem last_to {l : Nat} (h : decide (0 < l) = true) : ((l : Nat) : Int) - 1 = ((l - 1 : Nat) : Int) := by
  have := of_decide_eq_true h; omega
theorem last_lt {l : Nat} (h : decide (0 < l) = true) : decide (l - 1 < l) = true := by
  have := of_decide_eq_true h
  exact decide_eq_true (by omega)
section
variable {τ : X → V} {g : Nat → Option AObj} {nn : Nat} {x y : X}
theorem map_snoc {α : Type} {e : α → V} {l : List α} {x0 : α} {v : V} : (List.map e (l ++ [x0])).set ((l ++ [x0]).length - 1) v = List.map e l ++ [v] := by
  simp
theorem ok_app_raw {α : Type} {e : α → V} {k by_ n : Nat} {l : List α} {x0 : α} {rd : List Nat} {u v : V} {len : Nat} (hl' : len = l.length) (hx : τ x = .own n 0 len) (hg : g n = some (.row k (l.map e))) (hy : τ y = u) (hl : elemsOf k g u = some ([v], rd, true)) (h : room by_ (l ++ [x0]).length = true) :
    isem (.app k by_ x y) τ g nn = some ⟨.own nn 0 (l ++ [x0]).length, .mv n (.row k ((List.map e (l ++ [x0])).set ((l ++ [x0]).length - 1) v)), true, n :: rd⟩ := by
  subst hl'
  simp only [room, Bool.and_eq_true, decide_eq_true_eq] at h
  rw [map_snoc]
  simp only [isem, hx, hy, hl, hg]
  simp only [List.length_append, List.length_cons, List.length_nil] at h
  cases Nat.decEq k k with
  | isTrue _ => simp [h]
  | isFalse h => exact absurd rfl h
end
theorem TriE.linesV {α R : Type} {tg p gf nc : Nat} {assign body : Code} {frE : Fr} {s : Str} {f : Str → (α → Option R) → α → Option R} {k : α → Option R} {t0 : α} {res : R} {Q : PostS} (h : linK f k (linesL s) t0 = some res)
    (st : Str → α → Objs) (frB : Str → Fr) (hro : df.ro = none) (hP : LinesC P gf) (hE : ∀ args w, (callFunc gf args).run P w = .ok (.enter gf args) w)
    (hg : fget frE tg = .fn (.func gf) [] [.ptr nc 0 0]) (hnc : ∀ r t, oget (st r t) nc = some (.row 1 [vt r])) (hset : ∀ r r' t, (st r t).set nc (some (.row 1 [vt r'])) = st r' t) (hp : Nat.blt p sz = true) (hlen : Nat.ble s.length 4611686018427387904 = true)
    (hassign : ∀ l x r t, TriE P sz ⟨some l, 0⟩ (st r t).length assign ⟨(p, vt x) :: frE, st r t⟩ (fun e S' => e = .normal ∧ S' = ⟨frB x, st r t⟩))
    (hbody : ∀ l x r t back, f x back t = some res → TriE P sz ⟨some l, 0⟩ (st r t).length body ⟨frB x, st r t⟩ (fun e S' => match e with
      | .normal => Vs (st r t).length (fun S2 => ∃ t' rs, Cov m ⟨frE, S2.ob⟩ ⟨frE, st r t'⟩ rs ∧ back t' = some res) S'
      | e => ∃ c, jumpOf e = some c ∧ Q e ⟨frE, S'.ob⟩))
    (hdone : ∀ t, k t = some res → Q .normal ⟨frE, st [] t⟩) : TriE P sz df m (.rangeFunc (.tmp tg) #[p] assign body) ⟨frE, st s t0⟩ Q :=
  TriE.lines h st frB hro hP hE hg hnc hset (Nat.le_of_ble_eq_true hp) (Nat.le_of_ble_eq_true hlen) hassign (fun l x r t back hf => TriE.vs (fun e S' h => by
    cases e with
    | normal => exact .inr h
    | _ => exact .inl h) (hbody l x r t back hf)) hdone
theorem jmp_ret {p : Prop} (h : p) : ∃ c, jumpOf .ret = some c ∧ p := ⟨_, rfl, h⟩
theorem jmp_back {α R : Type} {k : Nat} {S' S2 : St} {frE : Fr} {st : α → Objs} {back : α → Option R} {res : R} {rs : List Nat} (t : α) (hs : Sees k S' S2) (hc : Cov m ⟨frE, S2.ob⟩ ⟨frE, st t⟩ rs) (h : back t = some res) :
    Vs k (fun S2 => ∃ t' rs, Cov m ⟨frE, S2.ob⟩ ⟨frE, st t'⟩ rs ∧ back t' = some res) S' := ⟨S2, hs, t, rs, hc, h⟩
end
section
open Go
def splitL (c : UInt8) : List UInt8 → List (List UInt8)
  | [] => [[]]
  | b :: l => bif b == c then [] :: splitL c l else match splitL c l with
    | [] => [[b]]
    | x :: r => (b :: x) :: r
theorem index_one_cons (b c : UInt8) (l : List UInt8) : Lib.index (b :: l) [c] = if c == b then 0 else if Lib.index l [c] == -1 then -1 else Lib.index l [c] + 1 := by
  rw [Lib.index]
  have : [c].isPrefixOf (b :: l) = (c == b) := by simp [List.isPrefixOf]
  rw [this]
theorem splitK_one (c : UInt8) : ∀ s : List UInt8, Lib.splitK [c] 0 (Lib.count s [c]) s = splitL c s
  | [] => rfl
  | b :: l => by
    have ih := splitK_one c l
    by_cases h : b = c
    · subst h
      rw [Lib.count_cons_eq, Nat.add_comm, Lib.splitK, index_one_cons]
      simp only [beq_self_eq_true, if_true, splitL, cond_true]
      rw [if_neg (by decide)]
      simp [ih]
    · have hne : (c == b) = false := by simp; exact fun e => h e.symm
      have hne2 : (b == c) = false := by simp [h]
      rw [Lib.count_cons_ne _ _ _ h, splitL, hne2, cond_false]
      generalize Lib.count l [c] = k at ih
      cases k with
      | zero => rw [Lib.splitK] at ih ⊢; rw [← ih]
      | succ k =>
        rw [Lib.splitK] at ih ⊢
        rw [index_one_cons, hne]
        simp only [Bool.false_eq_true, if_false]
        by_cases hi : Lib.index l [c] = -1
        · rw [hi] at ih ⊢
          simp at ih ⊢
          rw [← ih]
        · have hg := Lib.index_ge l [c]
          obtain ⟨i, hi2⟩ : ∃ i : Nat, Lib.index l [c] = (i : Int) := ⟨(Lib.index l [c]).toNat, by omega⟩
          rw [hi2] at ih ⊢
          have e1 : ((i : Int) == -1) = false := by simp
          have e2 : (((i : Int) + 1) == -1) = false := by simp; omega
          rw [e1] at ih ⊢
          simp only [Bool.false_eq_true, if_false, e2] at ih ⊢
          rw [← ih]
          have e3 : ((i : Int) + 1).toNat = i + 1 := by omega
          simp [e3, Nat.add_right_comm]
def itoaL (n : Int) : List UInt8 := Lib.itoa n
def atoiL (s : List UInt8) : Int × Bool := match Lib.atoiAll s with
  | .ok v => (v, true)
  | .range => (Lib.atoiSat s, false)
  | _ => (0, false)
def joinL (l : List (List UInt8)) (sep : List UInt8) : List UInt8 := Lib.join l sep
theorem splitB_one (c : UInt8) (s : List UInt8) : (Lib.splitB ⟨⟨[c]⟩⟩ 0 (Lib.countB ⟨⟨s⟩⟩ ⟨⟨[c]⟩⟩) ⟨⟨s⟩⟩).map Value.string = (splitL c s).map fun x => Value.string ⟨⟨x⟩⟩ := by
  have h := Lib.splitB_data ⟨⟨[c]⟩⟩ 0 (Lib.countB ⟨⟨s⟩⟩ ⟨⟨[c]⟩⟩) ⟨⟨s⟩⟩
  have h2 := splitK_one c s
  have h3 : (Lib.splitB ⟨⟨[c]⟩⟩ 0 (Lib.countB ⟨⟨s⟩⟩ ⟨⟨[c]⟩⟩) ⟨⟨s⟩⟩).map (·.data.toList) = splitL c s := h.trans h2
  rw [← h3, List.map_map]
  rfl
def splitC (s sep : List UInt8) : Option (List (List UInt8)) := match sep with
  | [c] => some (splitL c s)
  | _ => none
end
end Go.Proofs.YtchkkpbkgghcoaaGreatDoor.As
