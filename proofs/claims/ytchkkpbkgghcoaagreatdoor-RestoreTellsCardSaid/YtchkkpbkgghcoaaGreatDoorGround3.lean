/- Rules for the program's operations over plain values, part 3: no condition. -/
import Derived.Test.YtchkkpbkgghcoaaGreatDoorGround2
namespace Go.Proofs.YtchkkpbkgghcoaaGreatDoor.As
open Go
section
open Go
variable {P : Program} {sz : Nat} {df : List Deferred} {m : Nat}
def keepF (keep : List Nat) (fr : Fr) : Fr := keep.map fun t => (t, fget fr t)
theorem keepF_le (keep : List Nat) (fr : Fr) : FrLe fr (keepF keep fr) := FrLe.of_map (by simp [keepF, Function.comp_def])
def opsE (P : Program) (ev : CallE) (sz : Nat) (keep : List Nat) (ops : Array Oper) : Nat → Nat → St → Option St
  | 0, i, S => match Nat.beq ops.size i with
    | true => some ⟨keepF keep S.fr, S.ob⟩
    | false => none
  | n + 1, i, S => match opE P ev sz ops i S with
    | some (d, v, ob') => opsE P ev sz keep ops n (i + 1) ⟨fputc S.fr d v, ob'⟩
    | none => none
theorem opsE_sound {ev : CallE} (hev : Sound P ev) {keep : List Nat} {ops : Array Oper} {K : St → Prop} : ∀ (n i : Nat) (S S' : St), opsE P ev sz keep ops n i S = some S' → K S' → RegJ P sz df m ops i S K := by
  intro n
  induction n with
  | zero =>
    intro i S S' h k
    simp only [opsE] at h
    split at h
    · rename_i hi
      cases h
      exact RegJ.sees (Sees.less (keepF_le keep S.fr)) (RegJ.done hi k)
    · cases h
  | succ n ih =>
    intro i S S' h k
    simp only [opsE] at h
    split at h
    · rename_i d v ob' ho
      exact opE_sound hev ho (ih _ _ _ h k)
    · cases h
def opsD (P : Program) (ev : CallE) (sz : Nat) (keep : List Nat) (ops : Array Oper) : Nat → Nat → St → List (List Nat × List Nat) → Option St
  | 0, i, S, acc => match Nat.beq ops.size i && drawOK ops acc with
    | true => some ⟨keepF keep S.fr, S.ob⟩
    | false => none
  | n + 1, i, S, acc => match opD P ev sz ops i S with
    | some (d, v, rd, tch, ob') => opsD P ev sz keep ops n (i + 1) ⟨fputc S.fr d v, ob'⟩ (acc ++ [(rd, tch)])
    | none => none
theorem opsD_sound {ev : CallE} (hev : Sound P ev) {keep : List Nat} {ops : Array Oper} {K : St → Prop} : ∀ (n i : Nat) (S S' : St) (acc : List (List Nat × List Nat)), opsD P ev sz keep ops n i S acc = some S' → K S' → RegD P sz df m ops i S acc K := by
  intro n
  induction n with
  | zero =>
    intro i S S' acc h k
    simp only [opsD] at h
    split at h
    · rename_i hi
      cases h
      simp only [Bool.and_eq_true] at hi
      exact RegD.done hi.1 hi.2 (Sees.less (keepF_le keep S.fr)) k
    · cases h
  | succ n ih =>
    intro i S S' acc h k
    simp only [opsD] at h
    split at h
    · rename_i d v rd tch ob' ho
      exact RegD.op (opD_sound hev ho) (ih _ _ _ _ h k)
    · cases h
def iterE (F : St → Option (Exit × St)) : Nat → St → Option (Exit × St)
  | 0, _ => none
  | n + 1, S => match F S with
    | some (.normal, S') => iterE F n S'
    | r => r
def codeE (P : Program) (ev : CallE) (lf sz : Nat) (keep : List Nat) : Code → St → Option (Exit × St)
  | .skip, S => some (.normal, S)
  | .label _, S => some (.normal, S)
  | .ret, S => some (.ret, S)
  | .exit id, S => some (.exit id, S)
  | .seq a b, S => match codeE P ev lf sz keep a S with
    | some (.normal, S') => codeE P ev lf sz keep b S'
    | r => r
  | .block id c, S => match codeE P ev lf sz keep c S with
    | some (.exit id', S') => match Nat.beq id' id with
      | true => some (.normal, S')
      | false => some (.exit id', S')
    | r => r
  | .scope c, S => match codeE P ev lf sz keep c S with
    | some (.goto _, _) => none
    | r => r
  | .cond c a b, S => match xbool S.fr (toX c) with
    | some true => codeE P ev lf sz keep a S
    | some false => codeE P ev lf sz keep b S
    | none => none
  | .loop c, S => iterE (fun S => codeE P ev lf sz keep c S) lf S
  | .region _ ops draw, S => match draw with
    | false => match opsE P ev sz keep ops ops.size 0 S with
      | some S' => some (.normal, S')
      | none => none
    | true => match opsD P ev sz keep ops ops.size 0 S [] with
      | some S' => some (.normal, S')
      | none => none
  | .goto _, _ => none
  | .rangeFunc _ _ _ _, _ => none
  | .refuse _, _ => none
theorem codeE_sound {ev : CallE} (hev : Sound P ev) (hm : P.follows .mixedOrders = true) {lf : Nat} {keep : List Nat} : ∀ (c : Code) (S : St) (e : Exit) (S' : St) (Q : PostS), codeE P ev lf sz keep c S = some (e, S') → Q e S' → TriE P sz df m c S Q := by
  intro c
  induction c with
  | skip => intro S e S' Q h k; simp only [codeE] at h; cases h; exact TriE.skip k
  | label l => intro S e S' Q h k; simp only [codeE] at h; cases h; exact TriE.label k
  | ret => intro S e S' Q h k; simp only [codeE] at h; cases h; exact TriE.ret k
  | exit id => intro S e S' Q h k; simp only [codeE] at h; cases h; exact TriE.exit k
  | seq a b iha ihb =>
    intro S e S' Q h k
    simp only [codeE] at h
    refine TriE.seq ?_
    split at h
    · rename_i S1 h1
      exact iha S .normal S1 _ h1 (ihb _ _ _ _ h k)
    · rename_i hne
      refine iha S e S' _ h ?_
      cases e with
      | normal => exact absurd h (hne S')
      | _ => exact k
  | block id c ih =>
    intro S e S' Q h k
    simp only [codeE] at h
    refine TriE.block ?_
    split at h
    · rename_i id' S1 h1
      refine ih S _ S1 _ h1 ?_
      split at h
      · rename_i hb
        cases h
        simp only [blockS, if_pos (Nat.eq_of_beq_eq_true hb)]
        exact k
      · rename_i hb
        cases h
        simp only [blockS, if_neg (Nat.ne_of_beq_eq_false hb)]
        exact k
    · rename_i hne
      refine ih S e S' _ h ?_
      cases e with
      | exit id' => exact absurd h (hne id' S')
      | _ => exact k
  | scope c ih =>
    intro S e S' Q h k
    simp only [codeE] at h
    refine TriE.scope ?_
    split at h
    · cases h
    · rename_i hne
      refine ih S e S' _ h ?_
      cases e with
      | goto l => exact absurd h (hne l S')
      | _ => exact k
  | cond c a b iha ihb =>
    intro S e S' Q h k
    simp only [codeE] at h
    split at h
    · rename_i hc
      exact TriE.cond hc (fun _ => iha S e S' Q h k) (fun e => by cases e)
    · rename_i hc
      exact TriE.cond hc (fun e => by cases e) (fun _ => ihb S e S' Q h k)
    · cases h
  | loop c ih =>
    intro S e S' Q h k
    simp only [codeE] at h
    refine TriE.loop (fun S n => iterE (fun S => codeE P ev lf sz keep c S) n S = some (e, S')) (k := lf) h ?_
    intro S n hn
    cases n with
    | zero => simp [iterE] at hn
    | succ n =>
      simp only [iterE] at hn
      split at hn
      · rename_i S1 h1
        exact ih S .normal S1 _ h1 ⟨n, Nat.lt_succ_self n, hn⟩
      · rename_i hne
        refine ih S e S' _ hn ?_
        cases e with
        | normal => exact absurd hn (hne S')
        | _ => exact k
  | region id ops draw =>
    intro S e S' Q h k
    simp only [codeE] at h
    split at h
    · split at h
      · rename_i S1 h1
        cases h
        exact TriE.regJ (opsE_sound hev _ _ _ _ h1 k)
      · cases h
    · split at h
      · rename_i S1 h1
        cases h
        exact TriE.draw hm (opsD_sound hev _ _ _ _ _ h1 k)
      · cases h
  | goto l => intro S e S' Q h k; simp [codeE] at h
  | rangeFunc _ _ _ _ _ _ => intro S e S' Q h k; simp [codeE] at h
  | refuse _ => intro S e S' Q h k; simp [codeE] at h
def resTs : List ResultVar → Option (List Nat)
  | [] => some []
  | .tmp t :: r => match resTs r with
    | some l => some (t :: l)
    | none => none
  | _ :: _ => none
theorem resTs_eq : ∀ {l : List ResultVar} {ts : List Nat}, resTs l = some ts → l = ts.map ResultVar.tmp
  | [], ts, h => by cases h; rfl
  | .tmp t :: r, ts, h => by
    simp only [resTs] at h
    split at h
    · rename_i l hl
      cases h
      rw [resTs_eq hl]; rfl
    · cases h
  | .cell _ _ :: _, ts, h => by simp [resTs] at h
def enterOK (fn : Func) : Bool := !(fn.name == "runtime.NumGoroutine") && !fn.body.isNone
theorem enter_ok {f : Nat} {fn : Func} (hf : P.funcs[f]? = some fn) (h : enterOK fn = true) : ∀ args w, (callFunc f args).run P w = .ok (.enter f args) w := by
  intro args w
  simp only [enterOK, Bool.and_eq_true, Bool.not_eq_true'] at h
  have h2 : ¬ fn.body = none := by rw [← Option.isNone_iff_eq_none, h.2]; simp
  have h1 : ¬ fn.name = "runtime.NumGoroutine" := by simpa using h.1
  simp [callFunc, go_sem, hf, h1, h2]
def endE0 (m : Nat) (ts : List Nat) (S : St) : Option (V × Objs) :=
  let rs := reach S.ob 100000 (List.range m ++ refsL (ts.map (fget S.fr))) []
  match closedR S.ob (ts.map (fget S.fr)) rs && ((List.range m).all fun n => Nat.beq (rs.getD n 0) n) && Nat.ble m rs.length with
  | true => some (resT ts (ts.map fun t => (t, (fget S.fr t).ren (inv rs))), renO (inv rs) (rs.map (oget S.ob)))
  | false => none
theorem ObRen.of_back {ρ g : Nat → Nat} {ob : Objs} : ∀ (rs : List Nat), (∀ r ∈ rs, ((oget ob r).map (AObj.ren ρ)).map (AObj.ren g) = oget ob r) → ObRen g ob rs (renO ρ (rs.map (oget ob)))
  | [], _ => .nil
  | r :: rs, h => by
    have h1 := h r (by simp)
    have ih := ObRen.of_back (g := g) (ρ := ρ) (ob := ob) rs fun x hx => h x (by simp [hx])
    simp only [renO, List.map_cons] at ih ⊢
    cases e : oget ob r with
    | none => exact .skip ih
    | some o =>
      rw [e] at h1
      refine .cons ?_ ih
      rw [e]
      simpa using h1.symm
theorem endE0_sound {ts : List Nat} {S : St} {y : V} {ob' : Objs} (h : endE0 m ts S = some (y, ob')) : Vs m (fun S' => resT ts S'.fr = y ∧ S'.ob = ob') S := by
  unfold endE0 at h
  simp only at h
  generalize reach S.ob 100000 (List.range m ++ refsL (ts.map (fget S.fr))) [] = rs at h
  split at h
  · rename_i hc
    cases h
    simp only [Bool.and_eq_true] at hc
    obtain ⟨⟨hc, hlow⟩, hle⟩ := hc
    have hc' := hc
    simp only [closedR, Bool.and_eq_true, List.all_eq_true] at hc
    obtain ⟨⟨c1, c2⟩, c3⟩ := hc
    refine ⟨⟨ts.map fun t => (t, (fget S.fr t).ren (inv rs)), renO (inv rs) (rs.map (oget S.ob))⟩, ?_, rfl, rfl⟩
    refine sc rs (callOK_iff c3).1 ?_ ?_ (by simpa [renO] using hle) hlow
    · simp only [List.map_map, Function.comp_def]
      refine List.map_congr_left fun t ht => ?_
      refine V.ren_back _ fun n hn => inv_rho ?_
      have : n ∈ refsL (ts.map (fget S.fr)) := by
        clear c1 c2 c3 hlow hle hc'
        induction ts with
        | nil => cases ht
        | cons a r ih =>
          simp only [List.map_cons, refsL, List.mem_append]
          rcases List.mem_cons.1 ht with rfl | h
          · exact .inl hn
          · exact .inr (ih h)
      simpa using c1 n this
    · exact ObRen.of_back rs fun r hr => AObj.ren_back _ fun n hn => inv_rho (by simpa using c2 r hr n hn)
  · cases h
mutual
def frzV (n k : Nat) (es : List V) : V → V
  | .own n' off len => match Nat.beq n n' && Nat.ble (off + len) es.length with
    | true => .sl k ((es.drop off).take len)
    | false => .own n' off len
  | .agg cs => .agg (frzVs n k es cs)
  | .tup cs => .tup (frzVs n k es cs)
  | x => x
def frzVs (n k : Nat) (es : List V) : List V → List V
  | [] => []
  | x :: r => frzV n k es x :: frzVs n k es r
end
theorem frzVs_len {n k : Nat} {es : List V} : ∀ (l : List V), (frzVs n k es l).length = l.length
  | [] => rfl
  | _ :: r => by simp only [frzVs, List.length_cons, frzVs_len r]
mutual
theorem frzV_ok {n k : Nat} {es : List V} : ∀ (x : V), FrzV n k es x (frzV n k es x)
  | .own n' off len => by
    unfold frzV
    split
    · rename_i h
      simp only [Bool.and_eq_true] at h
      have e := Nat.eq_of_beq_eq_true h.1
      subst e
      exact .own rfl (Nat.le_of_ble_eq_true h.2)
    · exact .refl _
  | .agg cs => by unfold frzV; exact .agg (frzVs_len cs).symm fun j _ => frzVs_ok cs j
  | .tup cs => by unfold frzV; exact .tup (frzVs_len cs).symm fun j _ => frzVs_ok cs j
  | .p _ => .refl _
  | .emp => .refl _
  | .sl _ _ => .refl _
  | .ptr _ _ _ => .refl _
  | .fptr _ _ _ _ => .refl _
  | .fmap _ _ => .refl _
  | .itp _ => .refl _
  | .fn _ _ _ => .refl _
  | .iface _ _ => .refl _
  | .map _ => .refl _
  | .cond _ _ => .refl _
  | .undef => .refl _
theorem frzVs_ok {n k : Nat} {es : List V} : ∀ (l : List V) (j : Nat), FrzV n k es (nth l j) (nth (frzVs n k es l) j)
  | [], _ => .refl _
  | x :: _, 0 => frzV_ok x
  | _ :: r, j + 1 => frzVs_ok r j
end
def frzAt (ts : List Nat) (n : Nat) (S : St) : St := match oget S.ob n with
  | some (.row k es) => match es.all frzE with
    | true => ⟨ts.map fun t => (t, frzV n k es (fget S.fr t)), S.ob.set n none⟩
    | false => S
  | _ => S
theorem frzAt_sees (ts : List Nat) (n : Nat) (S : St) : Sees m S (frzAt ts n S) := by
  unfold frzAt
  split
  · rename_i k es hn
    split
    · rename_i hz
      refine Sees.freeze n hn (List.all_eq_true.1 hz) ?_ rfl
      clear hn hz
      induction ts with
      | nil => exact .nil
      | cons t r ih => exact .cons (frzV_ok _) ih
    · exact Sees.refl
  · exact Sees.refl
def frzAll (m : Nat) (ts : List Nat) : List Nat → St → St
  | [], S => S
  | n :: r, S => match Nat.ble m n with
    | true => frzAll m ts r (frzAt ts n S)
    | false => frzAll m ts r S
theorem frzAll_sees (ts : List Nat) : ∀ (l : List Nat) (S : St), Sees m S (frzAll m ts l S)
  | [], S => Sees.refl
  | n :: r, S => by
    unfold frzAll
    split
    · exact (frzAt_sees ts n S).trans (frzAll_sees ts r _)
    · exact frzAll_sees ts r S
def endE (b : Bool) (m : Nat) (ts : List Nat) (S : St) : Option (V × Objs) := match b with
  | false => endE0 m ts S
  | true => endE0 m ts (frzAll m ts (refsL (ts.map (fget S.fr))) S)
theorem endE_sound {b : Bool} {ts : List Nat} {S : St} {y : V} {ob' : Objs} (h : endE b m ts S = some (y, ob')) : Vs m (fun S' => resT ts S'.fr = y ∧ S'.ob = ob') S := by
  unfold endE at h
  split at h
  · exact endE0_sound h
  · obtain ⟨S2, h1, h2⟩ := endE0_sound h
    exact ⟨S2, (frzAll_sees ts _ S).trans h1, h2⟩
def funE (P : Program) (keep : Nat → List Nat) (lf : Nat) : Nat → CallE
  | 0, _, _, _, _ => none
  | n + 1, b, f, xs, ob => match P.funcs[f]? with
    | some fn => match fn.body, resTs fn.results.toList with
      | some c, some ts => match enterOK fn && Nat.ble xs.length fn.ntmps && ob.all Option.isSome with
        | true => match codeE P (funE P keep lf n) lf fn.ntmps (keep f) c ⟨frOf xs 0, ob⟩ with
          | some (.normal, S) => match endE b ob.length ts S with
            | some (y, ob') => match Nat.ble ob.length ob'.length with
              | true => some (y, ob')
              | false => none
            | none => none
          | some (.ret, S) => match endE b ob.length ts S with
            | some (y, ob') => match Nat.ble ob.length ob'.length with
              | true => some (y, ob')
              | false => none
            | none => none
          | _ => none
        | false => none
      | _, _ => none
    | none => none
theorem funE_sound (hm : P.follows .mixedOrders = true) {keep : Nat → List Nat} {lf : Nat} : ∀ n, Sound P (funE P keep lf n) := by
  intro n
  induction n with
  | zero => intro b f xs ob y ob' h; simp [funE] at h
  | succ n ih =>
    intro b f xs ob y ob' h
    simp only [funE] at h
    split at h
    · rename_i fn hf
      split at h
      · rename_i c ts hb hr
        split at h
        · rename_i hc
          simp only [Bool.and_eq_true, List.all_eq_true] at hc
          obtain ⟨⟨g1, g2⟩, g3⟩ := hc
          have main : ∀ (e : Exit) (S : St), (e = .normal ∨ e = .ret) → codeE P (funE P keep lf n) lf fn.ntmps (keep f) c ⟨frOf xs 0, ob⟩ = some (e, S) → endE b ob.length ts S = some (y, ob') → Nat.ble ob.length ob'.length = true → FnL P f xs ob y ob' := by
            intro e S he h1 h2 h3
            refine FnL.ofS (ts := ts) (enter_ok hf g1) hf hb ?_ (Nat.le_of_ble_eq_true g2) (Nat.le_of_ble_eq_true h3) (fun j hj => ?_) (codeE_sound ih hm c _ e S _ h1 ?_)
            · rw [← resTs_eq hr]
            · have : ob[j]? = some ob[j] := List.getElem?_eq_getElem hj
              have hs := g3 ob[j] (List.getElem_mem hj)
              simp only [oget, List.getD, this, Option.getD_some]
              intro e; rw [e] at hs; cases hs
            · have hv := endE_sound h2
              rcases he with rfl | rfl <;> exact hv
          split at h
          · rename_i S h1
            split at h
            · rename_i y' ob2 h2
              split at h
              · rename_i h3; cases h; exact main _ S (.inl rfl) h1 h2 h3
              · cases h
            · cases h
          · rename_i S h1
            split at h
            · rename_i y' ob2 h2
              split at h
              · rename_i h3; cases h; exact main _ S (.inr rfl) h1 h2 h3
              · cases h
            · cases h
          · cases h
        · cases h
      · cases h
    · cases h
end
section
open Go Go.ChangeShapes Go.WideShapes Go.ChangeAt Go.RowKit
def Fz (W : World) : Nat → Prop := fun b => b < W.heap.size
structure CellsOK (W : World) (cs : List Value) (es : List V) : Prop where
  len : cs.length = es.length
  one : ∀ c ∈ es, As.one c = true
  rep : ∀ j, j < cs.length → FRep W (Fz W) (cs.getD j Go.undef) (nth es j)
def Dec (P : Program) (t : TypeId) {α : Type} (e : α → V) (wf : α → Prop) : Prop :=
  ∀ {H : Type} (enc : TypeId × Value → H) (W : World) (base : Nat) (spare : Nat → Bool) (held : Bool) (fuel : Nat) (cs : List Value) (r : DataW H × List MemPlace), DataW.trod enc P W base spare held fuel t cs = some r →
    ∃ x : α, wf x ∧ CellsOK W cs (e x).flat
theorem CellsOK.single {W : World} {v : Value} {x : V} (h : FRep W (Fz W) v x) (h1 : As.one x = true) : CellsOK W [v] [x] := by
  refine ⟨rfl, by simpa using h1, fun j hj => ?_⟩
  have : j = 0 := by simp at hj; exact hj
  subst this; exact h
theorem dec_int {P : Program} {t : TypeId} {k : IntKind} (ht : P.underlying t = some (.int k)) : Dec P t (vk k) (fun n => k.min ≤ n ∧ n ≤ k.max) := by
  intro H enc W base spare held fuel cs r h
  obtain ⟨n, rfl, _, hw⟩ := DataW.trod_int ht h
  exact ⟨n, by simpa [Lit.wf] using hw, .single (.p rfl) rfl⟩
theorem dec_str {P : Program} {t : TypeId} (ht : P.underlying t = some .string) : Dec P t vt (fun s => s.length ≤ 9223372036854775807) := by
  intro H enc W base spare held fuel cs r h
  obtain ⟨s, rfl, _, hw⟩ := DataW.trod_string ht h
  obtain ⟨⟨l⟩⟩ := s
  exact ⟨l, by simpa [maxLen, ByteArray.size] using hw, .single (.p rfl) rfl⟩
def CellsFrom (W : World) (cs : List Value) (off : Nat) (es : List V) : Prop := CellsOK W (cs.drop off) es
theorem cells_nil {W : World} {cs : List Value} {off : Nat} (h : cs.length = off) : CellsFrom W cs off [] := by
  have : cs.drop off = [] := by rw [← h]; simp
  unfold CellsFrom
  rw [this]
  exact ⟨rfl, by simp, fun j hj => by simp at hj⟩
theorem cells_cons {W : World} {cs : List Value} {off k off' : Nat} {es fs : List V} (h : CellsOK W ((cs.drop off).take k) es) (hk : es.length = k) (ho : off + k = off') (g : CellsFrom W cs off' fs) : CellsFrom W cs off (es ++ fs) := by
  subst ho; subst hk
  have e : cs.drop off = (cs.drop off).take es.length ++ cs.drop (off + es.length) := by
    rw [← List.drop_drop]; exact (List.take_append_drop _ _).symm
  unfold CellsFrom at g ⊢
  have hl := h.len
  rw [e]
  refine ⟨by simp only [List.length_append]; rw [hl, g.len], fun c hc => ?_, fun j hj => ?_⟩
  · rcases List.mem_append.1 hc with h1 | h1
    · exact h.one c h1
    · exact g.one c h1
  · by_cases hlt : j < es.length
    · have e1 : nth (es ++ fs) j = nth es j := by simp [nth, List.getD, List.getElem?_append_left hlt]
      have e2 : ((cs.drop off).take es.length ++ cs.drop (off + es.length)).getD j Go.undef = ((cs.drop off).take es.length).getD j Go.undef := by
        simp only [List.getD]; rw [List.getElem?_append_left (by omega)]
      rw [e1, e2]
      exact h.rep j (by omega)
    · have e1 : nth (es ++ fs) j = nth fs (j - es.length) := by simp only [nth, List.getD]; rw [List.getElem?_append_right (by omega)]
      have e2 : ((cs.drop off).take es.length ++ cs.drop (off + es.length)).getD j Go.undef = (cs.drop (off + es.length)).getD (j - es.length) Go.undef := by
        simp only [List.getD]; rw [List.getElem?_append_right (by omega), hl]
      rw [e1, e2]
      refine g.rep _ ?_
      simp only [List.length_append] at hj
      omega
theorem dec_f {P : Program} {t : TypeId} {α : Type} {e : α → V} {wf : α → Prop} (hd : Dec P t e wf) {H : Type} {enc : TypeId × Value → H} {W : World} {base : Nat} {spare : Nat → Bool} {held : Bool} {fuel i : Nat} {cs : List Value} {xs : List (DataW H × List MemPlace)}
    (h : DataW.trod enc P W base spare held fuel t cs = xs[i]?) (hi : i < xs.length) : ∃ x : α, wf x ∧ CellsOK W cs (e x).flat := by
  rw [List.getElem?_eq_getElem hi] at h
  exact hd enc W base spare held fuel cs _ h
theorem dec_fk {P : Program} {t : TypeId} {α : Type} {e : α → V} {wf : α → Prop} (hd : Dec P t e wf) (o k : Nat) (hk : P.cellsOf t = k) {H : Type} {enc : TypeId × Value → H} {W : World} {base : Nat} {spare : Nat → Bool} {held : Bool} {fuel i : Nat} {cs : List Value} {xs : List (DataW H × List MemPlace)}
    (h : DataW.trod enc P W base spare held fuel t ((cs.drop o).take (P.cellsOf t)) = xs[i]?) (hi : i < xs.length) : ∃ x : α, wf x ∧ CellsOK W ((cs.drop o).take k) (e x).flat := by
  subst hk
  exact dec_f hd h hi
theorem dec_arg {P : Program} {t : TypeId} {α : Type} {e : α → V} {wf : α → Prop} (hd : Dec P t e wf) {H : Type} {enc : TypeId × Value → H} {W : World} {base : Nat} {spare : Nat → Bool} {held : Bool} {v : Value} {d : DataW H} {ps : List MemPlace}
    (h : DataW.Trod enc P W base spare held t v d ps) (h1 : ∀ x : α, (e x).flat = [e x]) (hv : v.cells.toList = [v]) : ∃ x : α, wf x ∧ FRep W (Fz W) v (e x) := by
  obtain ⟨fuel, hf⟩ := h
  obtain ⟨x, hx, hc⟩ := hd enc W base spare held fuel _ _ hf
  refine ⟨x, hx, ?_⟩
  rw [hv] at hc
  have := hc.rep 0 (by simp)
  rw [h1] at this
  simpa using this
theorem rep_start (W : World) (hg : GRep W (Fz W)) : Rep W (Fz W) (fun _ => none) (oget []) (fun n => ([] : Objs).length ≤ n) := by
  refine ⟨fun b hb => hb, fun _ _ => rfl, fun n o h => by simp [oget] at h, fun n m o o' l l' b h => by simp [oget] at h, hg⟩
theorem FnL.law {P : Program} {f : FuncId} {xs : List V} (h : FnL P f xs [] (vb true) []) {W : World} {args : Array Value} (hl : args.size = xs.length) (hr : ∀ j, j < xs.length → FRep W (Fz W) (args.getD j Go.undef) (nth xs j)) (hg : GRep W (Fz W) := by exact ⟨fun _ => .inl rfl, fun x hx => by cases hx⟩) :
    Calls P f args W fun e w' => e = .returned (.bool true) ∧ Below W.heap.size W w' := by
  refine (h.run W (Fz W) (fun _ => none) args (rep_start W hg) ⟨hl, fun j hj => .fr (hr j hj)⟩).mono ?_
  rintro e w' ⟨v, F', β', rfl, _, hv, he⟩
  have := hv.p_inv.1
  subst this
  exact ⟨rfl, he.os, he.tape, he.output, he.size, fun k hk => he.block k hk (by rintro ⟨n, o, l, h1, _⟩; simp [oget] at h1)⟩
theorem trodAll_stays {H : Type} {enc : TypeId × Value → H} {P : Program} (hl : laidOutB P = true) {W W' : World} (hb : Below W.heap.size W W') {sp : Nat → Bool} : ∀ {ts : List TypeId} {vs : List Value} {ds : List (DataW H)} {ps : List MemPlace},
    (∀ t ∈ ts, P.readableRec t = true ∧ t < P.types.size) → DataW.TrodAll enc P W 0 (fun _ => true) true ts vs ds ps → (∀ p ∈ ps, p.block < W.heap.size) → (∀ p ∈ ps, sp p.block = true) → DataW.TrodAll enc P W' 0 sp true ts vs ds ps
  | [], vs, ds, ps, _, h, _, _ => by
    cases vs <;> cases ds <;> simp [DataW.TrodAll] at h ⊢ <;> exact h
  | t :: ts, vs, ds, ps, hr, h, hlt, hsp => by
    obtain ⟨v, vs', d, ds', p, q, rfl, rfl, rfl, h1, h2⟩ := trodAll_cons h
    refine trodAll_cons_mk ?_ (trodAll_stays hl hb (fun t ht => hr t (by simp [ht])) h2 (fun x hx => hlt x (by simp [hx])) (fun x hx => hsp x (by simp [hx])))
    exact WideElems.Trod_stays hl (hr t (by simp)).1 (hr t (by simp)).2 h1 (fun x hx => hb.same (hlt x (by simp [hx]))) (fun x hx => hsp x (by simp [hx]))
theorem post_law {H : Type} {enc : TypeId × Value → H} {P : Program} {f : Func} {s : ChangeSpec} {apart fresh handsOn again : Bool} {W W' : World} {args : Array Value} {v : Value} {ds gs : List (DataW H)} {before pa pv : List MemPlace}
    (hW : DataW.Whole enc P f.params.toList s.vars apart W args.toList ds gs before)
    (hres : ∀ (b : Nat) (sp : Nat → Bool) (hd : Bool), DataW.TrodAll enc P W' b sp hd f.resultTypes.toList (v.resultList f.resultTypes.size) (s.fn H (ds ++ gs)).results [])
    (hargs : ∀ sp : Nat → Bool, (∀ p ∈ before, sp p.block = true) → DataW.TrodAll enc P W' 0 sp true f.params.toList args.toList (s.fn H (ds ++ gs)).args pa)
    (hvars : ∀ sp : Nat → Bool, (∀ p ∈ before, sp p.block = true) → DataW.TrodVars enc P W' sp s.vars (s.fn H (ds ++ gs)).vars pv)
    (hps : before = pa ++ pv) (hb : Below W.heap.size W W')
    (hok : ∀ (j : Nat) (t : TypeId) (r : Value), f.resultTypes[j]? = some t → (v.resultList f.resultTypes.size)[j]? = some r → Value.okWide P W' .any 0 t r) :
    s.post enc P f apart fresh handsOn again W args v W' := by
  have hold : ∀ p ∈ before, (fun b => decide (b < W.heap.size)) p.block = true := fun p hp => by simpa using hW.lt p hp
  refine ⟨ds, gs, before, [], pa, pv, hW, hres _ _ _, hargs _ hold, hvars _ hold, World.keptBut_mono (fun p hp => ⟨hp, ?_⟩) (hb.frame (· ∈ before)), fun _ => ?_⟩
  · rw [hps, List.mem_append] at hp
    exact Or.inr hp
  · have hlt := hW.lt
    obtain ⟨_, _, _, _, _, hz, hn⟩ := hW
    refine ⟨hok, _, _, ([] ++ pa) ++ pv, ⟨[] ++ pa, pv, trodAll_append (hargs _ (fun _ _ => rfl)) (hres _ _ _), hvars _ (fun _ _ => rfl), rfl, ?_, ?_⟩, ?_⟩
    · intro b off hp
      have hp' : (MemPlace.cell b off) ∈ before := by rw [hps]; simpa using hp
      have := hz b off hp'
      rw [hb.frozen (p := ⟨b, off, none⟩) (hlt _ hp')]
      exact this
    · intro ha
      have := hn ha
      rw [hps] at this
      simpa using this
    · intro p hp _
      rw [hps]
      simpa using hp
theorem dec_str_arg {P : Program} {t : TypeId} (ht : P.underlying t = some .string) {r : Reach} {b0 : Nat} {H : Type} {enc : TypeId × Value → H} {W : World} {base : Nat} {spare : Nat → Bool} {held : Bool} {v : Value} {d : DataW H} {ps : List MemPlace}
    (hv : Value.okWide P W r b0 t v) (h : DataW.Trod enc P W base spare held t v d ps) : ∃ x : Str, x.length ≤ 9223372036854775807 ∧ FRep W (Fz W) v (vt x) :=
  dec_arg (dec_str ht) h (fun _ => rfl) (by obtain ⟨n, rfl⟩ := okWide_string ht hv; rfl)
theorem dec_struct_arg {P : Program} {t : TypeId} {fs : Array Field} {α : Type} {e : α → V} {ec : α → List V} {wf : α → Prop} (ht : P.underlying t = some (.struct fs)) (hd : Dec P t e wf) (he : ∀ x, e x = .agg (ec x))
    {r : Reach} {b0 : Nat} {H : Type} {enc : TypeId × Value → H} {W : World} {base : Nat} {spare : Nat → Bool} {held : Bool} {v : Value} {d : DataW H} {ps : List MemPlace}
    (hv : Value.okWide P W r b0 t v) (h : DataW.Trod enc P W base spare held t v d ps) : ∃ x : α, wf x ∧ FRep W (Fz W) v (e x) := by
  obtain ⟨cs, rfl, _⟩ := okWide_struct ht hv
  obtain ⟨fuel, hf⟩ := h
  obtain ⟨x, hx, hc⟩ := hd enc W base spare held fuel _ _ hf
  refine ⟨x, hx, ?_⟩
  rw [he] at hc ⊢
  have hl : cs.size = (ec x).length := by have := hc.len; simpa [Value.cells, V.flat] using this
  refine .agg hl fun j hj => ?_
  have := hc.rep j (by simp [Value.cells]; omega)
  have e1 : (Value.agg cs).cells.toList.getD j Go.undef = cs.getD j Go.undef := by
    simp [Value.cells, List.getD, Array.getD_eq_getD_getElem?]
  rw [e1] at this
  exact this
end
section
open Go
variable {P : Program} {sz : Nat} {df : List Deferred} {m : Nat}
theorem leftOf_toList (es : Array MapEntry) (seen : Array Nat) : (leftOf es seen).toList = leftL es seen := by
  unfold leftOf leftL; simp
theorem filter_erase : ∀ (l : List MapEntry) (j : Nat) (e : MapEntry), (l.map (·.born)).Nodup → l[j]? = some e → (l.filter fun x => !(x.born == e.born)) = l.eraseIdx j
  | [], j, e, _, h => by simp at h
  | x :: l, 0, e, hn, h => by
    simp only [List.getElem?_cons_zero, Option.some.injEq] at h
    subst h
    simp only [List.map_cons, List.nodup_cons] at hn
    rw [List.filter_cons, if_neg (by simp), List.eraseIdx_cons_zero, List.filter_eq_self]
    intro y hy
    have : y.born ≠ x.born := fun c => hn.1 (c ▸ List.mem_map_of_mem hy)
    simp [this]
  | x :: l, j + 1, e, hn, h => by
    simp only [List.getElem?_cons_succ] at h
    simp only [List.map_cons, List.nodup_cons] at hn
    have he : e ∈ l := List.mem_of_getElem? h
    have : x.born ≠ e.born := fun c => hn.1 (c ▸ List.mem_map_of_mem he)
    rw [List.filter_cons, if_pos (by simp [this]), List.eraseIdx_cons_succ, filter_erase l j e hn.2 h]
theorem leftL_push {es : Array MapEntry} {clock : Nat} (hb : Born es clock) {seen : Array Nat} {j : Nat} {e : MapEntry} (h : (leftL es seen)[j]? = some e) : leftL es (seen.push e.born) = (leftL es seen).eraseIdx j := by
  have hn : ((leftL es seen).map (·.born)).Nodup := by
    have : List.Sublist ((leftL es seen).map (·.born)) (es.toList.map (·.born)) := List.Sublist.map _ List.filter_sublist
    exact this.nodup hb.2
  rw [← filter_erase _ j e hn h]
  unfold leftL
  rw [List.filter_filter]
  congr 1
  funext x
  rw [contains_push]
  cases seen.contains x.born <;> cases (x.born == e.born) <;> rfl
theorem FEnts.erase {w : World} {F : Nat → Prop} {es : List MapEntry} {ents : List (V × V)} (h : FEnts w F es ents) (j : Nat) : FEnts w F (es.eraseIdx j) (ents.eraseIdx j) := by
  refine ⟨by rw [List.length_eraseIdx, List.length_eraseIdx, h.1], fun i hi => ?_⟩
  have hlen : i < ents.length := by
    rw [List.length_eraseIdx] at hi; split at hi <;> omega
  simp only [List.getElem?_eraseIdx]
  by_cases c : i < j
  · simp only [c, if_true]; exact h.2 i hlen
  · simp only [c, if_false]
    have : i + 1 < ents.length := by
      rw [List.length_eraseIdx] at hi
      split at hi <;> omega
    exact h.2 (i + 1) this
theorem Rep.alloc_it {w : World} {F : Nat → Prop} {β : Beta} {σ : Sig} {Av : Nat → Prop} (hr : Rep w F β σ Av) {nn : Nat} (hnn : Av nn) {b : Nat} {es : Array MapEntry} {clock : Nat} {ents : List (V × V)} (hF : F b) (hb : w.heap[b]? = some (.map es clock)) (hbn : Born es clock)
    (he : FEnts w F es.toList ents) : Rep (w.alloc (.mapIter (some b) clock #[] clock)) F (upd β nn (some (.mp w.heap.size))) (upd σ nn (some (.it none ents))) (fun n => Av n ∧ n ≠ nn) ∧
    Evolve w F β σ (w.alloc (.mapIter (some b) clock #[] clock)) F (upd β nn (some (.mp w.heap.size))) (upd σ nn (some (.it none ents))) := by
  have hold : ∀ c, c < w.heap.size → (w.alloc (.mapIter (some b) clock #[] clock)).heap[c]? = w.heap[c]? := fun c hc => heap_alloc_old w _ hc
  refine hr.change nn (.it none ents) (.mp w.heap.size) rfl rfl rfl (by simp) ?_ ?_ ?_ (by simp) ?_ ?_ ?_ ?_ (fun b hb _ => hold b hb)
  · intro n l h
    rw [upd_other]; exact h
    rintro rfl; rw [hr.dom n hnn] at h; cases h
  · intro n hn; rw [upd_other _ _ hn.2]; exact hr.dom n hn.1
  · intro m o hm
    by_cases h : m = nn
    · subst h; simp at hm; exact .inl ⟨rfl, hm.symm⟩
    · rw [upd_other _ _ h] at hm; exact .inr ⟨h, hm⟩
  · refine ⟨b, es, clock, clock, #[], clock, heap_alloc_new w _, hF, (hold b (hr.falloc b hF)).trans hb, ⟨hbn, hbn.1, Nat.le_refl _, Nat.le_refl _⟩, ?_, fun x hx => by cases hx⟩
    have e1 : leftL es #[] = es.toList := by unfold leftL; rw [List.filter_eq_self]; intro x _; simp
    rw [e1]
    refine ⟨he.1, fun i hi => ?_⟩
    obtain ⟨e, x, g1, g2, g3, g4⟩ := he.2 i hi
    exact ⟨e, x, g1, g2, g3.mono (fun _ h => h) (fun c hc => hold c (hr.falloc c hc)), g4.mono (fun _ h => h) (fun c hc => hold c (hr.falloc c hc))⟩
  · intro c hc
    simp only [Loc.block, Option.some.injEq] at hc
    subst hc
    exact ⟨fun h => absurd (hr.falloc _ h) (by omega), by simp⟩
  · intro m o l c hm hs hl hc e
    simp only [Loc.block, Option.some.injEq] at e
    rw [upd_other _ _ hm] at hs
    obtain ⟨l', h1, _, h3⟩ := hr.obj m o hs
    rw [hl] at h1; cases h1
    have := (h3 c hc).2
    omega
  · intro c hc hlt
    simp only [Loc.block, Option.some.injEq] at hc
    omega
theorem Rep.write_it {w w1 : World} {F : Nat → Prop} {β : Beta} {σ : Sig} {Av : Nat → Prop} (hr : Rep w F β σ Av) (hw1 : w1 = w ∨ w1 = w.drew) {n r : Nat} {o0 : AObj} {cur : Option (V × V)} {left : List (V × V)} (hn : σ n = some o0) (hb : β n = some (.mp r)) (o : Obj)
    (ho : ORep (ChangeMaps.setBlock w1 r o) F β (.mp r) (.it cur left)) :
    Rep (ChangeMaps.setBlock w1 r o) F β (upd σ n (some (.it cur left))) Av ∧ Evolve w F β σ (ChangeMaps.setBlock w1 r o) F β (upd σ n (some (.it cur left))) := by
  obtain ⟨l, hl, _, hblk⟩ := hr.obj n _ hn
  rw [hb] at hl; cases hl
  have hFb := hblk r rfl
  have h1 : w1.heap = w.heap ∧ w1.os = w.os ∧ w1.tape = w.tape ∧ w1.output = w.output := by rcases hw1 with rfl | rfl <;> exact ⟨rfl, rfl, rfl, rfl⟩
  have hheap : ∀ c, c ≠ r → (ChangeMaps.setBlock w1 r o).heap[c]? = w.heap[c]? := fun c hc => by
    show (w1.heap.setIfInBounds r o)[c]? = _
    rw [h1.1]
    exact Array.getElem?_setIfInBounds_ne (Ne.symm hc)
  have hsz : (ChangeMaps.setBlock w1 r o).heap.size = w.heap.size := by
    show (w1.heap.setIfInBounds r o).size = _
    rw [h1.1]; simp
  refine hr.change n (.it cur left) (.mp r) h1.2.1 h1.2.2.1 h1.2.2.2 (by omega) (fun _ _ h => h) hr.dom ?_ hb ho ?_ ?_ ?_ ?_
  · intro m o hm
    by_cases h : m = n
    · subst h; simp at hm; exact .inl ⟨rfl, hm.symm⟩
    · rw [upd_other _ _ h] at hm; exact .inr ⟨h, hm⟩
  · intro c hc
    simp only [Loc.block, Option.some.injEq] at hc
    subst hc
    exact ⟨hFb.1, by rw [hsz]; exact hFb.2⟩
  · intro m o l c hm hs hl hb' e
    simp only [Loc.block, Option.some.injEq] at e
    subst e
    rw [upd_other _ _ hm] at hs
    exact hm (hr.sep m n o _ l _ _ hs hn hl hb hb' rfl)
  · intro c hc _; exact ⟨n, _, _, hn, hb, hc⟩
  · intro c _ hc; exact hheap c (fun e => hc (by simp [Loc.block, e]))
theorem oget_push (ob : Objs) (o : AObj) : oget (ob ++ [some o]) = upd (oget ob) ob.length (some o) := by
  funext m
  rw [oget_append]
  rfl
theorem oget_set_upd {ob : Objs} {n : Nat} (o : AObj) (h : n < ob.length) : oget (ob.set n (some o)) = upd (oget ob) n (some o) := by
  funext m
  rw [oget_set _ _ _ _ h]
  rfl
theorem FEnts.of_zip {w : World} {F : Nat → Prop} {v : Value} {ks vs : List V} (h : FRep w F v (.fmap ks vs)) : ∃ b es clock, v = .map (some b) ∧ F b ∧ w.heap[b]? = some (.map es clock) ∧ Born es clock ∧ FEnts w F es.toList (ks.zip vs) := by
  cases h with
  | fmap us ws hF hb hl hl2 hc hk hvv =>
    refine ⟨_, _, _, rfl, hF, hb, hl.2, by simp [hl.1, hl2], fun i hi => ?_⟩
    simp only [List.length_zip, hl2, Nat.min_self] at hi
    obtain ⟨e, e1, e2, e3⟩ := hc i hi
    refine ⟨e, (nth ks i, nth vs i), by simpa using e1, ?_, by rw [e2]; exact hk i hi, by rw [e3]; exact hvv i hi⟩
    rw [List.getElem?_zip_eq_some]
    constructor
    · simp [nth, List.getD, hi]
    · have : i < vs.length := by omega
      simp [nth, List.getD, this]
theorem VRep.itp_inv {w : World} {F : Nat → Prop} {β : Beta} {v : Value} {n : Nat} (h : VRep w F β v (.itp n)) : ∃ b, v = .pointer (some ⟨b, 0, none⟩) ∧ β n = some (.mp b) := by
  cases h with
  | fr h => cases h
  | itp h => exact ⟨_, rfl, h⟩
def rawRng (P : Program) (sz : Nat) (ops : Array Oper) (i : Nat) : Option (Option Nat × X) := match ops[i]? with
  | none => none
  | some o => match o.op, o.guard, dstOK sz o.dst with
    | .range t x, none, true => match P.underlying t with
      | some (.map _ _) => some (o.dst, toX x)
      | _ => none
    | _, _, _ => none
def rawNxt (sz : Nat) (ops : Array Oper) (i : Nat) : Option (Option Nat × X) := match ops[i]? with
  | none => none
  | some o => match o.op, o.guard, dstOK sz o.dst with
    | .next x false, none, true => some (o.dst, toX x)
    | _, _, _ => none
def rawEnt (sz : Nat) (ops : Array Oper) (i : Nat) : Option (Option Nat × X) := match ops[i]? with
  | none => none
  | some o => match o.op, o.guard, dstOK sz o.dst with
    | .entry x, none, true => some (o.dst, toX x)
    | _, _, _ => none
theorem RegJ.step {ops : Array Oper} {i : Nat} {o : Oper} {S : St} {K : St → Prop} {ob' : Objs} {v : V} (ho : ops[i]? = some o) (hgd : o.guard = none) (hd : ∀ d, o.dst = some d → d < sz) (hl : S.ob.length ≤ ob'.length)
    (h : RegJ P sz df m ops (i + 1) ⟨fputc S.fr o.dst v, ob'⟩ K) {b : Base} (hb : ∀ n, m ≤ n → b.β n = none) {w w' : World} {F F' : Nat → Prop} {β β' : Beta} {a : Act} {R : Exit → Act → World → Prop} (hc : Cur m sz df b S w F β a)
    (hR : ∀ S' F' β' a' w', K S' → Cur m sz df b S' w' F' β' a' → R .normal a' w') {u : Value} (hrun : (execOp a.eval o).run P w = .ok (.value u) w') (hr' : Rep w' F' β' (oget ob') (fun n => ob'.length ≤ n)) (hv : VRep w' F' β' u v)
    (he' : Evolve w F β (oget S.ob) w' F' β' (oget ob')) : wpOps P ops R (List.range' i (ops.size - i)) a w := by
  have hi : i < ops.size := (Array.getElem?_eq_some_iff.1 ho).1
  have e : ops.size - i = (ops.size - (i + 1)) + 1 := by omega
  rw [e, List.range'_succ, wpOps_cons]
  have hw := wanted_of (ops := ops) (w := w) (F := F) (β := β) (a := a) (fr := fget S.fr) (o := o) (fun t _ => hc.fr.2.2 t) (show guardV ops (fget S.fr) o.guard = some true by rw [hgd]; rfl)
  unfold wpOp
  simp only [ho, hw, if_true]
  left
  unfold Oper.wp
  rw [hrun]
  refine h b hb w' F' β' _ R ⟨Nat.le_trans hc.le hl, ⟨?_, ?_, fun t => ?_⟩, hr', hc.ev.trans he'⟩ hR
  · cases hod : o.dst <;> simp [Act.put, hc.fr.1]
  · cases hod : o.dst <;> simp [Act.put, hc.fr.2.1]
  · show VRep w' F' β' _ (fget (fputc S.fr o.dst v) t)
    rw [fget_fputc]
    by_cases hdt : o.dst = some t
    · rw [putF_eq hdt]
      have hlt : t < a.tmps.size := by rw [hc.fr.1]; exact hd t hdt
      have : (a.put o.dst u).tmps.getD t Go.undef = u := by simp [Act.put, hdt, Array.getD_eq_getD_getElem?, hlt]
      rw [this]; exact hv
    · rw [putF_ne hdt]
      have : (a.put o.dst u).tmps.getD t Go.undef = a.tmps.getD t Go.undef := by
        cases hod : o.dst with
        | none => rfl
        | some q =>
          have : q ≠ t := by rintro rfl; exact hdt hod
          simp [Act.put, Array.getD_eq_getD_getElem?, Array.getElem?_setIfInBounds_ne this]
      rw [this]
      exact he'.vrep hc.rep (hc.fr.2.2 t)
section
variable {ops : Array Oper} {i : Nat} {S : St} {K : St → Prop} {d : Option Nat} {x : X} {n : Nat} {ks vs : List V} {cur : Option (V × V)} {left : List (V × V)}
theorem RegJ.rng (hr : rawRng P sz ops i = some (d, x)) (hx : xcond S.fr x = true) (hv : tau (fget S.fr) x = .fmap ks vs)
    (k : RegJ P sz df m ops (i + 1) ⟨fputc S.fr d (.itp S.ob.length), S.ob ++ [some (.it none (ks.zip vs))]⟩ K) : RegJ P sz df m ops i S K := by
  unfold rawRng at hr
  split at hr
  · cases hr
  · rename_i o ho
    split at hr
    · rename_i t x' hop hgd hd
      split at hr
      · rename_i kt el hu
        simp only [Option.some.injEq, Prod.mk.injEq] at hr
        obtain ⟨rfl, rfl⟩ := hr
        refine RegJ.oprun0 ho (dstOK_lt hd) ?_ (by simp) k
        intro w F β a Q Kk o' ho' hfr hrep hK
        rw [ho] at ho'; cases ho'
        have hw := wanted_of (fr := fget S.fr) hfr (show guardV ops (fget S.fr) o.guard = some true by rw [hgd]; rfl)
        have hxv : VRep w F β (a.eval x') (.fmap ks vs) := by
          have := vrep_operand (w := w) (F := F) (β := β) (a := a) (fr := fget S.fr) (x := x') hrep.gl (fun t e => hfr t (by
            subst e
            exact List.mem_append_left _ (List.mem_filterMap.2 ⟨.tmp t, by simp [hop, Op.operands], rfl⟩))) (by rw [← xcond_opnd]; exact hx)
          rw [hv] at this; exact this
        obtain ⟨b, es, clock, ev, hF, hb, hbn, he⟩ := FEnts.of_zip hxv.fmap_inv
        obtain ⟨r1, r2⟩ := hrep.alloc_it (nn := S.ob.length) (Nat.le_refl _) hF hb hbn he
        unfold wpOp
        simp only [ho, hw, if_true]
        left
        have hrun : (execOp a.eval o).run P w = .ok (.value (.pointer (some ⟨w.heap.size, 0, none⟩))) (w.alloc (.mapIter (some b) clock #[] clock)) := by
          simp [execOp, hop, ev, run_range_map w t kt el b es clock hu hb, Result.andThen]
        unfold Oper.wp
        rw [hrun]
        rw [← oget_push] at r1 r2
        exact hK _ _ F _ (r1.av_mono (by intro q hq; simp at hq; omega)) (.itp (upd_same _ _ _)) r2
      · cases hr
    · cases hr
theorem RegJ.ent {p q : V} (hr : rawEnt sz ops i = some (d, x)) (hx : xcond S.fr x = true) (hv : tau (fget S.fr) x = .itp n) (hn : oget S.ob n = some (.it (some (p, q)) left))
    (k : RegJ P sz df m ops (i + 1) ⟨fputc S.fr d (.tup [p, q]), S.ob⟩ K) : RegJ P sz df m ops i S K := by
  unfold rawEnt at hr
  split at hr
  · cases hr
  · rename_i o ho
    split at hr
    · rename_i x' hop hgd hd
      simp only [Option.some.injEq, Prod.mk.injEq] at hr
      obtain ⟨rfl, rfl⟩ := hr
      refine RegJ.oprun0 ho (dstOK_lt hd) ?_ (Nat.le_refl _) k
      intro w F β a Q Kk o' ho' hfr hrep hK
      rw [ho] at ho'; cases ho'
      have hw := wanted_of (fr := fget S.fr) hfr (show guardV ops (fget S.fr) o.guard = some true by rw [hgd]; rfl)
      have hxv : VRep w F β (a.eval x') (.itp n) := by
        have := vrep_operand (w := w) (F := F) (β := β) (a := a) (fr := fget S.fr) (x := x') hrep.gl (fun t e => hfr t (by
          subst e
          exact List.mem_append_left _ (List.mem_filterMap.2 ⟨.tmp t, by simp [hop, Op.operands], rfl⟩))) (by rw [← xcond_opnd]; exact hx)
        rw [hv] at this; exact this
      obtain ⟨r, ev, hb⟩ := hxv.itp_inv
      obtain ⟨l, hl, hobj, _⟩ := hrep.obj n _ hn
      rw [hb] at hl; cases hl
      obtain ⟨b0, es, clock, since, seen, c0, h1, h2, h3, h4, h5, h6⟩ := hobj
      obtain ⟨e, seen', rfl, rfl, g3, g4, g5⟩ := h6 _ rfl
      unfold wpOp
      simp only [ho, hw, if_true]
      left
      have hrun : (execOp a.eval o).run P w = .ok (.value (.tuple #[e.key, e.val])) w := by
        simp [execOp, hop, ev, run_entry_at w r b0 since seen' es _ e h1 h3 g3 h4.1.2, Result.andThen]
      unfold Oper.wp
      rw [hrun]
      refine hK _ w F β hrep (.tup (by simp) fun j hj => ?_) (Evolve.refl _ _ _ _)
      match j, hj with
      | 0, _ => exact .fr g4
      | 1, _ => exact .fr g5
    · cases hr
theorem RegJ.nxt (hr : rawNxt sz ops i = some (d, x)) (hx : xcond S.fr x = true) (hv : tau (fget S.fr) x = .itp n) (hn : oget S.ob n = some (.it cur left))
    (k0 : left = [] → RegJ P sz df m ops (i + 1) ⟨fputc S.fr d (.tup [vb false]), S.ob⟩ K)
    (k1 : ∀ j e, left[j]? = some e → RegJ P sz df m ops (i + 1) ⟨fputc S.fr d (.tup [vb true, e.1, e.2]), S.ob.set n (some (.it (some e) (left.eraseIdx j)))⟩ K) : RegJ P sz df m ops i S K := by
  intro bs hbs w F β a R hc hR
  unfold rawNxt at hr
  split at hr
  · cases hr
  · rename_i o ho
    split at hr
    · rename_i x' hop hgd hd
      simp only [Option.some.injEq, Prod.mk.injEq] at hr
      obtain ⟨rfl, rfl⟩ := hr
      have hlt : n < S.ob.length := oget_some (by simp [hn])
      have hfr : ∀ t, VRep w F β (a.tmps.getD t Go.undef) (fget S.fr t) := hc.fr.2.2
      have hxv : VRep w F β (a.eval x') (.itp n) := by
        have := vrep_operand (w := w) (F := F) (β := β) (a := a) (fr := fget S.fr) (x := x') hc.rep.gl (fun t e => hfr t) (by rw [← xcond_opnd]; exact hx)
        rw [hv] at this; exact this
      obtain ⟨r, ev, hb⟩ := hxv.itp_inv
      obtain ⟨l, hl, hobj, _⟩ := hc.rep.obj n _ hn
      rw [hb] at hl; cases hl
      obtain ⟨b0, es, clock, since, seen, c0, h1, h2, h3, h4, h5, h6⟩ := hobj
      rcases run_next_at (P := P) w o.type r b0 since c0 seen es clock h1 h3 h4.2.1 h4.2.2.1 with ⟨g1, g2⟩ | ⟨e, g1, w1, g2, g3⟩
      · have hl0 : left = [] := by
          have : (leftL es seen).length = 0 := by rw [← leftOf_toList]; simpa using g1
          rw [h5.1] at this
          exact List.eq_nil_of_length_eq_zero this
        refine RegJ.step ho hgd (dstOK_lt hd) (Nat.le_refl _) (k0 hl0) hbs hc hR (u := .tuple #[.bool false]) (w' := w) (F' := F) (β' := β) ?_ hc.rep (.tup (by simp) fun j hj => ?_) (Evolve.refl _ _ _ _)
        · simp [execOp, hop, ev, g2, Result.andThen]
        · match j, hj with
          | 0, _ => exact .fr (.p rfl)
      · have hm := mem_left g1
        rw [leftOf_toList] at g1
        obtain ⟨j, hj⟩ := List.getElem?_of_mem g1
        have hjl : j < left.length := by rw [← h5.1]; exact (List.getElem?_eq_some_iff.1 hj).1
        obtain ⟨e', p, q1, q2, q3, q4⟩ := h5.2 j hjl
        rw [hj] at q1; cases q1
        have hne : r ≠ b0 := by rintro rfl; rw [h1] at h3; cases h3
        have hw1 : w1.heap = w.heap := by rcases g2 with rfl | rfl <;> rfl
        have hrr : (ChangeMaps.setBlock w1 r (.mapIter (some b0) since (seen.push e.born) clock)).heap[r]? = some (.mapIter (some b0) since (seen.push e.born) clock) := by
          show (w1.heap.setIfInBounds r _)[r]? = _
          have : r < w1.heap.size := by rw [hw1]; exact (Array.getElem?_eq_some_iff.1 h1).1
          simp [this]
        have hoth : ∀ c, c ≠ r → (ChangeMaps.setBlock w1 r (.mapIter (some b0) since (seen.push e.born) clock)).heap[c]? = w.heap[c]? := fun c hcr => by
          show (w1.heap.setIfInBounds r _)[c]? = _
          rw [Array.getElem?_setIfInBounds_ne (Ne.symm hcr), hw1]
        have hnF : ¬ F r := by
          obtain ⟨l', e1, _, e2⟩ := hc.rep.obj n _ hn
          rw [hb] at e1; cases e1
          exact (e2 r rfl).1
        have hFh : ∀ c, F c → (ChangeMaps.setBlock w1 r (.mapIter (some b0) since (seen.push e.born) clock)).heap[c]? = w.heap[c]? := fun c hcF => hoth c (by rintro rfl; exact hnF hcF)
        have ho' : ORep (ChangeMaps.setBlock w1 r (.mapIter (some b0) since (seen.push e.born) clock)) F β (.mp r) (.it (some p) (left.eraseIdx j)) := by
          refine ⟨b0, es, clock, since, seen.push e.born, clock, hrr, h2, (hFh _ h2).trans h3, ⟨h4.1, h4.2.1, h4.2.2.2, h4.2.2.2⟩, ?_, fun x hx => ?_⟩
          · rw [leftL_push h4.1 hj]
            have := h5.erase j
            refine ⟨this.1, fun i hi => ?_⟩
            obtain ⟨e2, x2, z1, z2, z3, z4⟩ := this.2 i hi
            exact ⟨e2, x2, z1, z2, z3.mono (fun _ h => h) hFh, z4.mono (fun _ h => h) hFh⟩
          · cases hx
            exact ⟨e, seen, rfl, rfl, hm.1, q3.mono (fun _ h => h) hFh, q4.mono (fun _ h => h) hFh⟩
        obtain ⟨r1, r2⟩ := hc.rep.write_it g2 hn hb _ ho'
        rw [← oget_set_upd _ hlt] at r1 r2
        refine RegJ.step ho hgd (dstOK_lt hd) (by simp) (k1 j p q2) hbs hc hR (u := .tuple #[.bool true, e.key, e.val]) (F' := F) (β' := β) ?_ (by simpa using r1) (.tup (by simp) fun j' hj' => ?_) r2
        · simp [execOp, hop, ev, g3, Result.andThen]
        · match j', hj' with
          | 0, _ => exact .fr (.p rfl)
          | 1, _ => exact .fr (q3.mono (fun _ h => h) hFh)
          | 2, _ => exact .fr (q4.mono (fun _ h => h) hFh)
    · cases hr
end
inductive FrzM (n : Nat) (ks vs : List V) : V → V → Prop
  | refl (x : V) : FrzM n ks vs x x
  | undef (x : V) : FrzM n ks vs x .undef
  | map : FrzM n ks vs (.map n) (.fmap ks vs)
inductive FrFrzM (n : Nat) (ks vs : List V) (fr : Fr) : Fr → Prop
  | nil : FrFrzM n ks vs fr []
  | cons {t : Nat} {v : V} {r : Fr} (h : FrzM n ks vs (fget fr t) v) (kk : FrFrzM n ks vs fr r) : FrFrzM n ks vs fr ((t, v) :: r)
theorem FrFrzM.get {n : Nat} {ks vs : List V} {fr fr' : Fr} (h : FrFrzM n ks vs fr fr') : ∀ t, FrzM n ks vs (fget fr t) (fget fr' t) := by
  induction h with
  | nil => exact fun t => .undef _
  | @cons u v r h _ ih =>
    intro t
    rw [fget_cons]
    by_cases e : u = t
    · subst e; rw [if_pos rfl]; exact h
    · rw [if_neg e]; exact ih t
section
variable {ops : Array Oper} {i : Nat} {S : St} {K : St → Prop} {d : Option Nat} {n t : Nat} {α β : Type} {ek : α → V} {ev : β → V} {c : Option (α × β)} {l : List (α × β)}
end
end
section
open Go
instance (n : Nat) : OfNat X n := ⟨.t n⟩
abbrev ki (n : Int) : X := .c (.p (.int .i64 n))
inductive Sel : Fr → Fr → Prop
  | a {l : Fr} : Sel l l
  | n {l : Fr} : Sel l []
  | d {x : Nat × V} {l r : Fr} (h : Sel l r) : Sel (x :: l) r
  | k {x : Nat × V} {l r : Fr} (h : Sel l r) : Sel (x :: l) (x :: r)
  | i {l r : Fr} (t : Nat) (v : V) (h : Sel l r) : Sel l ((t, v) :: r)
section
variable {x y z u : Nat × V} {l r : Fr}
theorem Sel.k2 (h : Sel l r) : Sel (x :: y :: l) (x :: y :: r) := .k (.k h)
theorem Sel.k3 (h : Sel l r) : Sel (x :: y :: z :: l) (x :: y :: z :: r) := .k (.k (.k h))
theorem Sel.k4 (h : Sel l r) : Sel (x :: y :: z :: u :: l) (x :: y :: z :: u :: r) := .k (.k (.k (.k h)))
theorem Sel.d2 (h : Sel l r) : Sel (x :: y :: l) r := .d (.d h)
theorem Sel.d3 (h : Sel l r) : Sel (x :: y :: z :: l) r := .d (.d (.d h))
theorem Sel.d4 (h : Sel l r) : Sel (x :: y :: z :: u :: l) r := .d (.d (.d (.d h)))
end
section
variable {P : Program} {sz : Nat} {df : List Deferred} {m : Nat} {ops : Array Oper} {i id : Nat} {fr fr' : Fr} {ob ob' : Objs} {K : St → Prop} {Q : PostS} {c : Code}
theorem rk (n : Nat) (s : Sel fr fr') (k : RegJ P sz df m ops (i + n) ⟨fr', ob⟩ K) (h : (stepJ P sz ops n i ⟨fr, ob⟩).map (fun S1 => (fr'.map fun e => fget S1.fr e.1, S1.ob)) = some (fr'.map Prod.snd, ob) := by kernel_rfl) : RegJ P sz df m ops i ⟨fr, ob⟩ K := RegJ.run n fr' ob h k
theorem rko (n : Nat) (s : Sel fr fr') (ob' : Objs) (k : RegJ P sz df m ops (i + n) ⟨fr', ob'⟩ K) (h : (stepJ P sz ops n i ⟨fr, ob⟩).map (fun S1 => (fr'.map fun e => fget S1.fr e.1, S1.ob)) = some (fr'.map Prod.snd, ob') := by kernel_rfl) : RegJ P sz df m ops i ⟨fr, ob⟩ K := RegJ.run n fr' ob' h k
theorem tk (s : Sel fr fr') (k : Q .normal ⟨fr', ob⟩) (h : (stepJ P sz ops ops.size 0 ⟨fr, ob⟩).map (fun S1 => (fr'.map fun e => fget S1.fr e.1, S1.ob)) = some (fr'.map Prod.snd, ob) := by kernel_rfl) : TriE P sz df m (.region id ops false) ⟨fr, ob⟩ Q := TriE.run fr' ob h k
theorem sk (s : Sel fr fr') (k : TriE P sz df m c ⟨fr', ob⟩ Q) (h : (stepJ P sz ops ops.size 0 ⟨fr, ob⟩).map (fun S1 => (fr'.map fun e => fget S1.fr e.1, S1.ob)) = some (fr'.map Prod.snd, ob) := by kernel_rfl) : TriE P sz df m (.seq (.region id ops false) c) ⟨fr, ob⟩ Q := TriE.seq (TriE.run fr' ob h k)
theorem sko (s : Sel fr fr') (ob' : Objs) (k : TriE P sz df m c ⟨fr', ob'⟩ Q) (h : (stepJ P sz ops ops.size 0 ⟨fr, ob⟩).map (fun S1 => (fr'.map fun e => fget S1.fr e.1, S1.ob)) = some (fr'.map Prod.snd, ob') := by kernel_rfl) : TriE P sz df m (.seq (.region id ops false) c) ⟨fr, ob⟩ Q := TriE.seq (TriE.run fr' ob' h k)
theorem jf (s : Sel fr fr') (k : K ⟨fr', ob⟩) (h : (fr'.map fun e => fget fr e.1) = fr'.map Prod.snd := by kernel_rfl) (hi : Nat.beq ops.size i = true := by kernel_rfl) : RegJ P sz df m ops i ⟨fr, ob⟩ K := jd fr' h hi k
theorem jk (n : Nat) (s : Sel fr fr') (k : K ⟨fr', ob⟩) (h : (stepJ P sz ops n i ⟨fr, ob⟩).map (fun S1 => (fr'.map fun e => fget S1.fr e.1, S1.ob)) = some (fr'.map Prod.snd, ob) := by kernel_rfl) (hi : Nat.beq ops.size (i + n) = true := by kernel_rfl) : RegJ P sz df m ops i ⟨fr, ob⟩ K := jrd n fr' ob h hi k
theorem jko (n : Nat) (s : Sel fr fr') (ob' : Objs) (k : K ⟨fr', ob'⟩) (h : (stepJ P sz ops n i ⟨fr, ob⟩).map (fun S1 => (fr'.map fun e => fget S1.fr e.1, S1.ob)) = some (fr'.map Prod.snd, ob') := by kernel_rfl) (hi : Nat.beq ops.size (i + n) = true := by kernel_rfl) : RegJ P sz df m ops i ⟨fr, ob⟩ K := jrd n fr' ob' h hi k
theorem ts (s : Sel fr fr') (k : TriE P sz df m c ⟨fr', ob⟩ Q) (h : (fr'.map fun e => fget fr e.1) = fr'.map Prod.snd := by kernel_rfl) : TriE P sz df m c ⟨fr, ob⟩ Q := TriE.sees (sl h) k
theorem rs (s : Sel fr fr') (k : RegJ P sz df m ops i ⟨fr', ob⟩ K) (h : (fr'.map fun e => fget fr e.1) = fr'.map Prod.snd := by kernel_rfl) : RegJ P sz df m ops i ⟨fr, ob⟩ K := RegJ.sees (sl h) k
theorem dk {acc : List (List Nat × List Nat)} (n : Nat) (s : Sel fr fr') (k : RegD P sz df m ops (i + n) ⟨fr', ob ++ List.replicate n none⟩ (accD P sz ops n i ⟨fr, ob⟩ acc) K) (h : (stepD P sz ops n i ⟨fr, ob⟩ acc).map Prod.fst = some ⟨fr', ob ++ List.replicate n none⟩ := by kernel_rfl) : RegD P sz df m ops i ⟨fr, ob⟩ acc K := RegD.run n fr' _ h k
theorem dko {acc : List (List Nat × List Nat)} (n : Nat) (s : Sel fr fr') (ob' : Objs) (k : RegD P sz df m ops (i + n) ⟨fr', ob'⟩ (accD P sz ops n i ⟨fr, ob⟩ acc) K) (h : (stepD P sz ops n i ⟨fr, ob⟩ acc).map Prod.fst = some ⟨fr', ob'⟩ := by kernel_rfl) : RegD P sz df m ops i ⟨fr, ob⟩ acc K := RegD.run n fr' _ h k
theorem dfi {acc : List (List Nat × List Nat)} (s : Sel fr fr') (rs : List Nat) (o : ObRen (rho ob.length rs) ob rs ob') (k : K ⟨fr', ob'⟩) (hi : Nat.beq ops.size i = true := by kernel_rfl) (hd : drawOK ops acc = true := by kernel_rfl) (hn : rs.Nodup := by decide) (hf : (fr'.map fun e => e.2.ren (rho ob.length rs)) = (fr'.map fun e => fget fr e.1) := by kernel_rfl)
    (le : Nat.ble m ob'.length = true := by kernel_rfl) (low : ((List.range m).all fun n => Nat.beq (rs.getD n 0) n) = true := by kernel_rfl) : RegD P sz df m ops i ⟨fr, ob⟩ acc K := RegD.done hi hd (sc (S' := ⟨fr', ob'⟩) rs hn hf o le low) k
variable {S : St} {v : V} {rd : List Nat} {eff : Eff} {acc : List (List Nat × List Nat)} {g : Bool} {t : Nat} {b : Bool}
theorem jo (d : Nat) (op : IOp) (h : Ok op (tau (fget S.fr)) (oget S.ob) S.ob.length v rd) (k : RegJ P sz df m ops (i + 1) ⟨(d, v) :: S.fr, S.ob⟩ K) (hc : compAt P sz ops i = some (I0 d op) := by kernel_rfl) (hx : op.as.all (xcond S.fr) = true := by kernel_rfl) : RegJ P sz df m ops i S K :=
  jv v hc h hx k
theorem dp (d : Nat) (op : IOp) (h : Ok op (tau (fget S.fr)) (oget S.ob) S.ob.length v rd) (k : RegD P sz df m ops (i + 1) ⟨(d, v) :: S.fr, S.ob ++ [none]⟩ (acc ++ [(rd, [])]) K) (hc : compAt P sz ops i = some (I0 d op) := by kernel_rfl) (hx : op.as.all (xcond S.fr) = true := by kernel_rfl) : RegD P sz df m ops i S acc K :=
  dv v hc h hx k
theorem jx (d : Nat) (op : IOp) (ob' : Objs) (h : isem op (tau (fget S.fr)) (oget S.ob) S.ob.length = some ⟨v, eff, true, rd⟩) (he : effOK eff S.ob.length = true) (ho : eff.obs S.ob = ob') (k : RegJ P sz df m ops (i + 1) ⟨(d, v) :: S.fr, ob'⟩ K) (hc : compAt P sz ops i = some (I0 d op) := by kernel_rfl) (hx : op.as.all (xcond S.fr) = true := by kernel_rfl) : RegJ P sz df m ops i S K :=
  je v ob' hc h hx he ho k
theorem gk (v : V) (d : Nat) (op : IOp) (t : Nat) (b : Bool) (hg : gval S.fr (some (t, b)) = some g) (hx : g = true → Conds S.fr op.as) (k : RegJ P sz df m ops (i + 1) ⟨(d, .cond g v) :: S.fr, S.ob⟩ K) (hv : isemV op (tau (fget S.fr)) (oget S.ob) S.ob.length = some v := by kernel_rfl)
    (hc : compAt P sz ops i = some (IG d op t b) := by kernel_rfl) : RegJ P sz df m ops i S K := RegJ.op (Op1.valk op op.as hc hg hv hx) k
theorem gj (v : V) (d : Nat) (op : IOp) (t : Nat) (b : Bool) (hg : gval S.fr (some (t, b)) = some g) (k : RegJ P sz df m ops (i + 1) ⟨(d, .cond g v) :: S.fr, S.ob⟩ K) (hx : op.as.all (xcond S.fr) = true := by kernel_rfl) (hv : isemV op (tau (fget S.fr)) (oget S.ob) S.ob.length = some v := by kernel_rfl)
    (hc : compAt P sz ops i = some (IG d op t b) := by kernel_rfl) : RegJ P sz df m ops i S K := RegJ.op (Op1.valk op op.as hc hg hv fun _ => .of hx) k
theorem gd (g : Bool) (v : V) (d : Nat) (op : IOp) (t : Nat) (b : Bool) (hg : gval S.fr (some (t, b)) = some g) (hx : g = true → Conds S.fr op.as) (k : RegD P sz df m ops (i + 1) ⟨(d, .cond g v) :: S.fr, S.ob ++ [none]⟩ (acc ++ [(isemR op (tau (fget S.fr)) (oget S.ob) S.ob.length, [])]) K)
    (hv : isemV op (tau (fget S.fr)) (oget S.ob) S.ob.length = some v := by kernel_rfl) (hc : compAt P sz ops i = some (IG d op t b) := by kernel_rfl) : RegD P sz df m ops i S acc K := RegD.op (OpD.valk op op.as hc hg hv hx) k
theorem gu (g : Bool) (d : Nat) (op : IOp) (t : Nat) (b : Bool) (hg : gval S.fr (some (t, b)) = some g) (h : g = true → Ok op (tau (fget S.fr)) (oget S.ob) S.ob.length v rd) (hx : g = true → Conds S.fr op.as) (k : RegD P sz df m ops (i + 1) ⟨(d, .cond g v) :: S.fr, S.ob ++ [none]⟩ (acc ++ [(rd, [])]) K)
    (hc : compAt P sz ops i = some (IG d op t b) := by kernel_rfl) : RegD P sz df m ops i S acc K := RegD.op (OpD.valg op op.as hc hg h hx) k
theorem gv (d : Nat) (op : IOp) (t : Nat) (b : Bool) (hg : gval S.fr (some (t, b)) = some g) (h : g = true → Ok op (tau (fget S.fr)) (oget S.ob) S.ob.length v rd) (hx : g = true → Conds S.fr op.as) (k : RegJ P sz df m ops (i + 1) ⟨(d, .cond g v) :: S.fr, S.ob⟩ K)
    (hc : compAt P sz ops i = some (IG d op t b) := by kernel_rfl) : RegJ P sz df m ops i S K := RegJ.op (Op1.valg op op.as hc hg h hx) k
theorem q1 {x y : Code} {S : St} (h : TriE P sz df m x S (seqS P sz df m y Q)) : TriE P sz df m (.seq x y) S Q := TriE.seq h
theorem q2 {S : St} (h : Q .normal S) : TriE P sz df m .skip S Q := TriE.skip h
theorem q3 {S : St} (h : Q .ret S) : TriE P sz df m .ret S Q := TriE.ret h
theorem q4 {id : Nat} {c : Code} {S : St} (h : TriE P sz df m c S (blockS id Q)) : TriE P sz df m (.block id c) S Q := TriE.block h
theorem q5 {id : Nat} {S : St} (h : Q (.exit id) S) : TriE P sz df m (.exit id) S Q := TriE.exit h
theorem q6 {id : Nat} {S : St} (h : RegJ P sz df m ops 0 S (Q .normal)) : TriE P sz df m (.region id ops false) S Q := TriE.regJ h
theorem q7 {id : Nat} {c x : Code} {S : St} (h : TriE P sz df m c S (blockS id (seqS P sz df m x Q))) : TriE P sz df m (.seq (.block id c) x) S Q := TriE.seq (TriE.block h)
theorem si {α : Type} {a b : α} (h : some a = some b) : a = b := Option.some.inj h
theorem cK {α : Type} {b : Bool} {k : Option α} {r : α} {Q : Prop} (h : chk b k = some r) (g : b = true → k = some r → Q) : Q := g (chk_some h).1 (chk_some h).2
theorem bK {α β : Type} {x : Option α} {f : α → Option β} {r : β} {Q : Prop} (h : x.bind f = some r) (g : ∀ y, x = some y → f y = some r → Q) : Q := let ⟨y, a, b⟩ := bind_some h; g y a b
theorem bs {α β : Type} {x : Option α} {f : α → Option β} {r : β} (h : x.bind f = some r) : ∃ y, x = some y ∧ f y = some r := bind_some h
theorem tc {R : Type} {p q : Option R} {r : R} {b : Bool} {S : St} {c : Operand} {x y : Code} (h : (bif b then p else q) = some r) (ht : b = true → p = some r → TriE P sz df m x S Q) (he : b = false → q = some r → TriE P sz df m y S Q) (hb : xbool S.fr (toX c) = some b := by kernel_rfl) : TriE P sz df m (.cond c x y) S Q :=
  TriE.cond hb (fun e => ht e (cond_t h e)) (fun e => he e (cond_f h e))
theorem fo {k : FuncId} {fn : Func} {c : Code} {xs : List V} {ob' : Objs} {y : V} (ts : List Nat) (henter : ∀ args w, (callFunc k args).run P w = .ok (.enter k args) w) (hf : P.funcs[k]? = some fn) (hb : fn.body = some c) (h : TriE P fn.ntmps [] 0 c ⟨frOf xs 0, []⟩ (DoneS 0 ts y ob'))
    (hr : fn.results = (ts.map ResultVar.tmp).toArray := by kernel_rfl) (hn : Nat.ble xs.length fn.ntmps = true := by kernel_rfl) : FnL P k xs [] y ob' := FnL.ofS henter hf hb hr (Nat.le_of_ble_eq_true hn) (Nat.zero_le _) (fun j h => absurd h (Nat.not_lt_zero j)) h
theorem po {cb c1 y1 yb : Bool} {S : St} (d : Nat) (c y : X) (hc : xval S.fr c = some (c1, cb)) (hy : xval S.fr y = some (y1, yb)) (k : RegJ P sz df m ops (i + 1) ⟨(d, vb (cb || yb)) :: S.fr, S.ob⟩ K) (hco : compAt P sz ops i = some (I0 d (.pick c (.c (.p (.bool true))) y)) := by kernel_rfl)
    (hok : (c1 && (cb || y1)) = true := by first | exact hokO1 | exact hokO0 | simp) : RegJ P sz df m ops i S K := RegJ.op (Op1.or hco hc hy hok) k
theorem pa {cb c1 y1 yb : Bool} {S : St} (d : Nat) (c y : X) (hc : xval S.fr c = some (c1, cb)) (hy : xval S.fr y = some (y1, yb)) (k : RegJ P sz df m ops (i + 1) ⟨(d, vb (cb && yb)) :: S.fr, S.ob⟩ K) (hco : compAt P sz ops i = some (I0 d (.pick c y (.c (.p (.bool false))))) := by kernel_rfl)
    (hok : (c1 && (!cb || y1)) = true := by first | exact hokA1 | exact hokA0 | simp) : RegJ P sz df m ops i S K := RegJ.op (Op1.and hco hc hy hok) k
theorem jc {f : Nat} {xs : List V} {y : V} (d : Nat) (as : List X) (h : FnL P f xs [] y []) (k : RegJ P sz df m ops (i + 1) ⟨(d, y) :: S.fr, S.ob⟩ K) (hy : y.ren (rho S.ob.length []) = y := by kernel_rfl) (hc : compAt P sz ops i = some (I0 d (.call f as)) := by kernel_rfl) (ha : as.map (tau (fget S.fr)) = renL (rho S.ob.length []) xs := by kernel_rfl)
    (hx : (IOp.call f as).as.all (xcond S.fr) = true := by kernel_rfl) : RegJ P sz df m ops i S K := RegJ.op (Op1.call as _ hc rfl h [] ha (.of hx) rfl rfl .nil hy .nil (List.append_nil _)) k
theorem jy {f : Nat} {xs first caps : List V} {ob ob' obx oby ob2 : Objs} {y : V} (y' : V) (d : Nat) (gx : X) (as : List X) (hf : tau (fget S.fr) gx = .fn (.func f) first caps) (h : FnL P f xs ob y ob') (rs : List Nat) (hob : rs.map (oget S.ob) = obx) (hobx : ObsRen (rho S.ob.length rs) ob obx) (hoby : ObsRen (rho S.ob.length rs) ob' oby) (ho : setAll S.ob rs oby = ob2)
    (k : RegJ P sz df m ops (i + 1) ⟨(d, y') :: S.fr, ob2⟩ K) (hc : compAt P sz ops i = some (I0 d (.dyn gx as)) := by kernel_rfl) (ha : first ++ as.map (tau (fget S.fr)) ++ caps = renL (rho S.ob.length rs) xs := by kernel_rfl) (hx : (IOp.dyn gx as).as.all (xcond S.fr) = true := by kernel_rfl) (hrs : callOK S.ob.length rs = true := by kernel_rfl)
    (hy : y.ren (rho S.ob.length rs) = y' := by kernel_rfl) : RegJ P sz df m ops i S K := RegJ.op (Op1.dyn gx as _ hc rfl hf h rs ha (.of hx) hrs hob hobx hy hoby ho) k
theorem dc {f : Nat} {xs : List V} {ob ob' obx oby ob2 : Objs} {y : V} {tch : List Nat} (y' : V) (c : Nat) (d : Nat) (as : List X) (h : FnL P f xs ob y ob') (rs : List Nat) (hob : rs.map (oget S.ob) = obx) (hobx : ObsRen (rhoU S.ob.length c rs) ob obx) (hoby : ObsRen (rhoU S.ob.length c rs) ob' oby) (ho : setAll S.ob rs oby ++ [none] = ob2) (ht : CallT S rs c ob ob' tch)
    (k : RegD P sz df m ops (i + 1) ⟨(d, y') :: S.fr, ob2⟩ (acc ++ [(rs, tch)]) K) (hc : compAt P sz ops i = some (I0 d (.call f as)) := by kernel_rfl) (ha : as.map (tau (fget S.fr)) = renL (rhoU S.ob.length c rs) xs := by kernel_rfl) (hx : (IOp.call f as).as.all (xcond S.fr) = true := by kernel_rfl) (hrs : callOK S.ob.length rs = true := by kernel_rfl)
    (hy : y.ren (rhoU S.ob.length c rs) = y' := by kernel_rfl) (hcc : c = ob'.length - rs.length := by kernel_rfl) : RegD P sz df m ops i S acc K := RegD.op (OpD.call c as _ hc h rs ha (.of hx) hrs hob hobx hy hoby ho hcc ht) k
theorem gc {f : Nat} {xs : List V} {y : V} (d : Nat) (as : List X) (t : Nat) (b : Bool) (hg : gval S.fr (some (t, b)) = some g) (h : g = true → FnL P f xs [] y []) (hx : g = true → Conds S.fr (IOp.call f as).as) (ha : g = true → as.map (tau (fget S.fr)) = renL (rho S.ob.length []) xs) (k : RegJ P sz df m ops (i + 1) ⟨(d, .cond g y) :: S.fr, S.ob⟩ K)
    (hy : y.ren (rho S.ob.length []) = y := by kernel_rfl) (hc : compAt P sz ops i = some (IG d (.call f as) t b) := by kernel_rfl) : RegJ P sz df m ops i S K := RegJ.op (Op1.callg as _ hc hg h [] ha hx rfl rfl .nil hy (List.append_nil _)) k
end
end
section
open Go
variable {P : Program} {sz : Nat} {df : List Deferred} {m : Nat}
end
section
open Go
variable {P : Program} {sz : Nat} {df : List Deferred} {m : Nat}
def slotR : ResultVar → Nat
  | .tmp t => t
  | .cell a _ => a
def loadC (P : Program) (S : St) (a : Nat) (ty : TypeId) : Option V := match tAgg P ty, tSize P ty, fget S.fr a with
  | some ag, some k, .ptr n i off => match oget S.ob n with
    | some (.row _ es) => match decide (i < es.length) with
      | true => loadE ag k (nth es i) off
      | false => none
    | _ => none
  | _, _, _ => none
def resV (P : Program) (S : St) : ResultVar → Option V
  | .tmp t => some (fget S.fr t)
  | .cell a ty => loadC P S a ty
def zipR : List ResultVar → List V → Fr
  | r :: rs, v :: vs => (slotR r, v) :: zipR rs vs
  | _, _ => []
def resVs (P : Program) (S : St) : List ResultVar → Option (List V)
  | [] => some []
  | r :: rs => match resV P S r, resVs P S rs with
    | some v, some vs => some (v :: vs)
    | _, _ => none
def getR (tmps : Array Value) : ResultVar → Sem Value
  | .tmp t => pure (tmps.getD t Go.undef)
  | .cell b t => do loadVar t (← asAddr (tmps.getD b Go.undef))
theorem resV_run {S : St} {b : Base} {w : World} {F : Nat → Prop} {β : Beta} {a : Act} (hc : Cur m sz df b S w F β a) {r : ResultVar} {v : V} (h : resV P S r = some v) : ∃ u, (getR a.tmps r).run P w = .ok u w ∧ VRep w F β u v := by
  cases r with
  | tmp t =>
    simp only [resV, Option.some.injEq] at h
    subst h
    exact ⟨_, rfl, hc.fr.2.2 t⟩
  | cell c ty =>
    simp only [resV, loadC] at h
    split at h
    · rename_i ag k n i off h1 h2 h3
      split at h
      · rename_i k0 es h4
        split at h
        · rename_i h5
          have hi : i < es.length := by simpa using h5
          have hv := hc.fr.2.2 c
          rw [h3] at hv
          obtain ⟨blk, s, k', sz', hb, e⟩ := hv.ptr_inv
          obtain ⟨l, hl, ho, _⟩ := hc.rep.obj n _ h4
          rw [hb] at hl; cases hl
          have hfl : (nth es i).flat.length = k' := by obtain ⟨_, cs, T, g1, g2, g3, g4, g5, g6⟩ := ho; exact (g5 i hi).1
          obtain ⟨u, hu, hvv⟩ := load_cells (P := P) (p := s + i * k') h1 h2 hfl (fun j hj => row_cell ho i j hi hj) h
          refine ⟨u, ?_, hvv⟩
          simp only [getR, e]
          simpa [asAddr] using hu
        · cases h
      · cases h
    · cases h
def lookR : List ResultVar → List Value → Nat → Value
  | r :: rs, u :: us, t => match Nat.decEq (slotR r) t with
    | .isTrue _ => u
    | .isFalse _ => lookR rs us t
  | _, _, _ => Go.undef
theorem look_fr {w : World} {F : Nat → Prop} {β : Beta} : ∀ (rs : List ResultVar) (us : List Value) (vs : List V), us.length = rs.length → vs.length = rs.length → (∀ j, j < rs.length → VRep w F β (us.getD j Go.undef) (nth vs j)) → ∀ t, VRep w F β (lookR rs us t) (fget (zipR rs vs) t)
  | [], us, vs, _, _, _, t => by
    cases us <;> cases vs <;> exact .undef
  | r :: rs, u :: us, v :: vs, h1, h2, h, t => by
    simp only [lookR, zipR, fget]
    cases Nat.decEq (slotR r) t with
    | isTrue _ => exact h 0 (by simp)
    | isFalse _ => exact look_fr rs us vs (by simpa using h1) (by simpa using h2) (fun j hj => h (j + 1) (by simpa using hj)) t
  | _ :: _, [], _, h, _, _, _ => by simp at h
  | _ :: _, _ :: _, [], _, h, _, _ => by simp at h
theorem look_at : ∀ (rs : List ResultVar) (us : List Value), us.length = rs.length → (rs.map slotR).Nodup → ∀ j (hj : j < rs.length), lookR rs us (slotR rs[j]) = us.getD j Go.undef
  | [], us, _, _, j, hj => by simp at hj
  | r :: rs, u :: us, h1, hn, j, hj => by
    simp only [List.map_cons, List.nodup_cons] at hn
    cases j with
    | zero =>
      simp only [List.getElem_cons_zero, lookR]
      split
      · rfl
      · rename_i hne _; exact absurd rfl hne
    | succ j =>
      have hj' : j < rs.length := by simpa using hj
      simp only [List.getElem_cons_succ, lookR]
      split
      · rename_i he _
        exact absurd (he ▸ List.mem_map_of_mem (List.getElem_mem hj')) hn.1
      · simpa using look_at rs us (by simpa using h1) hn.2 j hj'
  | _ :: _, [], h, _, _, _ => by simp at h
theorem resVs_run {S : St} {b : Base} {w : World} {F : Nat → Prop} {β : Beta} {a : Act} (hc : Cur m sz df b S w F β a) : ∀ {rs : List ResultVar} {vs : List V}, resVs P S rs = some vs → ∃ us : List Value, us.length = rs.length ∧ vs.length = rs.length ∧ ∀ j (hj : j < rs.length), (getR a.tmps rs[j]).run P w = .ok (us.getD j Go.undef) w ∧ VRep w F β (us.getD j Go.undef) (nth vs j)
  | [], vs, h => by cases h; exact ⟨[], rfl, rfl, fun j hj => by simp at hj⟩
  | r :: rs, vs, h => by
    simp only [resVs] at h
    split at h
    · rename_i v vs' h1 h2
      cases h
      obtain ⟨us, g1, g2, g3⟩ := resVs_run hc h2
      obtain ⟨u, k1, k2⟩ := resV_run hc h1
      refine ⟨u :: us, by simp [g1], by simp [g2], fun j hj => ?_⟩
      cases j with
      | zero => exact ⟨k1, k2⟩
      | succ j => exact g3 j (by simpa using hj)
    · cases h
theorem resT_rep {tmps1 : Array Value} {w : World} {F : Nat → Prop} {β : Beta} {fr : Fr} (hv : ∀ t, VRep w F β (tmps1.getD t Go.undef) (fget fr t)) (ts : List Nat) :
    VRep w F β (if h : (ts.map fun t => tmps1.getD t Go.undef).toArray.size = 1 then (ts.map fun t => tmps1.getD t Go.undef).toArray[0] else .tuple (ts.map fun t => tmps1.getD t Go.undef).toArray) (resT ts fr) := by
  match ts with
  | [] => exact .tup (by simp) (fun j hj => by simp at hj)
  | [t] => exact hv t
  | t :: u :: r =>
    have : ¬ ((List.map (fun t => tmps1.getD t Go.undef) (t :: u :: r)).toArray.size = 1) := by simp
    rw [dif_neg this]
    refine .tup (by simp) fun j hj => ?_
    have hj' : j < (t :: u :: r).length := by simpa using hj
    have e1 : (List.map (fun t => tmps1.getD t Go.undef) (t :: u :: r)).toArray.getD j Go.undef = tmps1.getD ((t :: u :: r)[j]) Go.undef := by
      simp only [Array.getD_eq_getD_getElem?, List.getElem?_toArray, List.getElem?_map, List.getElem?_eq_getElem hj', Option.map_some, Option.getD_some]
    have e2 : nth (List.map (fget fr) (t :: u :: r)) j = fget fr ((t :: u :: r)[j]) := by
      simp only [nth, List.getD, List.getElem?_map, List.getElem?_eq_getElem hj', Option.map_some, Option.getD_some]
    rw [e1, e2]
    exact hv _
theorem resultsC_run {fn : Func} {rs : List ResultVar} (hr : fn.results = rs.toArray) {tmps tmps1 : Array Value} {w : World} (h : ∀ r ∈ rs, (getR tmps r).run P w = .ok (tmps1.getD (slotR r) Go.undef) w) {F : Nat → Prop} {β : Beta} {fr : Fr} (hv : ∀ t, VRep w F β (tmps1.getD t Go.undef) (fget fr t)) :
    ∃ v, (results fn tmps).run P w = .ok v w ∧ VRep w F β v (resT (rs.map slotR) fr) := by
  classical
  let ts : List Nat := rs.map slotR
  have hm : (fn.results.mapM (getR tmps)).run P w = .ok (ts.map fun t => tmps1.getD t Go.undef).toArray w := by
    rw [hr]
    refine run_array_mapM (P := P) (w := w) _ (fun r => if (getR tmps r).run P w = .ok (tmps1.getD (slotR r) Go.undef) w then some (tmps1.getD (slotR r) Go.undef) else none) ?_ _ _ ?_
    · intro r c hc
      split at hc
      · rename_i e; cases hc; exact e
      · cases hc
    · show rs.mapM _ = some _
      simp only [ts]
      clear hr hv ts
      induction rs with
      | nil => rfl
      | cons r rs ih =>
        rw [List.mapM_cons, if_pos (h r (by simp)), ih fun x hx => h x (by simp [hx])]
        rfl
  obtain ⟨v, e, hvv⟩ : ∃ v, v = (if h : (ts.map fun t => tmps1.getD t Go.undef).toArray.size = 1 then (ts.map fun t => tmps1.getD t Go.undef).toArray[0] else .tuple (ts.map fun t => tmps1.getD t Go.undef).toArray) ∧ VRep w F β v (resT ts fr) := ⟨_, rfl, resT_rep hv ts⟩
  refine ⟨v, ?_, hvv⟩
  rw [e]
  unfold results
  rw [Sem.run_bind]
  exact (congrArg (fun r => Result.andThen r (fun (vs : Array Value) w' => Sem.run P (pure (if h : vs.size = 1 then vs[0] else Value.tuple vs)) w')) hm)
def DoneC (P : Program) (m : Nat) (rs : List ResultVar) (y : V) (ob' : Objs) : PostS := fun e S => match e with
  | .normal | .ret => ∃ vs, resVs P S rs = some vs ∧ Vs m (fun S' => resT (rs.map slotR) S'.fr = y ∧ S'.ob = ob') ⟨zipR rs vs, S.ob⟩
  | _ => False
theorem DoneC.ret {rs : List ResultVar} {y : V} {ob' : Objs} {S S' : St} (vs : List V) (h : Sees m ⟨zipR rs vs, S.ob⟩ S') (hr : resT (rs.map slotR) S'.fr = y) (ho : S'.ob = ob') (hv : resVs P S rs = some vs := by kernel_rfl) : DoneC P m rs y ob' .ret S := ⟨vs, hv, S', h, hr, ho⟩
theorem DoneC.normal {rs : List ResultVar} {y : V} {ob' : Objs} {S S' : St} (vs : List V) (h : Sees m ⟨zipR rs vs, S.ob⟩ S') (hr : resT (rs.map slotR) S'.fr = y) (ho : S'.ob = ob') (hv : resVs P S rs = some vs := by kernel_rfl) : DoneC P m rs y ob' .normal S := ⟨vs, hv, S', h, hr, ho⟩
def slotsOK (sz : Nat) (rs : List ResultVar) : Bool := rs.all fun r => Nat.blt (slotR r) sz
theorem DoneC.act {rs : List ResultVar} {vs : List V} {S : St} {b : Base} {w : World} {F : Nat → Prop} {β : Beta} {a : Act} (hnd : (rs.map slotR).Nodup) (hsz : slotsOK sz rs = true) (hc : Cur m sz df b S w F β a) (h : resVs P S rs = some vs) :
    ∃ a1 : Act, Cur m sz df b ⟨zipR rs vs, S.ob⟩ w F β a1 ∧ ∀ r ∈ rs, (getR a.tmps r).run P w = .ok (a1.tmps.getD (slotR r) Go.undef) w := by
  obtain ⟨us, g1, g2, g3⟩ := resVs_run hc h
  have hlk : ∀ t, ¬ t < sz → lookR rs us t = Go.undef := by
    intro t ht
    clear g3 g2 h hnd
    induction rs generalizing us with
    | nil => cases us <;> rfl
    | cons r rs ih =>
      cases us with
      | nil => simp at g1
      | cons u us =>
        simp only [slotsOK, List.all_cons, Bool.and_eq_true] at hsz
        have h1 : slotR r < sz := Nat.le_of_ble_eq_true hsz.1
        simp only [lookR]
        cases Nat.decEq (slotR r) t with
        | isTrue e => exact absurd (e ▸ h1) ht
        | isFalse _ => exact ih hsz.2 us (by simpa using g1)
  let T : Array Value := ((List.range sz).map (lookR rs us)).toArray
  have hT : ∀ t, T.getD t Go.undef = lookR rs us t := by
    intro t
    by_cases ht : t < sz
    · simp [T, Array.getD_eq_getD_getElem?, ht]
    · rw [hlk t ht]
      simp [T, Array.getD_eq_getD_getElem?, ht]
  refine ⟨{ a with tmps := T }, ⟨hc.le, ⟨by simp [T], hc.fr.2.1, fun t => ?_⟩, hc.rep, hc.ev⟩, fun r hr => ?_⟩
  · show VRep w F β (T.getD t Go.undef) _
    rw [hT]
    exact look_fr rs us vs g1 g2 (fun j hj => (g3 j hj).2) t
  · obtain ⟨j, hj, rfl⟩ := List.mem_iff_getElem.1 hr
    show _ = Result.ok (T.getD (slotR rs[j]) Go.undef) w
    rw [hT, look_at rs us g1 hnd j hj]
    exact (g3 j hj).1
theorem FnL.ofC {k : FuncId} {fn : Func} {c : Code} {xs : List V} {ob ob' : Objs} {y : V} (rs : List ResultVar) (henter : ∀ args w, (callFunc k args).run P w = .ok (.enter k args) w)
    (hf : P.funcs[k]? = some fn) (hb : fn.body = some c) (ha : AllSome ob) (h : TriE P fn.ntmps [] ob.length c ⟨frOf xs 0, ob⟩ (DoneC P ob.length rs y ob'))
    (hr : fn.results = rs.toArray := by kernel_rfl) (hn : Nat.ble xs.length fn.ntmps = true := by kernel_rfl) (hl : Nat.ble ob.length ob'.length = true := by kernel_rfl) (hnd : (rs.map slotR).Nodup := by decide) (hsz : slotsOK fn.ntmps rs = true := by kernel_rfl) : FnL P k xs ob y ob' := by
  refine ⟨henter, Nat.le_of_ble_eq_true hl, hall_of ha, fun w F β args hrep hargs => ?_⟩
  refine calls_of_wp hf hb ?_
  have hn := Nat.le_of_ble_eq_true hn
  have hsz0 : args.size = xs.length := hargs.1
  have hcur : Cur ob.length fn.ntmps [] ⟨w, F, β, oget ob⟩ ⟨frOf xs 0, ob⟩ w F β { tmps := args ++ Array.replicate (fn.ntmps - args.size) Go.undef, defers := [] } := by
    refine ⟨Nat.le_refl _, ⟨by simp; omega, rfl, fun t => ?_⟩, hrep, Evolve.refl _ _ _ _⟩
    show VRep w F β _ (fget (frOf xs 0) t)
    rw [fget_frOf, if_pos (Nat.zero_le _), Nat.sub_zero]
    by_cases ht : t < xs.length
    · have : (args ++ Array.replicate (fn.ntmps - args.size) Go.undef).getD t Go.undef = args.getD t Go.undef := by
        simp only [Array.getD_eq_getD_getElem?]
        rw [Array.getElem?_append_left (by omega)]
      rw [this]; exact hargs.2 t ht
    · have : nth xs t = .undef := by simp only [nth, List.getD]; rw [List.getElem?_eq_none (by omega)]; rfl
      rw [this]; exact .undef
  refine Code.wp_mono ?_ (h ⟨w, F, β, oget ob⟩ (fun n hn => hrep.dom n hn) w F β _ hcur)
  have fin : ∀ (a' : Act) (w' : World) (S : St) (F' : Nat → Prop) (β' : Beta), (∃ vs, resVs P S rs = some vs ∧ Vs ob.length (fun S' => resT (rs.map slotR) S'.fr = y ∧ S'.ob = ob') ⟨zipR rs vs, S.ob⟩) → Cur ob.length fn.ntmps [] ⟨w, F, β, oget ob⟩ S w' F' β' a' →
      a'.defers = [] ∧ ∃ v, (results fn a'.tmps).run P w' = .ok v w' ∧ ∃ v2 F' β', Ending.returned v = .returned v2 ∧ Rep w' F' β' (oget ob') (fun n => ob'.length ≤ n) ∧ VRep w' F' β' v2 y ∧ Evolve w F β (oget ob) w' F' β' (oget ob') := by
    rintro a' w' S F' β' ⟨vs, hvs, S2, k1, rfl, rfl⟩ hc
    obtain ⟨a1, hc1, hrun⟩ := DoneC.act hnd hsz hc hvs
    obtain ⟨F2, β2, hc2⟩ := k1 _ _ _ (fun n hn => hrep.dom n hn) _ _ _ _ hc1
    obtain ⟨v, r1, r2⟩ := resultsC_run (P := P) hr hrun hc2.fr.2.2
    exact ⟨hc.fr.2.1, v, r1, v, _, _, rfl, hc2.rep, r2, hc2.ev⟩
  rintro e a' w' ⟨S, F', β', hq, hc⟩
  cases e with
  | normal => exact fin a' w' S F' β' hq hc
  | ret => exact fin a' w' S F' β' hq hc
  | _ => exact hq.elim
end
section
open Go
variable {P : Program} {sz : Nat} {df : List Deferred} {m : Nat}
theorem SlAt.first {w : World} {F : Nat → Prop} {β : Beta} {k : Nat} {v : Value} {es : List V} (h : SlAt w F β k v es) (n : Nat) (hn : n ≤ es.length) : (Builtin.lenOf v).run P w = .ok es.length w ∧ ∃ cs : List Value, (Builtin.firstCells k n v).run P w = .ok cs.toArray w ∧ cs.length = n * k ∧
    (∀ i, i < n → okE k (nth (es.take n) i)) ∧ ∀ i j, i < n → j < k → VRep w F β (cs.getD (i * k + j) Go.undef) (nth (nth (es.take n) i).flat j) := by
  obtain ⟨a, cap, rfl, h⟩ := h
  refine ⟨rfl, ?_⟩
  have hl : (es.take n).length = n := by simp; omega
  have h2 : SlAt w F β k (.slice a n cap) (es.take n) := by
    refine ⟨a, cap, by rw [hl], ?_⟩
    rcases h with rfl | ⟨b, p, rfl, hk, hrow⟩
    · exact .inl (by simp)
    · refine .inr ⟨b, p, rfl, hk, ?_⟩
      have := hrow.sub 0 n (by omega)
      simpa using this
  obtain ⟨cs, g1, g2, g3, g4⟩ := h2.cells (P := P)
  rw [hl] at g1 g2 g3 g4
  refine ⟨cs, ?_, g2, g3, g4⟩
  have e : Builtin.firstCells k n (.slice a es.length cap) = Builtin.firstCells k n (.slice a n cap) := by cases a <;> rfl
  rw [e]; exact g1
end
section
open Go
section
variable {α β : Type} {ek : α → V} {ev : β → V}
variable [BEq α] {a b : α → Str}
variable {τ : X → V} {g : Nat → Option AObj} {nn : Nat} {x y z : X} {n : Nat} {l : List (α × β)} {k : α} {zv : V} {z0 : β}
end
section
variable {β : Type} {ev : β → V} {τ : X → V} {g : Nat → Option AObj} {nn : Nat} {x y z : X} {n : Nat} {l : List (Int × β)} {k : Int} {zv : V} {z0 : β}
end
variable {m : Nat}
end
section
open Go
variable {P : Program} {sz : Nat} {df : List Deferred} {m : Nat}
def errV (T : TypeId) (b : Bool) : V := cond b (.p .nilIface) (.iface T .undef)
theorem VRep.err_inv {w : World} {F : Nat → Prop} {β : Beta} {u : Value} {T : TypeId} {b : Bool} (h : VRep w F β u (errV T b)) : (b = true ∧ u = .nilIface) ∨ (b = false ∧ ∃ v, u = .iface T v) := by
  cases b with
  | true => exact .inl ⟨rfl, h.p_inv.1⟩
  | false =>
    refine .inr ⟨rfl, ?_⟩
    have h' : VRep w F β u (.iface T .undef) := h
    generalize hx : V.iface T .undef = x at h'
    cases h' with
    | fr g => subst hx; cases g; exact ⟨_, rfl⟩
    | iface g => cases hx; exact ⟨_, rfl⟩
    | undef => cases hx
    | _ => cases hx
theorem ofVal_nilIface {v : Value} (h : ofVal v = .p .nilIface) : v = .nilIface := by
  have := (vrep_ofVal (w := default) (F := fun _ => False) (β := fun _ => none) v)
  rw [h] at this
  exact this.p_inv.1
theorem GRep.notn {w : World} {F : Nat → Prop} (h : GRep w F) {g : Nat} (e : globV g = .p .nilIface) : False := by
  rcases h.1 g with q | q
  · rw [e] at q; cases q
  · rw [e] at q
    generalize hv : Value.pointer (some ⟨g, 0, none⟩) = v at q
    cases q
    cases hv
theorem run_equalIn_nil {t : TypeId} {ms : Array (String × TypeId)} (hu : P.underlying t = some (.interface ms)) (d : Nat) (w : World) : (Op.equalIn (d + 1) t .nilIface .nilIface).run P w = .ok true w := by
  simp only [Op.equalIn, Sem.run_bind, run_underlying hu, Result.andThen_ok, Sem.run_pure]
theorem run_equalIn_iface {t : TypeId} {ms : Array (String × TypeId)} (hu : P.underlying t = some (.interface ms)) (d : Nat) (T : TypeId) (v : Value) (w : World) : (Op.equalIn (d + 1) t (.iface T v) .nilIface).run P w = .ok false w := by
  simp only [Op.equalIn, Sem.run_bind, run_underlying hu, Result.andThen_ok, Sem.run_pure]
theorem xcond_err {fr : Fr} {t : Nat} {T : TypeId} {b : Bool} (h : fget fr t = errV T b) : xcond fr (.t t) = true := by
  show condOf (fget fr t) = true
  rw [h]
  cases b <;> rfl
theorem tau_err {fr : Fr} {t : Nat} {T : TypeId} {b : Bool} (h : fget fr t = errV T b) : tau (fget fr) (.t t) = errV T b := by
  show strip (fget fr t) = errV T b
  rw [h]
  cases b <;> rfl
def ifT (P : Program) (ops : Array Oper) (i : Nat) : Bool := match ops[i]? with
  | some o => match o.op with
    | .binOp _ t _ _ _ => match P.underlying t with
      | some (.interface _) => true
      | _ => false
    | _ => false
  | none => false
section
variable {ops : Array Oper} {i : Nat} {S : St} {d : Option Nat} {x : X} {args : List X} {kd : Nat} {gd : Option (Nat × Bool)} {b g : Bool} {t : Nat} {want : Bool} {T : TypeId}
theorem err_run {o : Oper} (neg : Bool) (ho : ops[i]? = some o) (hco : compIO P ops o = some ⟨d, .bin (cond neg .neq .eql) false x (.c (.p .nilIface)), gd, args, kd⟩) (hT : ifT P ops i = true) (hx : tau (fget S.fr) x = errV T b) (hcd : Conds S.fr args)
    {w : World} {F : Nat → Prop} {β : Beta} {a : Act} (hgl : GRep w F) (hfr : ∀ t ∈ o.looksAt ops, VRep w F β (a.tmps.getD t Go.undef) (fget S.fr t)) : (execOp a.eval o).run P w = .ok (.value (.bool (cond neg (!b) b))) w := by
  obtain ⟨c1, c2, c3, c5, c4⟩ := comp_facts hco
  simp only [ifT, ho] at hT
  split at hT
  · rename_i op' t x' y' yt hop
    split at hT
    · rename_i ms hu
      rw [hop] at c1
      simp only [compileOp?, Option.some.injEq, IOp.bin.injEq] at c1
      obtain ⟨h0, _, h3, h4⟩ := c1
      have hxv : VRep w F β (a.eval x') (tau (fget S.fr) (toX x')) := by
        refine vrep_operand hgl (fun t e => hfr t ?_) ?_
        · subst e
          exact List.mem_append_left _ (List.mem_filterMap.2 ⟨.tmp t, by simp [hop, Op.operands], rfl⟩)
        · have := args_all c3 hcd.all
          rw [List.all_eq_true] at this
          exact this x' (by simp [hop, Op.operands])
      rw [h3, hx] at hxv
      have hy : a.eval y' = .nilIface ∧ (∃ v, y' = .const v) := by
        cases y' with
        | const v' => simp only [toX, X.c.injEq] at h4; exact ⟨ofVal_nilIface h4, v', rfl⟩
        | tmp _ => cases h4
        | func _ => simp [toX] at h4
        | global _ => simp only [toX, X.c.injEq] at h4; exact (hgl.notn h4).elim
      obtain ⟨hy, v', rfl⟩ := hy
      have main : ∀ u, u = a.eval x' → (Op.equal t u .nilIface).run P w = .ok b w ∧ (eqGuard op' t x' (.const v') u .nilIface).run P w = .ok () w ∧ ∀ q : Bool, (cond q (do pure (Value.bool (!(← Op.equal t u .nilIface)))) (do pure (Value.bool (← Op.equal t u .nilIface))) : Sem Value) = binOp (cond q .neq .eql) t u .nilIface := by
        intro u hu2
        rw [← hu2] at hxv
        rcases hxv.err_inv with ⟨rfl, rfl⟩ | ⟨rfl, v, rfl⟩
        · refine ⟨run_equalIn_nil hu 9999 w, ?_, fun q => by cases q <;> rfl⟩
          unfold eqGuard
          cases op' <;> cases x' <;> rfl
        · refine ⟨run_equalIn_iface hu 9999 T v w, ?_, fun q => by cases q <;> rfl⟩
          unfold eqGuard
          cases op' <;> rfl
      obtain ⟨m1, m2, m3⟩ := main _ rfl
      have he : (binOp op' t (a.eval x') .nilIface).run P w = .ok (.bool (cond neg (!b) b)) w := by
        rw [h0, ← m3 neg]
        cases neg
        · simp only [cond_false, Sem.run_bind, m1, Result.andThen_ok, Sem.run_pure]
        · simp only [cond_true, Sem.run_bind, m1, Result.andThen_ok, Sem.run_pure]
      simp only [execOp, hop, hy, Sem.run_bind, m2, Result.andThen_ok, he, Sem.run_pure]
    · cases hT
  · cases hT
theorem OpRun.err {o : Oper} (neg : Bool) (ho : ops[i]? = some o) (hco : compIO P ops o = some ⟨d, .bin (cond neg .neq .eql) false x (.c (.p .nilIface)), gd, args, kd⟩) (hT : ifT P ops i = true) (hg : gval S.fr gd = some true) (hx : tau (fget S.fr) x = errV T b) (hcd : Conds S.fr args) {σ : Sig} :
    OpRun P ops i (fget S.fr) σ (fun _ => False) (vb (cond neg (!b) b)) σ := by
  intro w F β Av a Q K o' ho' hfr hr _ hK
  rw [ho] at ho'; cases ho'
  have hw := wanted_of hfr (((comp_facts hco).2.2.2.2 S.fr).trans hg)
  unfold wpOp
  simp only [ho, hw, if_true]
  left
  unfold Oper.wp
  rw [err_run neg ho hco hT hx hcd hr.gl hfr]
  exact hK _ w F β (hr.av_mono fun n h => h.1) (.fr (.p rfl)) (Evolve.refl _ _ _ _)
theorem OpRun1.err {o : Oper} (neg : Bool) (ho : ops[i]? = some o) (hco : compIO P ops o = some ⟨d, .bin (cond neg .neq .eql) false x (.c (.p .nilIface)), gd, args, kd⟩) (hT : ifT P ops i = true) (hg : gval S.fr gd = some true) (hx : tau (fget S.fr) x = errV T b) (hcd : Conds S.fr args) :
    OpRun1 P ops i (fget S.fr) S.ob (vb (cond neg (!b) b)) S.ob := by
  intro w F β a Q K o' ho' hfr hr hK
  rw [ho] at ho'; cases ho'
  have hw := wanted_of hfr (((comp_facts hco).2.2.2.2 S.fr).trans hg)
  unfold wpOp
  simp only [ho, hw, if_true]
  left
  unfold Oper.wp
  rw [err_run neg ho hco hT hx hcd hr.gl hfr]
  exact hK _ w F β hr (.fr (.p rfl)) (Evolve.refl _ _ _ _)
theorem Op1.err (neg : Bool) (hc : compAt P sz ops i = some ⟨d, .bin (cond neg .neq .eql) false x (.c (.p .nilIface)), gd, args, kd⟩) (hT : ifT P ops i = true)
    (hg : gval S.fr gd = some true) (hx : tau (fget S.fr) x = errV T b) (hcd : Conds S.fr args) : Op1 P sz ops i S d (vb (cond neg (!b) b)) S.ob :=
  ⟨_, hc, rfl, Nat.le_refl _, fun ⟨_, ho, hco⟩ => OpRun1.err neg ho hco hT hg hx hcd⟩
theorem OpD.err (neg : Bool) (hc : compAt P sz ops i = some ⟨d, .bin (cond neg .neq .eql) false x (.c (.p .nilIface)), gd, args, kd⟩) (hT : ifT P ops i = true)
    (hg : gval S.fr gd = some true) (hx : tau (fget S.fr) x = errV T b) (hcd : Conds S.fr args) : OpD P sz ops i S d (vb (cond neg (!b) b)) [] [] (S.ob ++ [none]) := by
  obtain ⟨⟨o, ho', hco⟩, _, _⟩ := compAt_facts hc
  refine ⟨_, hc, rfl, by simp, fun n _ => oget_none_append _ _, fun σ h1 h2 => ?_⟩
  rw [ifnil]
  exact OpRun.pad (OpRun.err neg ho' hco hT hg hx hcd)
end
end
section
open Go Go.Sort Go.Proofs
set_option linter.all false
end
section
open Go Go.RowKit
variable {P : Program} {k : FuncId}
def newF (F : Nat → Prop) (w w' : World) : Nat → Prop := fun b => F b ∨ (w.heap.size ≤ b ∧ b < w'.heap.size)
theorem Rep.fresh {w w' : World} {F : Nat → Prop} {β : Beta} {σ : Sig} {Av : Nat → Prop} (hr : Rep w F β σ Av) (hb : Below w.heap.size w w') : Rep w' (newF F w w') β σ Av ∧ Evolve w F β σ w' (newF F w w') β σ := by
  have hF : ∀ b, F b → w'.heap[b]? = w.heap[b]? := fun b h => hb.block b (hr.falloc b h)
  refine ⟨⟨fun b h => ?_, hr.dom, fun n o h => ?_, hr.sep, hr.gl.mono (fun _ h => .inl h) hF⟩, ⟨hb.os, hb.tape, hb.output, hb.size, fun _ _ h => h, fun _ h => .inl h, fun b h _ => hb.block b h, fun b h g => ?_, fun _ _ h => h⟩⟩
  · rcases h with h | h
    · exact Nat.lt_of_lt_of_le (hr.falloc b h) hb.size
    · exact h.2
  · obtain ⟨l, g1, g2, g3⟩ := hr.obj n o h
    refine ⟨l, g1, g2.mono (fun _ h => .inl h) hF (fun _ _ h => h) (fun b h => hb.block b (g3 b h).2), fun b h => ⟨?_, Nat.lt_of_lt_of_le (g3 b h).2 hb.size⟩⟩
    rintro (q | q)
    · exact (g3 b h).1 q
    · have := (g3 b h).2; omega
  · rcases g with g | g
    · exact .inl g
    · omega
theorem plain_args {w : World} {F : Nat → Prop} {β : Beta} {args : Array Value} {vs : List Value} (h : CellsRep w F β args (vs.map V.p)) : args = vs.toArray := by
  obtain ⟨h1, h2⟩ := h
  rw [List.length_map] at h1 h2
  refine Array.ext (by simpa using h1) fun j hj hj' => ?_
  have hv := h2 j (by omega)
  have e : nth (vs.map V.p) j = .p (vs[j]'(by omega)) := by simp [nth, List.getD, List.getElem?_map, List.getElem?_eq_getElem (show j < vs.length by omega)]
  rw [e] at hv
  have := hv.p_inv.1
  rw [show args.getD j Go.undef = args[j] by simp [Array.getD, hj]] at this
  simpa using this
theorem FnL_lib (hE : ∀ args w, (callFunc k args).run P w = .ok (.enter k args) w) {vs : List Value} {y : V}
    (C : ∀ w F, GRep w F → Calls P k vs.toArray w fun e w' => ∃ v, e = .returned v ∧ Below w.heap.size w w' ∧ ∀ β, VRep w' (newF F w w') β v y) : FnL P k (vs.map V.p) [] y [] := by
  refine ⟨hE, Nat.le_refl _, fun j hj => by simp at hj, fun w F β args hr hc => ?_⟩
  rw [plain_args hc]
  refine (C w F hr.gl).mono ?_
  rintro e w' ⟨v, rfl, hb, hv⟩
  obtain ⟨r1, ev⟩ := hr.fresh hb
  exact ⟨v, _, β, rfl, r1, hv β, ev⟩
theorem frep_strings {w' : World} {F : Nat → Prop} {b n : Nat} {T : TypeId} {z : Nat × Nat} {l : List Str} (hF : F b) (hn : l.length ≤ n) (h : w'.heap[b]? = some (.cells (l.map fun s => Value.string ⟨⟨s⟩⟩).toArray T z)) : FRep w' F (.slice (some ⟨b, 0, none⟩) l.length n) (eS 1 vt l) := by
  by_cases h0 : l.length = 0
  · have : l = [] := List.eq_nil_of_length_eq_zero h0
    subst this
    exact .sl0
  · have hlen : (l.map vt).length = l.length := by simp
    have hnth : ∀ i, i < l.length → nth (l.map vt) i = vt (l.getD i []) := fun i hi => by simp [nth, List.getD, hi]
    have := FRep.sl (w := w') (F := F) (b := b) (off := 0) (cap := n) (k := 1) (es := l.map vt) (fun i j => .string ⟨⟨l.getD i []⟩⟩) (by rw [hlen]; omega) (by rw [hlen]; exact hn) hF Nat.one_pos
      (fun i hi => by rw [hnth i (by rw [hlen] at hi; exact hi)]; exact ⟨rfl, by simp [V.flat, vt, one]⟩)
      (fun i j hi hj => by
        have : j = 0 := by omega
        subst this
        rw [hlen] at hi
        rw [show 0 + i * 1 + 0 = i by omega]
        simp [World.cell?, h, List.getD, hi])
      (fun i j hi hj => by
        have : j = 0 := by omega
        subst this
        rw [hnth i (by rw [hlen] at hi; exact hi)]
        exact .p rfl)
    rw [hlen] at this
    exact this
end
section
open Go
def splitL (c : UInt8) : List UInt8 → List (List UInt8)
  | [] => [[]]
  | b :: l => bif b == c then [] :: splitL c l else match splitL c l with
    | [] => [[b]]
    | x :: r => (b :: x) :: r
theorem index_one_cons (b c : UInt8) (l : List UInt8) : Lib.index (b :: l) [c] = if c == b then 0 else if Lib.index l [c] == -1 then -1 else Lib.index l [c] + 1 := by
  rw [Lib.index]
  have : [c].isPrefixOf (b :: l) = (c == b) := by simp [List.isPrefixOf]
  rw [this]
theorem splitK_one (c : UInt8) : ∀ s : List UInt8, Lib.splitK [c] 0 (Lib.count s [c]) s = splitL c s
  | [] => rfl
  | b :: l => by
    have ih := splitK_one c l
    by_cases h : b = c
    · subst h
      rw [Lib.count_cons_eq, Nat.add_comm, Lib.splitK, index_one_cons]
      simp only [beq_self_eq_true, if_true, splitL, cond_true]
      rw [if_neg (by decide)]
      simp [ih]
    · have hne : (c == b) = false := by simp; exact fun e => h e.symm
      have hne2 : (b == c) = false := by simp [h]
      rw [Lib.count_cons_ne _ _ _ h, splitL, hne2, cond_false]
      generalize Lib.count l [c] = k at ih
      cases k with
      | zero => rw [Lib.splitK] at ih ⊢; rw [← ih]
      | succ k =>
        rw [Lib.splitK] at ih ⊢
        rw [index_one_cons, hne]
        simp only [Bool.false_eq_true, if_false]
        by_cases hi : Lib.index l [c] = -1
        · rw [hi] at ih ⊢
          simp at ih ⊢
          rw [← ih]
        · have hg := Lib.index_ge l [c]
          obtain ⟨i, hi2⟩ : ∃ i : Nat, Lib.index l [c] = (i : Int) := ⟨(Lib.index l [c]).toNat, by omega⟩
          rw [hi2] at ih ⊢
          have e1 : ((i : Int) == -1) = false := by simp
          have e2 : (((i : Int) + 1) == -1) = false := by simp; omega
          rw [e1] at ih ⊢
          simp only [Bool.false_eq_true, if_false, e2] at ih ⊢
          rw [← ih]
          have e3 : ((i : Int) + 1).toNat = i + 1 := by omega
          simp [e3, Nat.add_right_comm]
def itoaL (n : Int) : List UInt8 := Lib.itoa n
def atoiL (s : List UInt8) : Int × Bool := match Lib.atoiAll s with
  | .ok v => (v, true)
  | .range => (Lib.atoiSat s, false)
  | _ => (0, false)
def joinL (l : List (List UInt8)) (sep : List UInt8) : List UInt8 := Lib.join l sep
theorem splitB_one (c : UInt8) (s : List UInt8) : (Lib.splitB ⟨⟨[c]⟩⟩ 0 (Lib.countB ⟨⟨s⟩⟩ ⟨⟨[c]⟩⟩) ⟨⟨s⟩⟩).map Value.string = (splitL c s).map fun x => Value.string ⟨⟨x⟩⟩ := by
  have h := Lib.splitB_data ⟨⟨[c]⟩⟩ 0 (Lib.countB ⟨⟨s⟩⟩ ⟨⟨[c]⟩⟩) ⟨⟨s⟩⟩
  have h2 := splitK_one c s
  have h3 : (Lib.splitB ⟨⟨[c]⟩⟩ 0 (Lib.countB ⟨⟨s⟩⟩ ⟨⟨[c]⟩⟩) ⟨⟨s⟩⟩).map (·.data.toList) = splitL c s := h.trans h2
  rw [← h3, List.map_map]
  rfl
def splitC (s sep : List UInt8) : Option (List (List UInt8)) := match sep with
  | [c] => some (splitL c s)
  | _ => none
end
section
open Go
variable {x y : X} {τ : X → V} {g : Nat → Option AObj} {nn : Nat}
end
end Go.Proofs.YtchkkpbkgghcoaaGreatDoor.As
