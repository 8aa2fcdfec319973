/- Rules for the program's operations over plain values, part 3: no condition. -/
import Derived.Test.YtchkkpbkgghcoaaGreatDoorGround2
namespace Go.Proofs.YtchkkpbkgghcoaaGreatDoor.As
open Go
section
open Go
variable {P : Program} {sz : Nat} {df : List Deferred} {m : Nat}
def cpyL (es : List V) (off : Nat) (ys : List V) : List V := es.take off ++ ys ++ es.drop (off + ys.length)
theorem cpyL_len {es ys : List V} {off : Nat} (h : off + ys.length ≤ es.length) : (cpyL es off ys).length = es.length := by
  simp [cpyL]; omega
theorem cpyL_nth {es ys : List V} {off : Nat} (h : off + ys.length ≤ es.length) (j : Nat) : nth (cpyL es off ys) j = if j < off then nth es j else if j < off + ys.length then nth ys (j - off) else nth es j := by
  have := nth_mid es ys off j h
  unfold cpyL
  rw [this]
theorem elems_at {w : World} {F : Nat → Prop} {β : Beta} {σ : Nat → Option AObj} {Av : Nat → Prop} (hr : Rep w F β σ Av) {k : Nat} {y : Value} {ŷ : V} (hy : VRep w F β y ŷ) {news : List V} {rd : List Nat} (h : elemsOf k σ ŷ = some (news, rd, true)) (hp : ∀ u, ŷ ≠ .p u) : SlAt w F β k y news := by
  cases ŷ with
  | emp => simp only [elemsOf, Option.some.injEq, Prod.mk.injEq] at h; obtain ⟨rfl, _, _⟩ := h; exact hy.emp_at
  | sl k' es =>
    simp only [elemsOf] at h
    split at h
    · rename_i e _; subst e
      simp only [Option.some.injEq, Prod.mk.injEq] at h; obtain ⟨rfl, _, _⟩ := h; exact hy.sl_at
    · cases h
  | own n off len =>
    simp only [elemsOf] at h
    split at h
    · rename_i k' es hn
      split at h
      · rename_i e _; subst e
        simp only [Option.some.injEq, Prod.mk.injEq, decide_eq_true_eq] at h
        obtain ⟨rfl, _, hle⟩ := h
        exact hy.own_at hr hn hle
      · cases h
    · cases h
  | p u => exact absurd rfl (hp u)
  | _ => simp [elemsOf] at h
theorem SlAt.first {w : World} {F : Nat → Prop} {β : Beta} {k : Nat} {v : Value} {es : List V} (h : SlAt w F β k v es) (n : Nat) (hn : n ≤ es.length) : (Builtin.lenOf v).run P w = .ok es.length w ∧ ∃ cs : List Value, (Builtin.firstCells k n v).run P w = .ok cs.toArray w ∧ cs.length = n * k ∧
    (∀ i, i < n → okE k (nth (es.take n) i)) ∧ ∀ i j, i < n → j < k → VRep w F β (cs.getD (i * k + j) Go.undef) (nth (nth (es.take n) i).flat j) := by
  obtain ⟨a, cap, rfl, h⟩ := h
  refine ⟨rfl, ?_⟩
  have hl : (es.take n).length = n := by simp; omega
  have h2 : SlAt w F β k (.slice a n cap) (es.take n) := by
    refine ⟨a, cap, by rw [hl], ?_⟩
    rcases h with rfl | ⟨b, p, rfl, hk, hrow⟩
    · exact .inl (by simp)
    · refine .inr ⟨b, p, rfl, hk, ?_⟩
      have := hrow.sub 0 n (by omega)
      simpa using this
  obtain ⟨cs, g1, g2, g3, g4⟩ := h2.cells (P := P)
  rw [hl] at g1 g2 g3 g4
  refine ⟨cs, ?_, g2, g3, g4⟩
  have e : Builtin.firstCells k n (.slice a es.length cap) = Builtin.firstCells k n (.slice a n cap) := by cases a <;> rfl
  rw [e]; exact g1
def rawCpy (P : Program) (sz : Nat) (ops : Array Oper) (i : Nat) : Option (Option Nat × Nat × X × X) := match ops[i]? with
  | none => none
  | some o => match o.op, o.guard, dstOK sz o.dst with
    | .call c, none, true => match c.callee, c.args.toList, c.argTypes.toList with
      | .builtin .copy, [x, y], [t, _] => match elemInfo P t with
        | some (k, _, _) => some (o.dst, k, toX x, toX y)
        | none => none
      | _, _, _ => none
    | _, _, _ => none
theorem OpRun.cpy {ops : Array Oper} {i : Nat} {S : St} {σ : Sig} {d : Option Nat} {x y : X} {k nn off len : Nat} {es news : List V} {rd : List Nat} (hr : rawCpy P sz ops i = some (d, k, x, y)) (hx : xcond S.fr x = true) (hy : xcond S.fr y = true) (hv : tau (fget S.fr) x = .own nn off len)
    (ho : σ nn = some (.row k es)) (hs : elemsOf k σ (tau (fget S.fr) y) = some (news, rd, true)) (hp : ∀ u, tau (fget S.fr) y ≠ .p u) (hle : off + len ≤ es.length) :
    OpRun P ops i (fget S.fr) σ (fun _ => False) (.p (.int .i64 (Nat.min news.length len : Nat))) (upd σ nn (some (.row k (cpyL es off (news.take (Nat.min news.length len)))))) := by
  unfold rawCpy at hr
  split at hr
  · cases hr
  · rename_i o hoo
    split at hr
    · rename_i c hop hgd hd
      split at hr
      · rename_i x' y' t t2 hcal hargs htys
        split at hr
        · rename_i k' b' z' hel
          simp only [Option.some.injEq, Prod.mk.injEq] at hr
          obtain ⟨rfl, rfl, rfl, rfl⟩ := hr
          obtain ⟨e, inf, zv, e1, e2, e3, e4, e5, e6, e7, e8⟩ := elemInfo_spec hel
          intro w F β Av a Q Kk o' ho' hfr hrep _ hK
          rw [hoo] at ho'; cases ho'
          have hw := wanted_of (fr := fget S.fr) hfr (show guardV ops (fget S.fr) o.guard = some true by rw [hgd]; rfl)
          have look : ∀ z' : Operand, z' ∈ o.op.operands → xcond S.fr (toX z') = true → VRep w F β (a.eval z') (tau (fget S.fr) (toX z')) := by
            intro z' hz' hc'
            refine vrep_operand hrep.gl (fun t e => hfr t ?_) (by rw [← xcond_opnd]; exact hc')
            subst e
            exact List.mem_append_left _ (List.mem_filterMap.2 ⟨.tmp t, by simpa using hz', rfl⟩)
          have hxv := look x' (by simp [hop, Op.operands, Call.operands, arr2 hargs]) hx
          have hyv := look y' (by simp [hop, Op.operands, Call.operands, arr2 hargs]) hy
          rw [hv] at hxv
          have hsl := elems_at hrep hyv hs hp
          obtain ⟨nN, hnN⟩ : ∃ nN, nN = Nat.min news.length len := ⟨_, rfl⟩
          rw [← hnN] at hK
          have hn1 : nN ≤ news.length := by rw [hnN]; exact Nat.min_le_left _ _
          have hn2 : nN ≤ len := by rw [hnN]; exact Nat.min_le_right _ _
          obtain ⟨hlen, cs2, hc1, hc2, hc3, hc4⟩ := hsl.first (P := P) nN hn1
          have hyl : (news.take nN).length = nN := by simp; omega
          have hsize : ∀ w : World, (sizeOf e).run P w = .ok k' w := fun w => by simp [sizeOf, typeInfo, e2, e3]
          rcases hxv.own_inv with ⟨b, s, k3, sz2, cap, hbeta, hlc, hcap, had⟩ | ⟨hbeta, rfl, rfl, had⟩
          · obtain ⟨l, hl, hob, _⟩ := hrep.obj nn _ ho
            rw [hbeta] at hl; cases hl
            obtain ⟨rfl, cs, T, hcs, hsz, hk0, hfit, hflat, hc⟩ := hob
            have hap : s + off * k' + cs2.length ≤ cs.size := by
              rw [hc2, hsz]
              have h3 : (off + nN) * k' ≤ es.length * k' := Nat.mul_le_mul_right _ (by omega)
              rw [Nat.add_mul] at h3; omega
            have hone : ∀ v ∈ cs2, v.oneCell' = true := by
              intro v hv'
              obtain ⟨q, hq, rfl⟩ := List.getElem_of_mem hv'
              rw [hc2] at hq
              have hqk : q % k' < k' := Nat.mod_lt _ hk0
              have h9 : q / k' < nN := (Nat.div_lt_iff_lt_mul hk0).2 hq
              have h10 := hc4 (q / k') (q % k') h9 hqk
              have h11 : q / k' * k' + q % k' = q := by have := Nat.div_add_mod q k'; rw [Nat.mul_comm] at this; omega
              rw [h11] at h10
              have h12 : one (nth (nth (news.take nN) (q / k')).flat (q % k')) = true := by
                obtain ⟨h13, h14⟩ := hc3 _ h9
                exact h14 _ (nth_mem (by rw [h13]; exact hqk))
              have := oneCell_of_vrep h10 h12
              simpa [List.getD, List.getElem?_eq_getElem (show q < cs2.length by omega)] using this
            have hst := run_storeCells_at P b (s + off * k') T cs2 0 cs w hcs (by omega) hone
            have hspl : (cs.toList.take (s + off * k' + 0) ++ cs2 ++ cs.toList.drop (s + off * k' + 0 + cs2.length)).toArray = splice cs (s + off * k') cs2 := by simp [splice]
            rw [hspl] at hst
            have hle2 : off + (news.take nN).length ≤ es.length := by rw [hyl]; omega
            have hR := hrep.write_row ho hbeta hcs (splice cs (s + off * k') cs2) ((splice_size _ _ _ hap).trans hsz) (cpyL es off (news.take nN)) hk0 (by rw [cpyL_len hle2]; exact hfit)
              (fun q hq => by
                rw [cpyL_len hle2] at hq
                rw [cpyL_nth hle2, hyl]
                by_cases h1 : q < off
                · rw [if_pos h1]; exact hflat q hq
                · rw [if_neg h1]
                  by_cases h2 : q < off + nN
                  · rw [if_pos h2]
                    exact hc3 _ (by omega)
                  · rw [if_neg h2]; exact hflat q hq)
              (fun q j hq hj => by
                rw [cpyL_len hle2] at hq
                rw [splice_getD _ _ _ hap, cpyL_nth hle2, hyl, hc2]
                by_cases h1 : q < off
                · have : (q + 1) * k' ≤ off * k' := Nat.mul_le_mul_right _ h1
                  rw [Nat.succ_mul] at this
                  rw [if_pos (by omega), if_pos h1]; exact hc q j hq hj
                · have h3 : off * k' ≤ q * k' := Nat.mul_le_mul_right _ (by omega)
                  rw [if_neg (by omega), if_neg h1]
                  by_cases h2 : q < off + nN
                  · have h4 : (q - off + 1) * k' ≤ nN * k' := Nat.mul_le_mul_right _ (by omega)
                    rw [Nat.succ_mul] at h4
                    have h5 : (q - off) * k' + off * k' = q * k' := by rw [← Nat.add_mul]; congr 1; omega
                    rw [if_pos (by omega), if_pos h2, show s + q * k' + j - (s + off * k') = (q - off) * k' + j by omega]
                    exact hc4 (q - off) j (by omega) hj
                  · have h4 : (off + nN) * k' ≤ q * k' := Nat.mul_le_mul_right _ (by omega)
                    rw [Nat.add_mul] at h4
                    rw [if_neg (by omega), if_neg h2]; exact hc q j hq hj)
            unfold wpOp
            simp only [hoo, hw, if_true]
            left
            have hrun : (execOp a.eval o).run P w = .ok (.value (goInt nN)) (w.setRow b (splice cs (s + off * k') cs2)) := by
              refine exec_builtin (f := Builtin.copy_) hop hcal (fun _ _ _ _ => rfl) ?_
              rw [arr2 hargs, arr2 htys, map2, had]
              simp only [Builtin.copy_]
              simp [run_underlying e1, hlen, hsize, ← hnN, hc1, hst]
            unfold Oper.wp
            rw [hrun]
            exact hK _ _ F β (hR.1.av_mono fun n hn => hn.1) (.fr (.p rfl)) hR.2
          · have hn0 : nN = 0 := by omega
            have hset : upd σ nn (some (.row k' (cpyL es 0 (news.take nN)))) = σ := by
              rw [hn0, List.take_zero]
              have e0 : cpyL es 0 [] = es := by simp [cpyL]
              rw [e0]
              funext q
              unfold upd
              split
              · rename_i hq; subst hq; exact ho.symm
              · rfl
            rw [hset] at hK
            obtain ⟨ad, had⟩ := had
            have hcs0 : cs2 = [] := by
              have : cs2.length = 0 := by rw [hc2, hn0]; simp
              exact List.eq_nil_of_length_eq_zero this
            unfold wpOp
            simp only [hoo, hw, if_true]
            left
            have hrun : (execOp a.eval o).run P w = .ok (.value (goInt nN)) w := by
              refine exec_builtin (f := Builtin.copy_) hop hcal (fun _ _ _ _ => rfl) ?_
              rw [arr2 hargs, arr2 htys, map2, had]
              simp only [Builtin.copy_]
              rw [hcs0, hn0] at hc1
              rw [hn0]
              have hm : Nat.min news.length 0 = 0 := Nat.min_zero _
              cases ad <;> simp [run_underlying e1, hlen, hsize, hm, hc1, storeCells]
            unfold Oper.wp
            rw [hrun]
            exact hK _ w F β (hrep.av_mono fun n hn => hn.1) (.fr (.p rfl)) (Evolve.refl _ _ _ _)
        · cases hr
      · cases hr
    · cases hr
theorem rawCpy_some {ops : Array Oper} {i : Nat} {r : Option Nat × Nat × X × X} (hr : rawCpy P sz ops i = some r) : ∃ o, ops[i]? = some o ∧ dstOK sz o.dst = true ∧ o.dst = r.1 := by
  unfold rawCpy at hr
  split at hr
  · cases hr
  · rename_i o hoo
    split at hr
    · rename_i c hop hgd hd
      split at hr
      · split at hr
        · cases hr; exact ⟨o, hoo, hd, rfl⟩
        · cases hr
      · cases hr
    · cases hr
theorem RegJ.cpy {ops : Array Oper} {i : Nat} {S : St} {K : St → Prop} {d : Option Nat} {x y : X} {k nn off len : Nat} {es news : List V} {rd : List Nat} (hr : rawCpy P sz ops i = some (d, k, x, y)) (hx : xcond S.fr x = true) (hy : xcond S.fr y = true) (hv : tau (fget S.fr) x = .own nn off len)
    (ho : oget S.ob nn = some (.row k es)) (hs : elemsOf k (oget S.ob) (tau (fget S.fr) y) = some (news, rd, true)) (hp : ∀ u, tau (fget S.fr) y ≠ .p u) (hle : off + len ≤ es.length)
    (kk : RegJ P sz df m ops (i + 1) ⟨fputc S.fr d (.p (.int .i64 (Nat.min news.length len : Nat))), S.ob.set nn (some (.row k (cpyL es off (news.take (Nat.min news.length len)))))⟩ K) : RegJ P sz df m ops i S K := by
  have hlt : nn < S.ob.length := oget_some (by rw [ho]; simp)
  obtain ⟨o, hoo, hd, hdd⟩ := rawCpy_some hr
  have hdd : o.dst = d := hdd
  subst hdd
  refine RegJ.oprun0 hoo (dstOK_lt hd) ?_ (by simp) kk
  intro w F β a Q Kk o' ho' hfr hrep hK
  refine OpRun.cpy hr hx hy hv ho hs hp hle w F β _ a Q Kk o' ho' hfr hrep (fun n hn => hn.elim) fun v w' F' β' h1 h2 h3 => ?_
  rw [← oget_set_upd _ hlt] at h1 h3
  exact hK v w' F' β' (by rw [List.length_set]; exact h1.av_mono fun n hn => ⟨hn, id⟩) h2 h3
theorem elems_local {k : Nat} {σ σ' : Nat → Option AObj} {v : V} {news : List V} {rd : List Nat} {b : Bool} (h : elemsOf k σ v = some (news, rd, b)) (he : ∀ n ∈ rd, σ' n = σ n) : elemsOf k σ' v = some (news, rd, b) := by
  cases v with
  | own n off len =>
    simp only [elemsOf] at h ⊢
    split at h
    · rename_i k' es hn
      split at h
      · rename_i e hdec; subst e
        simp only [Option.some.injEq, Prod.mk.injEq] at h
        obtain ⟨rfl, rfl, rfl⟩ := h
        rw [he n (by simp), hn]
        simp only [hdec]
      · cases h
    · cases h
  | p u =>
    cases u with
    | string s => simpa [elemsOf] using h
    | _ => simp [elemsOf] at h
  | emp => exact h
  | sl k' es => exact h
  | _ => simp [elemsOf] at h
theorem OpD.cpy {ops : Array Oper} {i : Nat} {S : St} {d : Option Nat} {x y : X} {k nn off len : Nat} {es news : List V} {rd : List Nat} {xo : Iox} (hr : rawCpy P sz ops i = some (d, k, x, y)) (hco : compAt P sz ops i = some xo) (hxd : xo.dst = d) (hx : xcond S.fr x = true) (hy : xcond S.fr y = true) (hv : tau (fget S.fr) x = .own nn off len)
    (ho : oget S.ob nn = some (.row k es)) (hs : elemsOf k (oget S.ob) (tau (fget S.fr) y) = some (news, rd, true)) (hp : ∀ u, tau (fget S.fr) y ≠ .p u) (hle : off + len ≤ es.length) :
    OpD P sz ops i S d (.p (.int .i64 (Nat.min news.length len : Nat))) rd [nn] (S.ob.set nn (some (.row k (cpyL es off (news.take (Nat.min news.length len))))) ++ [none]) := by
  have hlt : nn < S.ob.length := oget_some (by rw [ho]; simp)
  refine ⟨xo, hco, hxd, by simp, fun n hn => ?_, fun σ h1 h2 => ?_⟩
  · have : n ≠ nn := by rintro rfl; simp at hn
    rw [oget_none_append, oget_set _ _ _ _ hlt, if_neg this]
  · have := OpRun.pad (U := fun n => S.ob.length ≤ n ∧ n < (S.ob.set nn (some (.row k (cpyL es off (news.take (Nat.min news.length len))))) ++ [none]).length) (OpRun.cpy (σ := σ) hr hx hy hv (by rw [h2 nn (by simp), ho]) (elems_local hs h1) hp hle)
    have e : (fun n => if ([nn] : List Nat).contains n = true then oget (S.ob.set nn (some (.row k (cpyL es off (news.take (Nat.min news.length len))))) ++ [none]) n else σ n) = upd σ nn (some (.row k (cpyL es off (news.take (Nat.min news.length len))))) := by
      funext n
      by_cases hn : n = nn
      · subst hn
        rw [oget_none_append, oget_set _ _ _ _ hlt]
        simp [upd]
      · simp [upd, hn]
    rw [e]
    exact this
def cpyP {α : Type} (l : List α) (off : Nat) (x : List α) : List α := l.take off ++ x ++ l.drop (off + x.length)
theorem cpyP_map {α : Type} (e : α → V) (l : List α) (off : Nat) (x : List α) : cpyL (List.map e l) off (List.map e x) = List.map e (cpyP l off x) := by
  simp [cpyL, cpyP]
theorem els_fr2 {α : Type} {k : Nat} {σ : Nat → Option AObj} {e : α → V} {l : List α} {v : V} (h : v = eS k e l) : elemsOf k σ v = some (List.map e l, [], true) := by
  subst h
  simp only [eS]
  cases l <;> simp [elemsOf]
  all_goals first | rfl | (cases Nat.decEq k k with | isTrue _ => rfl | isFalse h => exact absurd rfl h)
theorem els_ow2 {α : Type} {k n off len : Nat} {ob : Objs} {e : α → V} {l : List α} {v : V} (h : v = .own n off len) (ho : oget ob n = some (.row k (List.map e l))) (hl : decide (off + len ≤ l.length) = true) : elemsOf k (oget ob) v = some (List.map e ((l.drop off).take len), [n], true) := by
  subst h
  simp only [elemsOf, ho]
  cases Nat.decEq k k with
  | isTrue _ => simp [of_decide_eq_true hl]
  | isFalse h => exact absurd rfl h
theorem RegJ.cpyM {α : Type} {e : α → V} {l l2 : List α} {ops : Array Oper} {i : Nat} {S : St} {K : St → Prop} {d : Option Nat} {x y : X} {k nn off len : Nat} {rd : List Nat} (hr : rawCpy P sz ops i = some (d, k, x, y)) (hx : xcond S.fr x = true) (hy : xcond S.fr y = true) (hv : tau (fget S.fr) x = .own nn off len)
    (ho : oget S.ob nn = some (.row k (List.map e l))) (hs : elemsOf k (oget S.ob) (tau (fget S.fr) y) = some (List.map e l2, rd, true)) (hp : ∀ u, tau (fget S.fr) y ≠ .p u) (hle : decide (off + len ≤ l.length) = true)
    (kk : RegJ P sz df m ops (i + 1) ⟨fputc S.fr d (vi (Nat.min l2.length len : Nat)), S.ob.set nn (some (.row k (List.map e (cpyP l off (l2.take (Nat.min l2.length len))))))⟩ K) : RegJ P sz df m ops i S K := by
  refine RegJ.cpy hr hx hy hv ho hs hp (by simpa using of_decide_eq_true hle) ?_
  rw [← List.map_take, cpyP_map, List.length_map]
  exact kk
theorem OpD.cpyM {α : Type} {e : α → V} {l l2 : List α} {ops : Array Oper} {i : Nat} {S : St} {d : Option Nat} {x y : X} {k nn off len : Nat} {rd : List Nat} {xo : Iox} (hr : rawCpy P sz ops i = some (d, k, x, y)) (hco : compAt P sz ops i = some xo) (hxd : xo.dst = d) (hx : xcond S.fr x = true) (hy : xcond S.fr y = true) (hv : tau (fget S.fr) x = .own nn off len)
    (ho : oget S.ob nn = some (.row k (List.map e l))) (hs : elemsOf k (oget S.ob) (tau (fget S.fr) y) = some (List.map e l2, rd, true)) (hp : ∀ u, tau (fget S.fr) y ≠ .p u) (hle : decide (off + len ≤ l.length) = true) :
    OpD P sz ops i S d (vi (Nat.min l2.length len : Nat)) rd [nn] (S.ob.set nn (some (.row k (List.map e (cpyP l off (l2.take (Nat.min l2.length len)))))) ++ [none]) := by
  have := OpD.cpy hr hco hxd hx hy hv ho hs hp (by simpa using of_decide_eq_true hle)
  rw [← List.map_take, cpyP_map, List.length_map] at this
  exact this
end
section
open Go
section
variable {α β : Type} {ek : α → V} {ev : β → V}
def eM (ek : α → V) (ev : β → V) (l : List (α × β)) : V := .fmap (l.map fun p => ek p.1) (l.map fun p => ev p.2)
theorem eM_frz (ek : α → V) (ev : β → V) (l : List (α × β)) : (eM ek ev l).frz = true := rfl
theorem eM_zip (l : List (α × β)) : (l.map fun p => ek p.1).zip (l.map fun p => ev p.2) = mpE ek ev l := by
  unfold mpE; rw [List.zip_map']
theorem keyab_dec {a b c d : Str} {p : Prop} [Decidable p] (h : p ↔ a = c ∧ b = d) : decide p = ((a == c) && (b == d)) := by
  rw [Bool.eq_iff_iff]
  simp [h]
structure KeyAB {α : Type} [BEq α] (ek : α → V) (a b : α → Str) : Prop where
  enc : ∀ x, ek x = .agg [vt (a x), vt (b x)]
  eq : ∀ x y, (x == y) = ((a x == a y) && (b x == b y))
variable [BEq α] {a b : α → Str}
theorem strs2_k (h : KeyAB ek a b) (x : α) : strs2 (ek x) = some (⟨⟨a x⟩⟩, ⟨⟨b x⟩⟩) := by rw [h.enc]; rfl
theorem akeyEq_k (h : KeyAB ek a b) (k x : α) : akeyEq (⟨⟨a k⟩⟩, ⟨⟨b k⟩⟩) (ek x) = some (k == x) := by
  unfold akeyEq
  rw [strs2_k h, h.eq]
  rfl
theorem amfind_a (h : KeyAB ek a b) (k : α) : ∀ l : List (α × β), amfind (⟨⟨a k⟩⟩, ⟨⟨b k⟩⟩) (mpE ek ev l) = some ((List.lookup k l).map ev)
  | [] => rfl
  | (x, u) :: r => by
    have ih := amfind_a h k r
    simp only [mpE, List.map_cons] at ih ⊢
    simp only [amfind, akeyEq_k h, List.lookup]
    cases hh : (k == x) with
    | true => simp
    | false => simpa using ih
theorem amset_a (h : KeyAB ek a b) (k : α) (v : β) : ∀ l : List (α × β), amset (ek k) (⟨⟨a k⟩⟩, ⟨⟨b k⟩⟩) (ev v) (mpE ek ev l) = some (mpE ek ev (mPut k v l))
  | [] => rfl
  | (x, u) :: r => by
    have ih := amset_a h k v r
    simp only [mpE, List.map_cons] at ih ⊢
    simp only [amset, akeyEq_k h, mPut]
    cases hh : (k == x) with
    | true => simp
    | false => simp [ih]
variable {τ : X → V} {g : Nat → Option AObj} {nn : Nat} {x y z : X} {n : Nat} {l : List (α × β)} {k : α} {zv : V} {z0 : β}
theorem ok_lk2_o (h : KeyAB ek a b) (hx : τ x = .map n) (hg : g n = some (.mp (mpE ek ev l))) (hy : τ y = ek k) (hz : zv = ev z0) :
    Ok (.lookup2 zv true x y) τ g nn (.tup [ev ((List.lookup k l).getD z0), vb (List.lookup k l).isSome]) [n] := by
  simp only [Ok, isem, hx, hg, hy, strs2_k h, amfind_a h, hz]
  cases List.lookup k l <;> rfl
theorem ok_lk2_f (h : KeyAB ek a b) (hx : τ x = eM ek ev l) (hy : τ y = ek k) (hz : zv = ev z0) :
    Ok (.lookup2 zv true x y) τ g nn (.tup [ev ((List.lookup k l).getD z0), vb (List.lookup k l).isSome]) [] := by
  simp only [Ok, isem, hx, eM, hy, strs2_k h, eM_zip, amfind_a h, hz]
  cases List.lookup k l <;> rfl
theorem ok_mset_a {v : β} (h : KeyAB ek a b) (hx : τ x = .map n) (hg : g n = some (.mp (mpE ek ev l))) (hy : τ y = ek k) (hz : τ z = ev v) :
    isem (.mapset2 x y z) τ g nn = some ⟨.undef, .set n (.mp (mpE ek ev (mPut k v l))), true, [n]⟩ := by
  simp only [isem, hx, hg, hy, strs2_k h, hz, amset_a h]
end
section
variable {β : Type} {ev : β → V} {τ : X → V} {g : Nat → Option AObj} {nn : Nat} {x y z : X} {n : Nat} {l : List (Int × β)} {k : Int} {zv : V} {z0 : β}
theorem ok_lkS_i (hx : τ x = .map n) (hg : g n = some (.mp (mpE vi ev l))) (hy : τ y = vi k) (hs : (List.lookup k l).isSome = true) :
    Ok (.lookup false zv true x y) τ g nn (.tup [ev ((List.lookup k l).getD z0), vb true]) [n] := by
  simp only [Ok, isem, hx, hg, hy, keyFits, mfind_i]
  revert hs
  cases List.lookup k l <;> intro hs
  · cases hs
  · rfl
theorem ok_lkN_i (hx : τ x = .map n) (hg : g n = some (.mp (mpE vi ev l))) (hy : τ y = vi k) (hs : (List.lookup k l).isSome = false) :
    Ok (.lookup false zv true x y) τ g nn (.tup [zv, vb false]) [n] := by
  simp only [Ok, isem, hx, hg, hy, keyFits, mfind_i]
  revert hs
  cases List.lookup k l <;> intro hs
  · rfl
  · cases hs
end
variable {m : Nat}
theorem Sees.frzMap {α β : Type} {ek : α → V} {ev : β → V} {l : List (α × β)} {S : St} (n : Nat) {fr' : Fr} {ob' : Objs} (hn : oget S.ob n = some (.mp (mpE ek ev l))) (hk : ∀ x, (ek x).frz = true) (he : ∀ x, (ev x).frz = true)
    (hf : FrFrzM n (l.map fun p => ek p.1) (l.map fun p => ev p.2) S.fr fr') (ho : S.ob.set n none = ob') : Sees m S ⟨fr', ob'⟩ := by
  refine Sees.freezeM n hn (fun e h => ?_) (fun t => ?_) ho
  · simp only [mpE, List.mem_map] at h
    obtain ⟨p, _, rfl⟩ := h
    exact ⟨hk _, he _⟩
  · have e1 : (mpE ek ev l).map Prod.fst = l.map fun p => ek p.1 := by simp [mpE, Function.comp_def]
    have e2 : (mpE ek ev l).map Prod.snd = l.map fun p => ev p.2 := by simp [mpE, Function.comp_def]
    rw [e1, e2]
    exact hf.get t
end
section
open Go
variable {P : Program} {sz : Nat} {df : List Deferred} {m : Nat}
def errV (T : TypeId) (b : Bool) : V := cond b (.p .nilIface) (.iface T .undef)
theorem VRep.err_inv {w : World} {F : Nat → Prop} {β : Beta} {u : Value} {T : TypeId} {b : Bool} (h : VRep w F β u (errV T b)) : (b = true ∧ u = .nilIface) ∨ (b = false ∧ ∃ v, u = .iface T v) := by
  cases b with
  | true => exact .inl ⟨rfl, h.p_inv.1⟩
  | false =>
    refine .inr ⟨rfl, ?_⟩
    have h' : VRep w F β u (.iface T .undef) := h
    generalize hx : V.iface T .undef = x at h'
    cases h' with
    | fr g => subst hx; cases g; exact ⟨_, rfl⟩
    | iface g => cases hx; exact ⟨_, rfl⟩
    | undef => cases hx
    | _ => cases hx
theorem ofVal_nilIface {v : Value} (h : ofVal v = .p .nilIface) : v = .nilIface := by
  have := (vrep_ofVal (w := default) (F := fun _ => False) (β := fun _ => none) v)
  rw [h] at this
  exact this.p_inv.1
theorem GRep.notn {w : World} {F : Nat → Prop} (h : GRep w F) {g : Nat} (e : globV g = .p .nilIface) : False := by
  rcases h.1 g with q | q
  · rw [e] at q; cases q
  · rw [e] at q
    generalize hv : Value.pointer (some ⟨g, 0, none⟩) = v at q
    cases q
    cases hv
theorem run_equalIn_nil {t : TypeId} {ms : Array (String × TypeId)} (hu : P.underlying t = some (.interface ms)) (d : Nat) (w : World) : (Op.equalIn (d + 1) t .nilIface .nilIface).run P w = .ok true w := by
  simp only [Op.equalIn, Sem.run_bind, run_underlying hu, Result.andThen_ok, Sem.run_pure]
theorem run_equalIn_iface {t : TypeId} {ms : Array (String × TypeId)} (hu : P.underlying t = some (.interface ms)) (d : Nat) (T : TypeId) (v : Value) (w : World) : (Op.equalIn (d + 1) t (.iface T v) .nilIface).run P w = .ok false w := by
  simp only [Op.equalIn, Sem.run_bind, run_underlying hu, Result.andThen_ok, Sem.run_pure]
theorem xcond_err {fr : Fr} {t : Nat} {T : TypeId} {b : Bool} (h : fget fr t = errV T b) : xcond fr (.t t) = true := by
  show condOf (fget fr t) = true
  rw [h]
  cases b <;> rfl
theorem tau_err {fr : Fr} {t : Nat} {T : TypeId} {b : Bool} (h : fget fr t = errV T b) : tau (fget fr) (.t t) = errV T b := by
  show strip (fget fr t) = errV T b
  rw [h]
  cases b <;> rfl
def ifT (P : Program) (ops : Array Oper) (i : Nat) : Bool := match ops[i]? with
  | some o => match o.op with
    | .binOp _ t _ _ _ => match P.underlying t with
      | some (.interface _) => true
      | _ => false
    | _ => false
  | none => false
section
variable {ops : Array Oper} {i : Nat} {S : St} {d : Option Nat} {x : X} {args : List X} {kd : Nat} {gd : Option (Nat × Bool)} {b g : Bool} {t : Nat} {want : Bool} {T : TypeId}
theorem err_run {o : Oper} (neg : Bool) (ho : ops[i]? = some o) (hco : compIO P ops o = some ⟨d, .bin (cond neg .neq .eql) false x (.c (.p .nilIface)), gd, args, kd⟩) (hT : ifT P ops i = true) (hx : tau (fget S.fr) x = errV T b) (hcd : Conds S.fr args)
    {w : World} {F : Nat → Prop} {β : Beta} {a : Act} (hgl : GRep w F) (hfr : ∀ t ∈ o.looksAt ops, VRep w F β (a.tmps.getD t Go.undef) (fget S.fr t)) : (execOp a.eval o).run P w = .ok (.value (.bool (cond neg (!b) b))) w := by
  obtain ⟨c1, c2, c3, c5, c4⟩ := comp_facts hco
  simp only [ifT, ho] at hT
  split at hT
  · rename_i op' t x' y' yt hop
    split at hT
    · rename_i ms hu
      rw [hop] at c1
      simp only [compileOp?, Option.some.injEq, IOp.bin.injEq] at c1
      obtain ⟨h0, _, h3, h4⟩ := c1
      have hxv : VRep w F β (a.eval x') (tau (fget S.fr) (toX x')) := by
        refine vrep_operand hgl (fun t e => hfr t ?_) ?_
        · subst e
          exact List.mem_append_left _ (List.mem_filterMap.2 ⟨.tmp t, by simp [hop, Op.operands], rfl⟩)
        · have := args_all c3 hcd.all
          rw [List.all_eq_true] at this
          exact this x' (by simp [hop, Op.operands])
      rw [h3, hx] at hxv
      have hy : a.eval y' = .nilIface ∧ (∃ v, y' = .const v) := by
        cases y' with
        | const v' => simp only [toX, X.c.injEq] at h4; exact ⟨ofVal_nilIface h4, v', rfl⟩
        | tmp _ => cases h4
        | func _ => simp [toX] at h4
        | global _ => simp only [toX, X.c.injEq] at h4; exact (hgl.notn h4).elim
      obtain ⟨hy, v', rfl⟩ := hy
      have main : ∀ u, u = a.eval x' → (Op.equal t u .nilIface).run P w = .ok b w ∧ (eqGuard op' t x' (.const v') u .nilIface).run P w = .ok () w ∧ ∀ q : Bool, (cond q (do pure (Value.bool (!(← Op.equal t u .nilIface)))) (do pure (Value.bool (← Op.equal t u .nilIface))) : Sem Value) = binOp (cond q .neq .eql) t u .nilIface := by
        intro u hu2
        rw [← hu2] at hxv
        rcases hxv.err_inv with ⟨rfl, rfl⟩ | ⟨rfl, v, rfl⟩
        · refine ⟨run_equalIn_nil hu 9999 w, ?_, fun q => by cases q <;> rfl⟩
          unfold eqGuard
          cases op' <;> cases x' <;> rfl
        · refine ⟨run_equalIn_iface hu 9999 T v w, ?_, fun q => by cases q <;> rfl⟩
          unfold eqGuard
          cases op' <;> rfl
      obtain ⟨m1, m2, m3⟩ := main _ rfl
      have he : (binOp op' t (a.eval x') .nilIface).run P w = .ok (.bool (cond neg (!b) b)) w := by
        rw [h0, ← m3 neg]
        cases neg
        · simp only [cond_false, Sem.run_bind, m1, Result.andThen_ok, Sem.run_pure]
        · simp only [cond_true, Sem.run_bind, m1, Result.andThen_ok, Sem.run_pure]
      simp only [execOp, hop, hy, Sem.run_bind, m2, Result.andThen_ok, he, Sem.run_pure]
    · cases hT
  · cases hT
theorem OpRun.err {o : Oper} (neg : Bool) (ho : ops[i]? = some o) (hco : compIO P ops o = some ⟨d, .bin (cond neg .neq .eql) false x (.c (.p .nilIface)), gd, args, kd⟩) (hT : ifT P ops i = true) (hg : gval S.fr gd = some true) (hx : tau (fget S.fr) x = errV T b) (hcd : Conds S.fr args) {σ : Sig} :
    OpRun P ops i (fget S.fr) σ (fun _ => False) (vb (cond neg (!b) b)) σ := by
  intro w F β Av a Q K o' ho' hfr hr _ hK
  rw [ho] at ho'; cases ho'
  have hw := wanted_of hfr (((comp_facts hco).2.2.2.2 S.fr).trans hg)
  unfold wpOp
  simp only [ho, hw, if_true]
  left
  unfold Oper.wp
  rw [err_run neg ho hco hT hx hcd hr.gl hfr]
  exact hK _ w F β (hr.av_mono fun n h => h.1) (.fr (.p rfl)) (Evolve.refl _ _ _ _)
theorem OpRun1.err {o : Oper} (neg : Bool) (ho : ops[i]? = some o) (hco : compIO P ops o = some ⟨d, .bin (cond neg .neq .eql) false x (.c (.p .nilIface)), gd, args, kd⟩) (hT : ifT P ops i = true) (hg : gval S.fr gd = some true) (hx : tau (fget S.fr) x = errV T b) (hcd : Conds S.fr args) :
    OpRun1 P ops i (fget S.fr) S.ob (vb (cond neg (!b) b)) S.ob := by
  intro w F β a Q K o' ho' hfr hr hK
  rw [ho] at ho'; cases ho'
  have hw := wanted_of hfr (((comp_facts hco).2.2.2.2 S.fr).trans hg)
  unfold wpOp
  simp only [ho, hw, if_true]
  left
  unfold Oper.wp
  rw [err_run neg ho hco hT hx hcd hr.gl hfr]
  exact hK _ w F β hr (.fr (.p rfl)) (Evolve.refl _ _ _ _)
theorem Op1.err (neg : Bool) (hc : compAt P sz ops i = some ⟨d, .bin (cond neg .neq .eql) false x (.c (.p .nilIface)), gd, args, kd⟩) (hT : ifT P ops i = true)
    (hg : gval S.fr gd = some true) (hx : tau (fget S.fr) x = errV T b) (hcd : Conds S.fr args) : Op1 P sz ops i S d (vb (cond neg (!b) b)) S.ob :=
  ⟨_, hc, rfl, Nat.le_refl _, fun ⟨_, ho, hco⟩ => OpRun1.err neg ho hco hT hg hx hcd⟩
theorem OpD.err (neg : Bool) (hc : compAt P sz ops i = some ⟨d, .bin (cond neg .neq .eql) false x (.c (.p .nilIface)), gd, args, kd⟩) (hT : ifT P ops i = true)
    (hg : gval S.fr gd = some true) (hx : tau (fget S.fr) x = errV T b) (hcd : Conds S.fr args) : OpD P sz ops i S d (vb (cond neg (!b) b)) [] [] (S.ob ++ [none]) := by
  obtain ⟨⟨o, ho', hco⟩, _, _⟩ := compAt_facts hc
  refine ⟨_, hc, rfl, by simp, fun n _ => oget_none_append _ _, fun σ h1 h2 => ?_⟩
  rw [ifnil]
  exact OpRun.pad (OpRun.err neg ho' hco hT hg hx hcd)
end
end
section
open Go Go.Sort Go.Proofs
theorem Rep.wider {w w' : World} {F : Nat → Prop} {β : Beta} {σ : Sig} {Av : Nat → Prop} (hr : Rep w F β σ Av) (h1 : w'.os = w.os) (h2 : w'.tape = w.tape) (h3 : w'.output = w.output) (h4 : w.heap.size ≤ w'.heap.size) (h5 : ∀ b, b < w.heap.size → w'.heap[b]? = w.heap[b]?) :
    Rep w' F β σ Av ∧ Evolve w F β σ w' F β σ := by
  refine ⟨⟨fun b hb => Nat.lt_of_lt_of_le (hr.falloc b hb) h4, hr.dom, fun n o h => ?_, hr.sep, hr.gl.mono (fun _ h => h) fun b hb => h5 b (hr.falloc b hb)⟩, ⟨h1, h2, h3, h4, fun _ _ h => h, fun _ h => h, fun b hb _ => h5 b hb, fun _ _ h => .inl h, fun _ _ h => h⟩⟩
  obtain ⟨l, g1, g2, g3⟩ := hr.obj n o h
  exact ⟨l, g1, ORep.mono (fun _ h => h) (fun b hb => h5 b (hr.falloc b hb)) (fun _ _ h => h) (fun b hb => h5 b (g3 b hb).2) g2, fun b hb => ⟨(g3 b hb).1, Nat.lt_of_lt_of_le (g3 b hb).2 h4⟩⟩
end
section
open Go Go.RowKit
variable {P : Program} {k : FuncId}
def newF (F : Nat → Prop) (w w' : World) : Nat → Prop := fun b => F b ∨ (w.heap.size ≤ b ∧ b < w'.heap.size)
theorem Rep.fresh {w w' : World} {F : Nat → Prop} {β : Beta} {σ : Sig} {Av : Nat → Prop} (hr : Rep w F β σ Av) (hb : Below w.heap.size w w') : Rep w' (newF F w w') β σ Av ∧ Evolve w F β σ w' (newF F w w') β σ := by
  have hF : ∀ b, F b → w'.heap[b]? = w.heap[b]? := fun b h => hb.block b (hr.falloc b h)
  refine ⟨⟨fun b h => ?_, hr.dom, fun n o h => ?_, hr.sep, hr.gl.mono (fun _ h => .inl h) hF⟩, ⟨hb.os, hb.tape, hb.output, hb.size, fun _ _ h => h, fun _ h => .inl h, fun b h _ => hb.block b h, fun b h g => ?_, fun _ _ h => h⟩⟩
  · rcases h with h | h
    · exact Nat.lt_of_lt_of_le (hr.falloc b h) hb.size
    · exact h.2
  · obtain ⟨l, g1, g2, g3⟩ := hr.obj n o h
    refine ⟨l, g1, g2.mono (fun _ h => .inl h) hF (fun _ _ h => h) (fun b h => hb.block b (g3 b h).2), fun b h => ⟨?_, Nat.lt_of_lt_of_le (g3 b h).2 hb.size⟩⟩
    rintro (q | q)
    · exact (g3 b h).1 q
    · have := (g3 b h).2; omega
  · rcases g with g | g
    · exact .inl g
    · omega
theorem plain_args {w : World} {F : Nat → Prop} {β : Beta} {args : Array Value} {vs : List Value} (h : CellsRep w F β args (vs.map V.p)) : args = vs.toArray := by
  obtain ⟨h1, h2⟩ := h
  rw [List.length_map] at h1 h2
  refine Array.ext (by simpa using h1) fun j hj hj' => ?_
  have hv := h2 j (by omega)
  have e : nth (vs.map V.p) j = .p (vs[j]'(by omega)) := by simp [nth, List.getD, List.getElem?_map, List.getElem?_eq_getElem (show j < vs.length by omega)]
  rw [e] at hv
  have := hv.p_inv.1
  rw [show args.getD j Go.undef = args[j] by simp [Array.getD, hj]] at this
  simpa using this
theorem FnL_lib (hE : ∀ args w, (callFunc k args).run P w = .ok (.enter k args) w) {vs : List Value} {y : V}
    (C : ∀ w F, GRep w F → Calls P k vs.toArray w fun e w' => ∃ v, e = .returned v ∧ Below w.heap.size w w' ∧ ∀ β, VRep w' (newF F w w') β v y) : FnL P k (vs.map V.p) [] y [] := by
  refine ⟨hE, Nat.le_refl _, fun j hj => by simp at hj, fun w F β args hr hc => ?_⟩
  rw [plain_args hc]
  refine (C w F hr.gl).mono ?_
  rintro e w' ⟨v, rfl, hb, hv⟩
  obtain ⟨r1, ev⟩ := hr.fresh hb
  exact ⟨v, _, β, rfl, r1, hv β, ev⟩
theorem frep_strings {w' : World} {F : Nat → Prop} {b n : Nat} {T : TypeId} {z : Nat × Nat} {l : List Str} (hF : F b) (hn : l.length ≤ n) (h : w'.heap[b]? = some (.cells (l.map fun s => Value.string ⟨⟨s⟩⟩).toArray T z)) : FRep w' F (.slice (some ⟨b, 0, none⟩) l.length n) (eS 1 vt l) := by
  by_cases h0 : l.length = 0
  · have : l = [] := List.eq_nil_of_length_eq_zero h0
    subst this
    exact .sl0
  · have hlen : (l.map vt).length = l.length := by simp
    have hnth : ∀ i, i < l.length → nth (l.map vt) i = vt (l.getD i []) := fun i hi => by simp [nth, List.getD, hi]
    have := FRep.sl (w := w') (F := F) (b := b) (off := 0) (cap := n) (k := 1) (es := l.map vt) (fun i j => .string ⟨⟨l.getD i []⟩⟩) (by rw [hlen]; omega) (by rw [hlen]; exact hn) hF Nat.one_pos
      (fun i hi => by rw [hnth i (by rw [hlen] at hi; exact hi)]; exact ⟨rfl, by simp [V.flat, vt, one]⟩)
      (fun i j hi hj => by
        have : j = 0 := by omega
        subst this
        rw [hlen] at hi
        rw [show 0 + i * 1 + 0 = i by omega]
        simp [World.cell?, h, List.getD, hi])
      (fun i j hi hj => by
        have : j = 0 := by omega
        subst this
        rw [hnth i (by rw [hlen] at hi; exact hi)]
        exact .p rfl)
    rw [hlen] at this
    exact this
end
section
open Go
def splitL (c : UInt8) : List UInt8 → List (List UInt8)
  | [] => [[]]
  | b :: l => bif b == c then [] :: splitL c l else match splitL c l with
    | [] => [[b]]
    | x :: r => (b :: x) :: r
theorem index_one_cons (b c : UInt8) (l : List UInt8) : Lib.index (b :: l) [c] = if c == b then 0 else if Lib.index l [c] == -1 then -1 else Lib.index l [c] + 1 := by
  rw [Lib.index]
  have : [c].isPrefixOf (b :: l) = (c == b) := by simp [List.isPrefixOf]
  rw [this]
theorem splitK_one (c : UInt8) : ∀ s : List UInt8, Lib.splitK [c] 0 (Lib.count s [c]) s = splitL c s
  | [] => rfl
  | b :: l => by
    have ih := splitK_one c l
    by_cases h : b = c
    · subst h
      rw [Lib.count_cons_eq, Nat.add_comm, Lib.splitK, index_one_cons]
      simp only [beq_self_eq_true, if_true, splitL, cond_true]
      rw [if_neg (by decide)]
      simp [ih]
    · have hne : (c == b) = false := by simp; exact fun e => h e.symm
      have hne2 : (b == c) = false := by simp [h]
      rw [Lib.count_cons_ne _ _ _ h, splitL, hne2, cond_false]
      generalize Lib.count l [c] = k at ih
      cases k with
      | zero => rw [Lib.splitK] at ih ⊢; rw [← ih]
      | succ k =>
        rw [Lib.splitK] at ih ⊢
        rw [index_one_cons, hne]
        simp only [Bool.false_eq_true, if_false]
        by_cases hi : Lib.index l [c] = -1
        · rw [hi] at ih ⊢
          simp at ih ⊢
          rw [← ih]
        · have hg := Lib.index_ge l [c]
          obtain ⟨i, hi2⟩ : ∃ i : Nat, Lib.index l [c] = (i : Int) := ⟨(Lib.index l [c]).toNat, by omega⟩
          rw [hi2] at ih ⊢
          have e1 : ((i : Int) == -1) = false := by simp
          have e2 : (((i : Int) + 1) == -1) = false := by simp; omega
          rw [e1] at ih ⊢
          simp only [Bool.false_eq_true, if_false, e2] at ih ⊢
          rw [← ih]
          have e3 : ((i : Int) + 1).toNat = i + 1 := by omega
          simp [e3, Nat.add_right_comm]
def itoaL (n : Int) : List UInt8 := Lib.itoa n
def atoiL (s : List UInt8) : Int × Bool := match Lib.atoiAll s with
  | .ok v => (v, true)
  | .range => (Lib.atoiSat s, false)
  | _ => (0, false)
def joinL (l : List (List UInt8)) (sep : List UInt8) : List UInt8 := Lib.join l sep
theorem splitB_one (c : UInt8) (s : List UInt8) : (Lib.splitB ⟨⟨[c]⟩⟩ 0 (Lib.countB ⟨⟨s⟩⟩ ⟨⟨[c]⟩⟩) ⟨⟨s⟩⟩).map Value.string = (splitL c s).map fun x => Value.string ⟨⟨x⟩⟩ := by
  have h := Lib.splitB_data ⟨⟨[c]⟩⟩ 0 (Lib.countB ⟨⟨s⟩⟩ ⟨⟨[c]⟩⟩) ⟨⟨s⟩⟩
  have h2 := splitK_one c s
  have h3 : (Lib.splitB ⟨⟨[c]⟩⟩ 0 (Lib.countB ⟨⟨s⟩⟩ ⟨⟨[c]⟩⟩) ⟨⟨s⟩⟩).map (·.data.toList) = splitL c s := h.trans h2
  rw [← h3, List.map_map]
  rfl
def splitC (s sep : List UInt8) : Option (List (List UInt8)) := match sep with
  | [c] => some (splitL c s)
  | _ => none
end
section
open Go
variable {x y : X} {τ : X → V} {g : Nat → Option AObj} {nn : Nat}
theorem ok_kaddr {q : Int} (hx : τ x = globV 0) (hy : τ y = vi q) (h : inB q 4 = true) : Ok (.aaddr 4 1 x y) τ g nn (.fptr 4 [.agg (gKinds.map vt)] 0 (0 + q.toNat * 1)) := by
  have h1 : 0 ≤ q ∧ q < 4 := by
    simp only [inB, Bool.and_eq_true, decide_eq_true_eq] at h; omega
  have hx' : τ x = .fptr 4 [.agg (gKinds.map vt)] 0 0 := hx
  have h2 : 0 + q.toNat * 1 < 4 := by omega
  simp [Ok, isem, Res.of, hx', hy, h1, h2]
theorem ok_kload {i : Nat} (hx : τ x = .fptr 4 [.agg (gKinds.map vt)] 0 (0 + i * 1)) (h : decide (i < 4) = true) : Ok (.load false 1 x) τ g nn (vt (ix gKinds i)) := by
  have h := of_decide_eq_true h
  have hl : gKinds.length = 4 := rfl
  have e : nth (gKinds.map vt) i = vt (ix gKinds i) := nth_mapi (by omega)
  simp only [Ok, isem, hx, nth_zero, Nat.zero_add, Nat.mul_one]
  have : loadE false 1 (.agg (gKinds.map vt)) i = some (vt (ix gKinds i)) := by
    unfold loadE
    rw [← e]
    simp [V.flat, nth, hl, h]
  simp [this, Res.of]
end
end Go.Proofs.YtchkkpbkgghcoaaGreatDoor.As
