/- Rules for the program's operations over plain values, part 3: no condition. -/
import Derived.Test.YtpmkdgnhllhaeaaGround2
namespace Go.Proofs.Ytpmkdgnhllhaeaa.As
open Go
section
open Go
variable {P : Program} {sz : Nat} {df : List Deferred} {m : Nat}
def clrL (es : List V) (off len : Nat) (z : V) : List V := es.take off ++ List.replicate len z ++ es.drop (off + len)
theorem clrL_len {es : List V} {off len : Nat} {z : V} (h : off + len ≤ es.length) : (clrL es off len z).length = es.length := by
  simp [clrL]; omega
theorem clrL_nth {es : List V} {off len : Nat} {z : V} (h : off + len ≤ es.length) (j : Nat) : nth (clrL es off len z) j = if j < off then nth es j else if j < off + len then z else nth es j := by
  have := nth_mid es (List.replicate len z) off j (by simpa using h)
  simp only [List.length_replicate] at this
  unfold clrL
  rw [this]
  by_cases h1 : j < off
  · rw [if_pos h1, if_pos h1]
  · rw [if_neg h1, if_neg h1]
    by_cases h2 : j < off + len
    · rw [if_pos h2, if_pos h2]
      have : j - off < len := by omega
      simp [nth, List.getD, this]
    · rw [if_neg h2, if_neg h2]
def rawClr (P : Program) (sz : Nat) (ops : Array Oper) (i : Nat) : Option (Option Nat × Nat × V × X) := match ops[i]? with
  | none => none
  | some o => match o.op, o.guard, dstOK sz o.dst with
    | .call c, none, true => match c.callee, c.args.toList, c.argTypes.toList with
      | .builtin .clear, [x], [t] => match elemInfo P t with
        | some (k, _, z) => some (o.dst, k, z, toX x)
        | none => none
      | _, _, _ => none
    | _, _, _ => none
theorem RegJ.clr {ops : Array Oper} {i : Nat} {S : St} {K : St → Prop} {d : Option Nat} {x : X} {k nn off len : Nat} {z : V} {es : List V} (hr : rawClr P sz ops i = some (d, k, z, x)) (hx : xcond S.fr x = true) (hv : tau (fget S.fr) x = .own nn off len)
    (ho : oget S.ob nn = some (.row k es)) (h0 : decide (0 < len) = true) (hle : decide (off + len ≤ es.length) = true) (hz : (z.flat.all one && decide (z.flat.length = k)) = true)
    (kk : RegJ P sz df m ops (i + 1) ⟨fputc S.fr d .undef, S.ob.set nn (some (.row k (clrL es off len z)))⟩ K) : RegJ P sz df m ops i S K := by
  have h0 := of_decide_eq_true h0
  have hle := of_decide_eq_true hle
  obtain ⟨hz1, hz2⟩ := Bool.and_eq_true_iff.1 hz
  have hz2 := of_decide_eq_true hz2
  have hlt : nn < S.ob.length := oget_some (by rw [ho]; simp)
  unfold rawClr at hr
  split at hr
  · cases hr
  · rename_i o hoo
    split at hr
    · rename_i c hop hgd hd
      split at hr
      · rename_i x' t hcal hargs htys
        split at hr
        · rename_i k' b' z' hel
          simp only [Option.some.injEq, Prod.mk.injEq] at hr
          obtain ⟨rfl, rfl, rfl, rfl⟩ := hr
          obtain ⟨e, inf, zv, e1, e2, e3, e4, e5, e6, e7, e8⟩ := elemInfo_spec hel
          refine RegJ.oprun0 hoo (dstOK_lt hd) ?_ (by simp) kk
          intro w F β a Q Kk o' ho' hfr hrep hK
          rw [hoo] at ho'; cases ho'
          have hw := wanted_of (fr := fget S.fr) hfr (show guardV ops (fget S.fr) o.guard = some true by rw [hgd]; rfl)
          have hxv : VRep w F β (a.eval x') (.own nn off len) := by
            have := vrep_operand (w := w) (F := F) (β := β) (a := a) (fr := fget S.fr) (x := x') (fun t e => hfr t (by
              subst e
              exact List.mem_append_left _ (List.mem_filterMap.2 ⟨.tmp t, by simp [hop, Op.operands, Call.operands, hargs], rfl⟩))) (by rw [← xcond_opnd]; exact hx)
            rw [hv] at this; exact this
          rcases hxv.own_inv with ⟨b, s, k3, sz2, cap, hbeta, hlc, hcap, had⟩ | ⟨hbeta, rfl, rfl, _⟩
          · obtain ⟨l, hl, hob, _⟩ := hrep.obj nn _ ho
            rw [hbeta] at hl; cases hl
            obtain ⟨rfl, cs, T, hcs, hsz, hk0, hfit, hflat, hc⟩ := hob
            have hzc := zero_cells_rep (w := w) (F := F) (β := β) (n := len) hk0 (zv := zv) (by rw [← e8]; exact hz2) (by rw [← e8]; exact hz1) e6
            rw [← e8] at hzc
            have hzo : ∀ q, q < (List.replicate len z').length → okE k' (nth (List.replicate len z') q) := fun q hq => replicate_rep hz2 hz1 q hq
            obtain ⟨hz3, hz4⟩ := hzc.row hzo
            rw [List.length_replicate] at hz3 hz4
            have hsize : (Builtin.zeroCells zv.cells len).toList.length = len * k' := by
              rw [Array.length_toList, size_zeroCells, e6]
            have hap : s + off * k' + (Builtin.zeroCells zv.cells len).toList.length ≤ cs.size := by
              rw [hsize, hsz]
              have h3 : (off + len) * k' ≤ es.length * k' := Nat.mul_le_mul_right _ hle
              rw [Nat.add_mul] at h3; omega
            have hzeq : Builtin.zeroCells zv.cells len = (Array.range (len * k')).map (zv.cells[· % zv.cells.size]!) := by
              simp [Builtin.zeroCells, e6]
            have hone : ∀ v ∈ (Builtin.zeroCells zv.cells len).toList, v.oneCell' = true := by
              intro v hv'
              rw [hzeq] at hv'
              obtain ⟨q, hq, rfl⟩ := List.getElem_of_mem hv'
              have hq' : q < len * k' := by simpa using hq
              have hqk : q % k' < k' := Nat.mod_lt _ hk0
              have h9 : q / k' < len := (Nat.div_lt_iff_lt_mul hk0).2 hq'
              have h10 := hz4 (q / k') (q % k') h9 hqk
              have h11 : q / k' * k' + q % k' = q := by have := Nat.div_add_mod q k'; rw [Nat.mul_comm] at this; omega
              rw [h11] at h10
              have h12 : one (nth (nth (List.replicate len z') (q / k')).flat (q % k')) = true := by
                obtain ⟨h13, h14⟩ := hzo _ (by simpa using h9)
                exact h14 _ (nth_mem (by rw [h13]; exact hqk))
              have := oneCell_of_vrep h10 h12
              simpa [Array.getD, hq'] using this
            have hst := run_storeCells_at P b (s + off * k') T (Builtin.zeroCells zv.cells len).toList 0 cs w hcs (by omega) hone
            have hspl : (cs.toList.take (s + off * k' + 0) ++ (Builtin.zeroCells zv.cells len).toList ++ cs.toList.drop (s + off * k' + 0 + (Builtin.zeroCells zv.cells len).toList.length)).toArray = splice cs (s + off * k') (Builtin.zeroCells zv.cells len).toList := by simp [splice]
            rw [hspl] at hst
            have hR := hrep.write_row ho hbeta hcs (splice cs (s + off * k') (Builtin.zeroCells zv.cells len).toList) ((splice_size _ _ _ hap).trans hsz) (clrL es off len z') hk0 (by rw [clrL_len hle]; exact hfit)
              (fun q hq => by
                rw [clrL_len hle] at hq
                rw [clrL_nth hle]
                by_cases h1 : q < off
                · rw [if_pos h1]; exact hflat q hq
                · rw [if_neg h1]
                  by_cases h2 : q < off + len
                  · rw [if_pos h2]
                    have := hzo 0 (by simpa using h0)
                    simpa [nth, List.getD, h0] using this
                  · rw [if_neg h2]; exact hflat q hq)
              (fun q j hq hj => by
                rw [clrL_len hle] at hq
                rw [splice_getD _ _ _ hap, clrL_nth hle, hsize]
                by_cases h1 : q < off
                · have : (q + 1) * k' ≤ off * k' := Nat.mul_le_mul_right _ h1
                  rw [Nat.succ_mul] at this
                  rw [if_pos (by omega), if_pos h1]; exact hc q j hq hj
                · have h3 : off * k' ≤ q * k' := Nat.mul_le_mul_right _ (by omega)
                  rw [if_neg (by omega), if_neg h1]
                  by_cases h2 : q < off + len
                  · have h4 : (q - off + 1) * k' ≤ len * k' := Nat.mul_le_mul_right _ (by omega)
                    rw [Nat.succ_mul] at h4
                    have h5 : (q - off) * k' + off * k' = q * k' := by rw [← Nat.add_mul]; congr 1; omega
                    rw [if_pos (by omega), if_pos h2, hzeq, show s + q * k' + j - (s + off * k') = (q - off) * k' + j by omega]
                    have h6 := hz4 (q - off) j (by omega) hj
                    have h7 : nth (List.replicate len z') (q - off) = z' := by simp [nth, List.getD, show q - off < len by omega]
                    rw [h7] at h6
                    have e9 : ∀ (A : Array Value) (p : Nat), A.toList.getD p undef = A.getD p undef := fun A p => by simp [Array.getD_eq_getD_getElem?, List.getD]
                    rw [e9]; exact h6
                  · have h4 : (off + len) * k' ≤ q * k' := Nat.mul_le_mul_right _ (by omega)
                    rw [Nat.add_mul] at h4
                    rw [if_neg (by omega), if_neg h2]; exact hc q j hq hj)
            unfold wpOp
            simp only [hoo, hw, if_true]
            left
            have hzr : ∀ w : World, (zeroValue e).run P w = .ok zv w := fun w => by simp [zeroValue, typeInfo, e2, e5]
            have hrun : (execOp a.eval o).run P w = .ok (.value (.tuple #[])) (w.setRow b (splice cs (s + off * k') (Builtin.zeroCells zv.cells len).toList)) := by
              refine exec_builtin (f := Builtin.clear_) hop hcal (fun _ _ _ _ => rfl) ?_
              rw [arr1 hargs, arr1 htys, map1, had]
              obtain ⟨l', rfl⟩ : ∃ l', len = l' + 1 := ⟨len - 1, by omega⟩
              simp [Builtin.clear_, run_underlying e1, hzr, hst]
            unfold Oper.wp
            rw [hrun]
            rw [← oget_set_upd _ hlt] at hR
            refine hK _ _ F β ?_ .undef hR.2
            have := hR.1
            rw [List.length_set]; exact this
          · omega
        · cases hr
      · cases hr
    · cases hr
def clrP {α : Type} (l : List α) (off len : Nat) (x : α) : List α := l.take off ++ List.replicate len x ++ l.drop (off + len)
theorem clrP_map {α : Type} (e : α → V) (l : List α) (off len : Nat) (x : α) : clrL (List.map e l) off len (e x) = List.map e (clrP l off len x) := by
  simp [clrL, clrP]
theorem RegJ.clrM {α : Type} {e : α → V} {l : List α} {x0 : α} {ops : Array Oper} {i : Nat} {S : St} {K : St → Prop} {d : Option Nat} {x : X} {k nn off len : Nat} (hr : rawClr P sz ops i = some (d, k, e x0, x)) (hx : xcond S.fr x = true) (hv : tau (fget S.fr) x = .own nn off len)
    (ho : oget S.ob nn = some (.row k (List.map e l))) (h0 : decide (0 < len) = true) (hle : decide (off + len ≤ l.length) = true) (hz : ((e x0).flat.all one && decide ((e x0).flat.length = k)) = true)
    (kk : RegJ P sz df m ops (i + 1) ⟨fputc S.fr d .undef, S.ob.set nn (some (.row k (List.map e (clrP l off len x0))))⟩ K) : RegJ P sz df m ops i S K :=
  RegJ.clr hr hx hv ho h0 (by rw [List.length_map]; exact hle) hz (by rw [clrP_map]; exact kk)
end
section
open Go
variable {P : Program} {sz : Nat} {df : List Deferred} {m : Nat}
def slotR : ResultVar → Nat
  | .tmp t => t
  | .cell a _ => a
def loadC (P : Program) (S : St) (a : Nat) (ty : TypeId) : Option V := match tAgg P ty, tSize P ty, fget S.fr a with
  | some ag, some k, .ptr n i off => match oget S.ob n with
    | some (.row _ es) => match decide (i < es.length) with
      | true => loadE ag k (nth es i) off
      | false => none
    | _ => none
  | _, _, _ => none
def resV (P : Program) (S : St) : ResultVar → Option V
  | .tmp t => some (fget S.fr t)
  | .cell a ty => loadC P S a ty
def zipR : List ResultVar → List V → Fr
  | r :: rs, v :: vs => (slotR r, v) :: zipR rs vs
  | _, _ => []
def resVs (P : Program) (S : St) : List ResultVar → Option (List V)
  | [] => some []
  | r :: rs => match resV P S r, resVs P S rs with
    | some v, some vs => some (v :: vs)
    | _, _ => none
def getR (tmps : Array Value) : ResultVar → Sem Value
  | .tmp t => pure (tmps.getD t Go.undef)
  | .cell b t => do loadVar t (← asAddr (tmps.getD b Go.undef))
theorem resV_run {S : St} {b : Base} {w : World} {F : Nat → Prop} {β : Beta} {a : Act} (hc : Cur m sz df b S w F β a) {r : ResultVar} {v : V} (h : resV P S r = some v) : ∃ u, (getR a.tmps r).run P w = .ok u w ∧ VRep w F β u v := by
  cases r with
  | tmp t =>
    simp only [resV, Option.some.injEq] at h
    subst h
    exact ⟨_, rfl, hc.fr.2.2 t⟩
  | cell c ty =>
    simp only [resV, loadC] at h
    split at h
    · rename_i ag k n i off h1 h2 h3
      split at h
      · rename_i k0 es h4
        split at h
        · rename_i h5
          have hi : i < es.length := by simpa using h5
          have hv := hc.fr.2.2 c
          rw [h3] at hv
          obtain ⟨blk, s, k', sz', hb, e⟩ := hv.ptr_inv
          obtain ⟨l, hl, ho, _⟩ := hc.rep.obj n _ h4
          rw [hb] at hl; cases hl
          have hfl : (nth es i).flat.length = k' := by obtain ⟨_, cs, T, g1, g2, g3, g4, g5, g6⟩ := ho; exact (g5 i hi).1
          obtain ⟨u, hu, hvv⟩ := load_cells (P := P) (p := s + i * k') h1 h2 hfl (fun j hj => row_cell ho i j hi hj) h
          refine ⟨u, ?_, hvv⟩
          simp only [getR, e]
          simpa [asAddr] using hu
        · cases h
      · cases h
    · cases h
def lookR : List ResultVar → List Value → Nat → Value
  | r :: rs, u :: us, t => match Nat.decEq (slotR r) t with
    | .isTrue _ => u
    | .isFalse _ => lookR rs us t
  | _, _, _ => Go.undef
theorem look_fr {w : World} {F : Nat → Prop} {β : Beta} : ∀ (rs : List ResultVar) (us : List Value) (vs : List V), us.length = rs.length → vs.length = rs.length → (∀ j, j < rs.length → VRep w F β (us.getD j Go.undef) (nth vs j)) → ∀ t, VRep w F β (lookR rs us t) (fget (zipR rs vs) t)
  | [], us, vs, _, _, _, t => by
    cases us <;> cases vs <;> exact .undef
  | r :: rs, u :: us, v :: vs, h1, h2, h, t => by
    simp only [lookR, zipR, fget]
    cases Nat.decEq (slotR r) t with
    | isTrue _ => exact h 0 (by simp)
    | isFalse _ => exact look_fr rs us vs (by simpa using h1) (by simpa using h2) (fun j hj => h (j + 1) (by simpa using hj)) t
  | _ :: _, [], _, h, _, _, _ => by simp at h
  | _ :: _, _ :: _, [], _, h, _, _ => by simp at h
theorem look_at : ∀ (rs : List ResultVar) (us : List Value), us.length = rs.length → (rs.map slotR).Nodup → ∀ j (hj : j < rs.length), lookR rs us (slotR rs[j]) = us.getD j Go.undef
  | [], us, _, _, j, hj => by simp at hj
  | r :: rs, u :: us, h1, hn, j, hj => by
    simp only [List.map_cons, List.nodup_cons] at hn
    cases j with
    | zero =>
      simp only [List.getElem_cons_zero, lookR]
      split
      · rfl
      · rename_i hne _; exact absurd rfl hne
    | succ j =>
      have hj' : j < rs.length := by simpa using hj
      simp only [List.getElem_cons_succ, lookR]
      split
      · rename_i he _
        exact absurd (he ▸ List.mem_map_of_mem (List.getElem_mem hj')) hn.1
      · simpa using look_at rs us (by simpa using h1) hn.2 j hj'
  | _ :: _, [], h, _, _, _ => by simp at h
theorem resVs_run {S : St} {b : Base} {w : World} {F : Nat → Prop} {β : Beta} {a : Act} (hc : Cur m sz df b S w F β a) : ∀ {rs : List ResultVar} {vs : List V}, resVs P S rs = some vs → ∃ us : List Value, us.length = rs.length ∧ vs.length = rs.length ∧ ∀ j (hj : j < rs.length), (getR a.tmps rs[j]).run P w = .ok (us.getD j Go.undef) w ∧ VRep w F β (us.getD j Go.undef) (nth vs j)
  | [], vs, h => by cases h; exact ⟨[], rfl, rfl, fun j hj => by simp at hj⟩
  | r :: rs, vs, h => by
    simp only [resVs] at h
    split at h
    · rename_i v vs' h1 h2
      cases h
      obtain ⟨us, g1, g2, g3⟩ := resVs_run hc h2
      obtain ⟨u, k1, k2⟩ := resV_run hc h1
      refine ⟨u :: us, by simp [g1], by simp [g2], fun j hj => ?_⟩
      cases j with
      | zero => exact ⟨k1, k2⟩
      | succ j => exact g3 j (by simpa using hj)
    · cases h
theorem resT_rep {tmps1 : Array Value} {w : World} {F : Nat → Prop} {β : Beta} {fr : Fr} (hv : ∀ t, VRep w F β (tmps1.getD t Go.undef) (fget fr t)) (ts : List Nat) :
    VRep w F β (if h : (ts.map fun t => tmps1.getD t Go.undef).toArray.size = 1 then (ts.map fun t => tmps1.getD t Go.undef).toArray[0] else .tuple (ts.map fun t => tmps1.getD t Go.undef).toArray) (resT ts fr) := by
  match ts with
  | [] => exact .tup (by simp) (fun j hj => by simp at hj)
  | [t] => exact hv t
  | t :: u :: r =>
    have : ¬ ((List.map (fun t => tmps1.getD t Go.undef) (t :: u :: r)).toArray.size = 1) := by simp
    rw [dif_neg this]
    refine .tup (by simp) fun j hj => ?_
    have hj' : j < (t :: u :: r).length := by simpa using hj
    have e1 : (List.map (fun t => tmps1.getD t Go.undef) (t :: u :: r)).toArray.getD j Go.undef = tmps1.getD ((t :: u :: r)[j]) Go.undef := by
      simp only [Array.getD_eq_getD_getElem?, List.getElem?_toArray, List.getElem?_map, List.getElem?_eq_getElem hj', Option.map_some, Option.getD_some]
    have e2 : nth (List.map (fget fr) (t :: u :: r)) j = fget fr ((t :: u :: r)[j]) := by
      simp only [nth, List.getD, List.getElem?_map, List.getElem?_eq_getElem hj', Option.map_some, Option.getD_some]
    rw [e1, e2]
    exact hv _
theorem resultsC_run {fn : Func} {rs : List ResultVar} (hr : fn.results = rs.toArray) {tmps tmps1 : Array Value} {w : World} (h : ∀ r ∈ rs, (getR tmps r).run P w = .ok (tmps1.getD (slotR r) Go.undef) w) {F : Nat → Prop} {β : Beta} {fr : Fr} (hv : ∀ t, VRep w F β (tmps1.getD t Go.undef) (fget fr t)) :
    ∃ v, (results fn tmps).run P w = .ok v w ∧ VRep w F β v (resT (rs.map slotR) fr) := by
  classical
  let ts : List Nat := rs.map slotR
  have hm : (fn.results.mapM (getR tmps)).run P w = .ok (ts.map fun t => tmps1.getD t Go.undef).toArray w := by
    rw [hr]
    refine run_array_mapM (P := P) (w := w) _ (fun r => if (getR tmps r).run P w = .ok (tmps1.getD (slotR r) Go.undef) w then some (tmps1.getD (slotR r) Go.undef) else none) ?_ _ _ ?_
    · intro r c hc
      split at hc
      · rename_i e; cases hc; exact e
      · cases hc
    · show rs.mapM _ = some _
      simp only [ts]
      clear hr hv ts
      induction rs with
      | nil => rfl
      | cons r rs ih =>
        rw [List.mapM_cons, if_pos (h r (by simp)), ih fun x hx => h x (by simp [hx])]
        rfl
  obtain ⟨v, e, hvv⟩ : ∃ v, v = (if h : (ts.map fun t => tmps1.getD t Go.undef).toArray.size = 1 then (ts.map fun t => tmps1.getD t Go.undef).toArray[0] else .tuple (ts.map fun t => tmps1.getD t Go.undef).toArray) ∧ VRep w F β v (resT ts fr) := ⟨_, rfl, resT_rep hv ts⟩
  refine ⟨v, ?_, hvv⟩
  rw [e]
  unfold results
  rw [Sem.run_bind]
  exact (congrArg (fun r => Result.andThen r (fun (vs : Array Value) w' => Sem.run P (pure (if h : vs.size = 1 then vs[0] else Value.tuple vs)) w')) hm)
def DoneC (P : Program) (m : Nat) (rs : List ResultVar) (y : V) (ob' : Objs) : PostS := fun e S => match e with
  | .normal | .ret => ∃ vs, resVs P S rs = some vs ∧ Vs m (fun S' => resT (rs.map slotR) S'.fr = y ∧ S'.ob = ob') ⟨zipR rs vs, S.ob⟩
  | _ => False
theorem DoneC.ret {rs : List ResultVar} {y : V} {ob' : Objs} {S S' : St} (vs : List V) (h : Sees m ⟨zipR rs vs, S.ob⟩ S') (hr : resT (rs.map slotR) S'.fr = y) (ho : S'.ob = ob') (hv : resVs P S rs = some vs := by kernel_rfl) : DoneC P m rs y ob' .ret S := ⟨vs, hv, S', h, hr, ho⟩
theorem DoneC.normal {rs : List ResultVar} {y : V} {ob' : Objs} {S S' : St} (vs : List V) (h : Sees m ⟨zipR rs vs, S.ob⟩ S') (hr : resT (rs.map slotR) S'.fr = y) (ho : S'.ob = ob') (hv : resVs P S rs = some vs := by kernel_rfl) : DoneC P m rs y ob' .normal S := ⟨vs, hv, S', h, hr, ho⟩
def slotsOK (sz : Nat) (rs : List ResultVar) : Bool := rs.all fun r => Nat.blt (slotR r) sz
theorem DoneC.act {rs : List ResultVar} {vs : List V} {S : St} {b : Base} {w : World} {F : Nat → Prop} {β : Beta} {a : Act} (hnd : (rs.map slotR).Nodup) (hsz : slotsOK sz rs = true) (hc : Cur m sz df b S w F β a) (h : resVs P S rs = some vs) :
    ∃ a1 : Act, Cur m sz df b ⟨zipR rs vs, S.ob⟩ w F β a1 ∧ ∀ r ∈ rs, (getR a.tmps r).run P w = .ok (a1.tmps.getD (slotR r) Go.undef) w := by
  obtain ⟨us, g1, g2, g3⟩ := resVs_run hc h
  have hlk : ∀ t, ¬ t < sz → lookR rs us t = Go.undef := by
    intro t ht
    clear g3 g2 h hnd
    induction rs generalizing us with
    | nil => cases us <;> rfl
    | cons r rs ih =>
      cases us with
      | nil => simp at g1
      | cons u us =>
        simp only [slotsOK, List.all_cons, Bool.and_eq_true] at hsz
        have h1 : slotR r < sz := Nat.le_of_ble_eq_true hsz.1
        simp only [lookR]
        cases Nat.decEq (slotR r) t with
        | isTrue e => exact absurd (e ▸ h1) ht
        | isFalse _ => exact ih hsz.2 us (by simpa using g1)
  let T : Array Value := ((List.range sz).map (lookR rs us)).toArray
  have hT : ∀ t, T.getD t Go.undef = lookR rs us t := by
    intro t
    by_cases ht : t < sz
    · simp [T, Array.getD_eq_getD_getElem?, ht]
    · rw [hlk t ht]
      simp [T, Array.getD_eq_getD_getElem?, ht]
  refine ⟨{ a with tmps := T }, ⟨hc.le, ⟨by simp [T], hc.fr.2.1, fun t => ?_⟩, hc.rep, hc.ev⟩, fun r hr => ?_⟩
  · show VRep w F β (T.getD t Go.undef) _
    rw [hT]
    exact look_fr rs us vs g1 g2 (fun j hj => (g3 j hj).2) t
  · obtain ⟨j, hj, rfl⟩ := List.mem_iff_getElem.1 hr
    show _ = Result.ok (T.getD (slotR rs[j]) Go.undef) w
    rw [hT, look_at rs us g1 hnd j hj]
    exact (g3 j hj).1
theorem FnL.ofC {k : FuncId} {fn : Func} {c : Code} {xs : List V} {ob ob' : Objs} {y : V} (rs : List ResultVar) (henter : ∀ args w, (callFunc k args).run P w = .ok (.enter k args) w)
    (hf : P.funcs[k]? = some fn) (hb : fn.body = some c) (ha : AllSome ob) (h : TriE P fn.ntmps [] ob.length c ⟨frOf xs 0, ob⟩ (DoneC P ob.length rs y ob'))
    (hr : fn.results = rs.toArray := by kernel_rfl) (hn : Nat.ble xs.length fn.ntmps = true := by kernel_rfl) (hl : Nat.ble ob.length ob'.length = true := by kernel_rfl) (hnd : (rs.map slotR).Nodup := by decide) (hsz : slotsOK fn.ntmps rs = true := by kernel_rfl) : FnL P k xs ob y ob' := by
  refine ⟨henter, Nat.le_of_ble_eq_true hl, hall_of ha, fun w F β args hrep hargs => ?_⟩
  refine calls_of_wp hf hb ?_
  have hn := Nat.le_of_ble_eq_true hn
  have hsz0 : args.size = xs.length := hargs.1
  have hcur : Cur ob.length fn.ntmps [] ⟨w, F, β, oget ob⟩ ⟨frOf xs 0, ob⟩ w F β { tmps := args ++ Array.replicate (fn.ntmps - args.size) Go.undef, defers := [] } := by
    refine ⟨Nat.le_refl _, ⟨by simp; omega, rfl, fun t => ?_⟩, hrep, Evolve.refl _ _ _ _⟩
    show VRep w F β _ (fget (frOf xs 0) t)
    rw [fget_frOf, if_pos (Nat.zero_le _), Nat.sub_zero]
    by_cases ht : t < xs.length
    · have : (args ++ Array.replicate (fn.ntmps - args.size) Go.undef).getD t Go.undef = args.getD t Go.undef := by
        simp only [Array.getD_eq_getD_getElem?]
        rw [Array.getElem?_append_left (by omega)]
      rw [this]; exact hargs.2 t ht
    · have : nth xs t = .undef := by simp only [nth, List.getD]; rw [List.getElem?_eq_none (by omega)]; rfl
      rw [this]; exact .undef
  refine Code.wp_mono ?_ (h ⟨w, F, β, oget ob⟩ (fun n hn => hrep.dom n hn) w F β _ hcur)
  have fin : ∀ (a' : Act) (w' : World) (S : St) (F' : Nat → Prop) (β' : Beta), (∃ vs, resVs P S rs = some vs ∧ Vs ob.length (fun S' => resT (rs.map slotR) S'.fr = y ∧ S'.ob = ob') ⟨zipR rs vs, S.ob⟩) → Cur ob.length fn.ntmps [] ⟨w, F, β, oget ob⟩ S w' F' β' a' →
      a'.defers = [] ∧ ∃ v, (results fn a'.tmps).run P w' = .ok v w' ∧ ∃ v2 F' β', Ending.returned v = .returned v2 ∧ Rep w' F' β' (oget ob') (fun n => ob'.length ≤ n) ∧ VRep w' F' β' v2 y ∧ Evolve w F β (oget ob) w' F' β' (oget ob') := by
    rintro a' w' S F' β' ⟨vs, hvs, S2, k1, rfl, rfl⟩ hc
    obtain ⟨a1, hc1, hrun⟩ := DoneC.act hnd hsz hc hvs
    obtain ⟨F2, β2, hc2⟩ := k1 _ _ _ (fun n hn => hrep.dom n hn) _ _ _ _ hc1
    obtain ⟨v, r1, r2⟩ := resultsC_run (P := P) hr hrun hc2.fr.2.2
    exact ⟨hc.fr.2.1, v, r1, v, _, _, rfl, hc2.rep, r2, hc2.ev⟩
  rintro e a' w' ⟨S, F', β', hq, hc⟩
  cases e with
  | normal => exact fin a' w' S F' β' hq hc
  | ret => exact fin a' w' S F' β' hq hc
  | _ => exact hq.elim
end
section
open Go
variable {P : Program} {sz : Nat} {df : List Deferred} {m : Nat}
def cpyL (es : List V) (off : Nat) (ys : List V) : List V := es.take off ++ ys ++ es.drop (off + ys.length)
theorem cpyL_len {es ys : List V} {off : Nat} (h : off + ys.length ≤ es.length) : (cpyL es off ys).length = es.length := by
  simp [cpyL]; omega
theorem cpyL_nth {es ys : List V} {off : Nat} (h : off + ys.length ≤ es.length) (j : Nat) : nth (cpyL es off ys) j = if j < off then nth es j else if j < off + ys.length then nth ys (j - off) else nth es j := by
  have := nth_mid es ys off j h
  unfold cpyL
  rw [this]
theorem elems_at {w : World} {F : Nat → Prop} {β : Beta} {σ : Nat → Option AObj} {Av : Nat → Prop} (hr : Rep w F β σ Av) {k : Nat} {y : Value} {ŷ : V} (hy : VRep w F β y ŷ) {news : List V} {rd : List Nat} (h : elemsOf k σ ŷ = some (news, rd, true)) (hp : ∀ u, ŷ ≠ .p u) : SlAt w F β k y news := by
  cases ŷ with
  | emp => simp only [elemsOf, Option.some.injEq, Prod.mk.injEq] at h; obtain ⟨rfl, _, _⟩ := h; exact hy.emp_at
  | sl k' es =>
    simp only [elemsOf] at h
    split at h
    · rename_i e _; subst e
      simp only [Option.some.injEq, Prod.mk.injEq] at h; obtain ⟨rfl, _, _⟩ := h; exact hy.sl_at
    · cases h
  | own n off len =>
    simp only [elemsOf] at h
    split at h
    · rename_i k' es hn
      split at h
      · rename_i e _; subst e
        simp only [Option.some.injEq, Prod.mk.injEq, decide_eq_true_eq] at h
        obtain ⟨rfl, _, hle⟩ := h
        exact hy.own_at hr hn hle
      · cases h
    · cases h
  | p u => exact absurd rfl (hp u)
  | _ => simp [elemsOf] at h
theorem SlAt.first {w : World} {F : Nat → Prop} {β : Beta} {k : Nat} {v : Value} {es : List V} (h : SlAt w F β k v es) (n : Nat) (hn : n ≤ es.length) : (Builtin.lenOf v).run P w = .ok es.length w ∧ ∃ cs : List Value, (Builtin.firstCells k n v).run P w = .ok cs.toArray w ∧ cs.length = n * k ∧
    (∀ i, i < n → okE k (nth (es.take n) i)) ∧ ∀ i j, i < n → j < k → VRep w F β (cs.getD (i * k + j) Go.undef) (nth (nth (es.take n) i).flat j) := by
  obtain ⟨a, cap, rfl, h⟩ := h
  refine ⟨rfl, ?_⟩
  have hl : (es.take n).length = n := by simp; omega
  have h2 : SlAt w F β k (.slice a n cap) (es.take n) := by
    refine ⟨a, cap, by rw [hl], ?_⟩
    rcases h with rfl | ⟨b, p, rfl, hk, hrow⟩
    · exact .inl (by simp)
    · refine .inr ⟨b, p, rfl, hk, ?_⟩
      have := hrow.sub 0 n (by omega)
      simpa using this
  obtain ⟨cs, g1, g2, g3, g4⟩ := h2.cells (P := P)
  rw [hl] at g1 g2 g3 g4
  refine ⟨cs, ?_, g2, g3, g4⟩
  have e : Builtin.firstCells k n (.slice a es.length cap) = Builtin.firstCells k n (.slice a n cap) := by cases a <;> rfl
  rw [e]; exact g1
def rawCpy (P : Program) (sz : Nat) (ops : Array Oper) (i : Nat) : Option (Option Nat × Nat × X × X) := match ops[i]? with
  | none => none
  | some o => match o.op, o.guard, dstOK sz o.dst with
    | .call c, none, true => match c.callee, c.args.toList, c.argTypes.toList with
      | .builtin .copy, [x, y], [t, _] => match elemInfo P t with
        | some (k, _, _) => some (o.dst, k, toX x, toX y)
        | none => none
      | _, _, _ => none
    | _, _, _ => none
theorem OpRun.cpy {ops : Array Oper} {i : Nat} {S : St} {σ : Sig} {d : Option Nat} {x y : X} {k nn off len : Nat} {es news : List V} {rd : List Nat} (hr : rawCpy P sz ops i = some (d, k, x, y)) (hx : xcond S.fr x = true) (hy : xcond S.fr y = true) (hv : tau (fget S.fr) x = .own nn off len)
    (ho : σ nn = some (.row k es)) (hs : elemsOf k σ (tau (fget S.fr) y) = some (news, rd, true)) (hp : ∀ u, tau (fget S.fr) y ≠ .p u) (hle : off + len ≤ es.length) :
    OpRun P ops i (fget S.fr) σ (fun _ => False) (.p (.int .i64 (Nat.min news.length len : Nat))) (upd σ nn (some (.row k (cpyL es off (news.take (Nat.min news.length len)))))) := by
  unfold rawCpy at hr
  split at hr
  · cases hr
  · rename_i o hoo
    split at hr
    · rename_i c hop hgd hd
      split at hr
      · rename_i x' y' t t2 hcal hargs htys
        split at hr
        · rename_i k' b' z' hel
          simp only [Option.some.injEq, Prod.mk.injEq] at hr
          obtain ⟨rfl, rfl, rfl, rfl⟩ := hr
          obtain ⟨e, inf, zv, e1, e2, e3, e4, e5, e6, e7, e8⟩ := elemInfo_spec hel
          intro w F β Av a Q Kk o' ho' hfr hrep _ hK
          rw [hoo] at ho'; cases ho'
          have hw := wanted_of (fr := fget S.fr) hfr (show guardV ops (fget S.fr) o.guard = some true by rw [hgd]; rfl)
          have look : ∀ z' : Operand, z' ∈ o.op.operands → xcond S.fr (toX z') = true → VRep w F β (a.eval z') (tau (fget S.fr) (toX z')) := by
            intro z' hz' hc'
            refine vrep_operand (fun t e => hfr t ?_) (by rw [← xcond_opnd]; exact hc')
            subst e
            exact List.mem_append_left _ (List.mem_filterMap.2 ⟨.tmp t, by simpa using hz', rfl⟩)
          have hxv := look x' (by simp [hop, Op.operands, Call.operands, arr2 hargs]) hx
          have hyv := look y' (by simp [hop, Op.operands, Call.operands, arr2 hargs]) hy
          rw [hv] at hxv
          have hsl := elems_at hrep hyv hs hp
          obtain ⟨nN, hnN⟩ : ∃ nN, nN = Nat.min news.length len := ⟨_, rfl⟩
          rw [← hnN] at hK
          have hn1 : nN ≤ news.length := by rw [hnN]; exact Nat.min_le_left _ _
          have hn2 : nN ≤ len := by rw [hnN]; exact Nat.min_le_right _ _
          obtain ⟨hlen, cs2, hc1, hc2, hc3, hc4⟩ := hsl.first (P := P) nN hn1
          have hyl : (news.take nN).length = nN := by simp; omega
          have hsize : ∀ w : World, (sizeOf e).run P w = .ok k' w := fun w => by simp [sizeOf, typeInfo, e2, e3]
          rcases hxv.own_inv with ⟨b, s, k3, sz2, cap, hbeta, hlc, hcap, had⟩ | ⟨hbeta, rfl, rfl, had⟩
          · obtain ⟨l, hl, hob, _⟩ := hrep.obj nn _ ho
            rw [hbeta] at hl; cases hl
            obtain ⟨rfl, cs, T, hcs, hsz, hk0, hfit, hflat, hc⟩ := hob
            have hap : s + off * k' + cs2.length ≤ cs.size := by
              rw [hc2, hsz]
              have h3 : (off + nN) * k' ≤ es.length * k' := Nat.mul_le_mul_right _ (by omega)
              rw [Nat.add_mul] at h3; omega
            have hone : ∀ v ∈ cs2, v.oneCell' = true := by
              intro v hv'
              obtain ⟨q, hq, rfl⟩ := List.getElem_of_mem hv'
              rw [hc2] at hq
              have hqk : q % k' < k' := Nat.mod_lt _ hk0
              have h9 : q / k' < nN := (Nat.div_lt_iff_lt_mul hk0).2 hq
              have h10 := hc4 (q / k') (q % k') h9 hqk
              have h11 : q / k' * k' + q % k' = q := by have := Nat.div_add_mod q k'; rw [Nat.mul_comm] at this; omega
              rw [h11] at h10
              have h12 : one (nth (nth (news.take nN) (q / k')).flat (q % k')) = true := by
                obtain ⟨h13, h14⟩ := hc3 _ h9
                exact h14 _ (nth_mem (by rw [h13]; exact hqk))
              have := oneCell_of_vrep h10 h12
              simpa [List.getD, List.getElem?_eq_getElem (show q < cs2.length by omega)] using this
            have hst := run_storeCells_at P b (s + off * k') T cs2 0 cs w hcs (by omega) hone
            have hspl : (cs.toList.take (s + off * k' + 0) ++ cs2 ++ cs.toList.drop (s + off * k' + 0 + cs2.length)).toArray = splice cs (s + off * k') cs2 := by simp [splice]
            rw [hspl] at hst
            have hle2 : off + (news.take nN).length ≤ es.length := by rw [hyl]; omega
            have hR := hrep.write_row ho hbeta hcs (splice cs (s + off * k') cs2) ((splice_size _ _ _ hap).trans hsz) (cpyL es off (news.take nN)) hk0 (by rw [cpyL_len hle2]; exact hfit)
              (fun q hq => by
                rw [cpyL_len hle2] at hq
                rw [cpyL_nth hle2, hyl]
                by_cases h1 : q < off
                · rw [if_pos h1]; exact hflat q hq
                · rw [if_neg h1]
                  by_cases h2 : q < off + nN
                  · rw [if_pos h2]
                    exact hc3 _ (by omega)
                  · rw [if_neg h2]; exact hflat q hq)
              (fun q j hq hj => by
                rw [cpyL_len hle2] at hq
                rw [splice_getD _ _ _ hap, cpyL_nth hle2, hyl, hc2]
                by_cases h1 : q < off
                · have : (q + 1) * k' ≤ off * k' := Nat.mul_le_mul_right _ h1
                  rw [Nat.succ_mul] at this
                  rw [if_pos (by omega), if_pos h1]; exact hc q j hq hj
                · have h3 : off * k' ≤ q * k' := Nat.mul_le_mul_right _ (by omega)
                  rw [if_neg (by omega), if_neg h1]
                  by_cases h2 : q < off + nN
                  · have h4 : (q - off + 1) * k' ≤ nN * k' := Nat.mul_le_mul_right _ (by omega)
                    rw [Nat.succ_mul] at h4
                    have h5 : (q - off) * k' + off * k' = q * k' := by rw [← Nat.add_mul]; congr 1; omega
                    rw [if_pos (by omega), if_pos h2, show s + q * k' + j - (s + off * k') = (q - off) * k' + j by omega]
                    exact hc4 (q - off) j (by omega) hj
                  · have h4 : (off + nN) * k' ≤ q * k' := Nat.mul_le_mul_right _ (by omega)
                    rw [Nat.add_mul] at h4
                    rw [if_neg (by omega), if_neg h2]; exact hc q j hq hj)
            unfold wpOp
            simp only [hoo, hw, if_true]
            left
            have hrun : (execOp a.eval o).run P w = .ok (.value (goInt nN)) (w.setRow b (splice cs (s + off * k') cs2)) := by
              refine exec_builtin (f := Builtin.copy_) hop hcal (fun _ _ _ _ => rfl) ?_
              rw [arr2 hargs, arr2 htys, map2, had]
              simp only [Builtin.copy_]
              simp [run_underlying e1, hlen, hsize, ← hnN, hc1, hst]
            unfold Oper.wp
            rw [hrun]
            exact hK _ _ F β (hR.1.av_mono fun n hn => hn.1) (.fr (.p rfl)) hR.2
          · have hn0 : nN = 0 := by omega
            have hset : upd σ nn (some (.row k' (cpyL es 0 (news.take nN)))) = σ := by
              rw [hn0, List.take_zero]
              have e0 : cpyL es 0 [] = es := by simp [cpyL]
              rw [e0]
              funext q
              unfold upd
              split
              · rename_i hq; subst hq; exact ho.symm
              · rfl
            rw [hset] at hK
            obtain ⟨ad, had⟩ := had
            have hcs0 : cs2 = [] := by
              have : cs2.length = 0 := by rw [hc2, hn0]; simp
              exact List.eq_nil_of_length_eq_zero this
            unfold wpOp
            simp only [hoo, hw, if_true]
            left
            have hrun : (execOp a.eval o).run P w = .ok (.value (goInt nN)) w := by
              refine exec_builtin (f := Builtin.copy_) hop hcal (fun _ _ _ _ => rfl) ?_
              rw [arr2 hargs, arr2 htys, map2, had]
              simp only [Builtin.copy_]
              rw [hcs0, hn0] at hc1
              rw [hn0]
              have hm : Nat.min news.length 0 = 0 := Nat.min_zero _
              cases ad <;> simp [run_underlying e1, hlen, hsize, hm, hc1, storeCells]
            unfold Oper.wp
            rw [hrun]
            exact hK _ w F β (hrep.av_mono fun n hn => hn.1) (.fr (.p rfl)) (Evolve.refl _ _ _ _)
        · cases hr
      · cases hr
    · cases hr
theorem rawCpy_some {ops : Array Oper} {i : Nat} {r : Option Nat × Nat × X × X} (hr : rawCpy P sz ops i = some r) : ∃ o, ops[i]? = some o ∧ dstOK sz o.dst = true ∧ o.dst = r.1 := by
  unfold rawCpy at hr
  split at hr
  · cases hr
  · rename_i o hoo
    split at hr
    · rename_i c hop hgd hd
      split at hr
      · split at hr
        · cases hr; exact ⟨o, hoo, hd, rfl⟩
        · cases hr
      · cases hr
    · cases hr
theorem RegJ.cpy {ops : Array Oper} {i : Nat} {S : St} {K : St → Prop} {d : Option Nat} {x y : X} {k nn off len : Nat} {es news : List V} {rd : List Nat} (hr : rawCpy P sz ops i = some (d, k, x, y)) (hx : xcond S.fr x = true) (hy : xcond S.fr y = true) (hv : tau (fget S.fr) x = .own nn off len)
    (ho : oget S.ob nn = some (.row k es)) (hs : elemsOf k (oget S.ob) (tau (fget S.fr) y) = some (news, rd, true)) (hp : ∀ u, tau (fget S.fr) y ≠ .p u) (hle : off + len ≤ es.length)
    (kk : RegJ P sz df m ops (i + 1) ⟨fputc S.fr d (.p (.int .i64 (Nat.min news.length len : Nat))), S.ob.set nn (some (.row k (cpyL es off (news.take (Nat.min news.length len)))))⟩ K) : RegJ P sz df m ops i S K := by
  have hlt : nn < S.ob.length := oget_some (by rw [ho]; simp)
  obtain ⟨o, hoo, hd, hdd⟩ := rawCpy_some hr
  have hdd : o.dst = d := hdd
  subst hdd
  refine RegJ.oprun0 hoo (dstOK_lt hd) ?_ (by simp) kk
  intro w F β a Q Kk o' ho' hfr hrep hK
  refine OpRun.cpy hr hx hy hv ho hs hp hle w F β _ a Q Kk o' ho' hfr hrep (fun n hn => hn.elim) fun v w' F' β' h1 h2 h3 => ?_
  rw [← oget_set_upd _ hlt] at h1 h3
  exact hK v w' F' β' (by rw [List.length_set]; exact h1.av_mono fun n hn => ⟨hn, id⟩) h2 h3
theorem elems_local {k : Nat} {σ σ' : Nat → Option AObj} {v : V} {news : List V} {rd : List Nat} {b : Bool} (h : elemsOf k σ v = some (news, rd, b)) (he : ∀ n ∈ rd, σ' n = σ n) : elemsOf k σ' v = some (news, rd, b) := by
  cases v with
  | own n off len =>
    simp only [elemsOf] at h ⊢
    split at h
    · rename_i k' es hn
      split at h
      · rename_i e hdec; subst e
        simp only [Option.some.injEq, Prod.mk.injEq] at h
        obtain ⟨rfl, rfl, rfl⟩ := h
        rw [he n (by simp), hn]
        simp only [hdec]
      · cases h
    · cases h
  | p u =>
    cases u with
    | string s => simpa [elemsOf] using h
    | _ => simp [elemsOf] at h
  | emp => exact h
  | sl k' es => exact h
  | _ => simp [elemsOf] at h
theorem OpD.cpy {ops : Array Oper} {i : Nat} {S : St} {d : Option Nat} {x y : X} {k nn off len : Nat} {es news : List V} {rd : List Nat} {xo : Iox} (hr : rawCpy P sz ops i = some (d, k, x, y)) (hco : compAt P sz ops i = some xo) (hxd : xo.dst = d) (hx : xcond S.fr x = true) (hy : xcond S.fr y = true) (hv : tau (fget S.fr) x = .own nn off len)
    (ho : oget S.ob nn = some (.row k es)) (hs : elemsOf k (oget S.ob) (tau (fget S.fr) y) = some (news, rd, true)) (hp : ∀ u, tau (fget S.fr) y ≠ .p u) (hle : off + len ≤ es.length) :
    OpD P sz ops i S d (.p (.int .i64 (Nat.min news.length len : Nat))) rd [nn] (S.ob.set nn (some (.row k (cpyL es off (news.take (Nat.min news.length len))))) ++ [none]) := by
  have hlt : nn < S.ob.length := oget_some (by rw [ho]; simp)
  refine ⟨xo, hco, hxd, by simp, fun n hn => ?_, fun σ h1 h2 => ?_⟩
  · have : n ≠ nn := by rintro rfl; simp at hn
    rw [oget_none_append, oget_set _ _ _ _ hlt, if_neg this]
  · have := OpRun.pad (U := fun n => S.ob.length ≤ n ∧ n < (S.ob.set nn (some (.row k (cpyL es off (news.take (Nat.min news.length len))))) ++ [none]).length) (OpRun.cpy (σ := σ) hr hx hy hv (by rw [h2 nn (by simp), ho]) (elems_local hs h1) hp hle)
    have e : (fun n => if ([nn] : List Nat).contains n = true then oget (S.ob.set nn (some (.row k (cpyL es off (news.take (Nat.min news.length len))))) ++ [none]) n else σ n) = upd σ nn (some (.row k (cpyL es off (news.take (Nat.min news.length len))))) := by
      funext n
      by_cases hn : n = nn
      · subst hn
        rw [oget_none_append, oget_set _ _ _ _ hlt]
        simp [upd]
      · simp [upd, hn]
    rw [e]
    exact this
def cpyP {α : Type} (l : List α) (off : Nat) (x : List α) : List α := l.take off ++ x ++ l.drop (off + x.length)
theorem cpyP_map {α : Type} (e : α → V) (l : List α) (off : Nat) (x : List α) : cpyL (List.map e l) off (List.map e x) = List.map e (cpyP l off x) := by
  simp [cpyL, cpyP]
theorem els_fr2 {α : Type} {k : Nat} {σ : Nat → Option AObj} {e : α → V} {l : List α} {v : V} (h : v = eS k e l) : elemsOf k σ v = some (List.map e l, [], true) := by
  subst h
  simp only [eS]
  cases l <;> simp [elemsOf]
  all_goals first | rfl | (cases Nat.decEq k k with | isTrue _ => rfl | isFalse h => exact absurd rfl h)
theorem els_ow2 {α : Type} {k n off len : Nat} {ob : Objs} {e : α → V} {l : List α} {v : V} (h : v = .own n off len) (ho : oget ob n = some (.row k (List.map e l))) (hl : decide (off + len ≤ l.length) = true) : elemsOf k (oget ob) v = some (List.map e ((l.drop off).take len), [n], true) := by
  subst h
  simp only [elemsOf, ho]
  cases Nat.decEq k k with
  | isTrue _ => simp [of_decide_eq_true hl]
  | isFalse h => exact absurd rfl h
theorem RegJ.cpyM {α : Type} {e : α → V} {l l2 : List α} {ops : Array Oper} {i : Nat} {S : St} {K : St → Prop} {d : Option Nat} {x y : X} {k nn off len : Nat} {rd : List Nat} (hr : rawCpy P sz ops i = some (d, k, x, y)) (hx : xcond S.fr x = true) (hy : xcond S.fr y = true) (hv : tau (fget S.fr) x = .own nn off len)
    (ho : oget S.ob nn = some (.row k (List.map e l))) (hs : elemsOf k (oget S.ob) (tau (fget S.fr) y) = some (List.map e l2, rd, true)) (hp : ∀ u, tau (fget S.fr) y ≠ .p u) (hle : decide (off + len ≤ l.length) = true)
    (kk : RegJ P sz df m ops (i + 1) ⟨fputc S.fr d (vi (Nat.min l2.length len : Nat)), S.ob.set nn (some (.row k (List.map e (cpyP l off (l2.take (Nat.min l2.length len))))))⟩ K) : RegJ P sz df m ops i S K := by
  refine RegJ.cpy hr hx hy hv ho hs hp (by simpa using of_decide_eq_true hle) ?_
  rw [← List.map_take, cpyP_map, List.length_map]
  exact kk
theorem OpD.cpyM {α : Type} {e : α → V} {l l2 : List α} {ops : Array Oper} {i : Nat} {S : St} {d : Option Nat} {x y : X} {k nn off len : Nat} {rd : List Nat} {xo : Iox} (hr : rawCpy P sz ops i = some (d, k, x, y)) (hco : compAt P sz ops i = some xo) (hxd : xo.dst = d) (hx : xcond S.fr x = true) (hy : xcond S.fr y = true) (hv : tau (fget S.fr) x = .own nn off len)
    (ho : oget S.ob nn = some (.row k (List.map e l))) (hs : elemsOf k (oget S.ob) (tau (fget S.fr) y) = some (List.map e l2, rd, true)) (hp : ∀ u, tau (fget S.fr) y ≠ .p u) (hle : decide (off + len ≤ l.length) = true) :
    OpD P sz ops i S d (vi (Nat.min l2.length len : Nat)) rd [nn] (S.ob.set nn (some (.row k (List.map e (cpyP l off (l2.take (Nat.min l2.length len)))))) ++ [none]) := by
  have := OpD.cpy hr hco hxd hx hy hv ho hs hp (by simpa using of_decide_eq_true hle)
  rw [← List.map_take, cpyP_map, List.length_map] at this
  exact this
end
section
open Go
section
variable {α β : Type} {ek : α → V} {ev : β → V}
def eM (ek : α → V) (ev : β → V) (l : List (α × β)) : V := .fmap (l.map fun p => ek p.1) (l.map fun p => ev p.2)
theorem eM_frz (ek : α → V) (ev : β → V) (l : List (α × β)) : (eM ek ev l).frz = true := rfl
theorem eM_zip (l : List (α × β)) : (l.map fun p => ek p.1).zip (l.map fun p => ev p.2) = mpE ek ev l := by
  unfold mpE; rw [List.zip_map']
theorem keyab_dec {a b c d : Str} {p : Prop} [Decidable p] (h : p ↔ a = c ∧ b = d) : decide p = ((a == c) && (b == d)) := by
  rw [Bool.eq_iff_iff]
  simp [h]
structure KeyAB {α : Type} [BEq α] (ek : α → V) (a b : α → Str) : Prop where
  enc : ∀ x, ek x = .agg [vt (a x), vt (b x)]
  eq : ∀ x y, (x == y) = ((a x == a y) && (b x == b y))
variable [BEq α] {a b : α → Str}
theorem strs2_k (h : KeyAB ek a b) (x : α) : strs2 (ek x) = some (⟨⟨a x⟩⟩, ⟨⟨b x⟩⟩) := by rw [h.enc]; rfl
theorem akeyEq_k (h : KeyAB ek a b) (k x : α) : akeyEq (⟨⟨a k⟩⟩, ⟨⟨b k⟩⟩) (ek x) = some (k == x) := by
  unfold akeyEq
  rw [strs2_k h, h.eq]
  rfl
theorem amfind_a (h : KeyAB ek a b) (k : α) : ∀ l : List (α × β), amfind (⟨⟨a k⟩⟩, ⟨⟨b k⟩⟩) (mpE ek ev l) = some ((List.lookup k l).map ev)
  | [] => rfl
  | (x, u) :: r => by
    have ih := amfind_a h k r
    simp only [mpE, List.map_cons] at ih ⊢
    simp only [amfind, akeyEq_k h, List.lookup]
    cases hh : (k == x) with
    | true => simp
    | false => simpa using ih
theorem amset_a (h : KeyAB ek a b) (k : α) (v : β) : ∀ l : List (α × β), amset (ek k) (⟨⟨a k⟩⟩, ⟨⟨b k⟩⟩) (ev v) (mpE ek ev l) = some (mpE ek ev (mPut k v l))
  | [] => rfl
  | (x, u) :: r => by
    have ih := amset_a h k v r
    simp only [mpE, List.map_cons] at ih ⊢
    simp only [amset, akeyEq_k h, mPut]
    cases hh : (k == x) with
    | true => simp
    | false => simp [ih]
variable {τ : X → V} {g : Nat → Option AObj} {nn : Nat} {x y z : X} {n : Nat} {l : List (α × β)} {k : α} {zv : V} {z0 : β}
theorem ok_lk2_o (h : KeyAB ek a b) (hx : τ x = .map n) (hg : g n = some (.mp (mpE ek ev l))) (hy : τ y = ek k) (hz : zv = ev z0) :
    Ok (.lookup2 zv true x y) τ g nn (.tup [ev ((List.lookup k l).getD z0), vb (List.lookup k l).isSome]) [n] := by
  simp only [Ok, isem, hx, hg, hy, strs2_k h, amfind_a h, hz]
  cases List.lookup k l <;> rfl
theorem ok_lk2_f (h : KeyAB ek a b) (hx : τ x = eM ek ev l) (hy : τ y = ek k) (hz : zv = ev z0) :
    Ok (.lookup2 zv true x y) τ g nn (.tup [ev ((List.lookup k l).getD z0), vb (List.lookup k l).isSome]) [] := by
  simp only [Ok, isem, hx, eM, hy, strs2_k h, eM_zip, amfind_a h, hz]
  cases List.lookup k l <;> rfl
theorem ok_mset_a {v : β} (h : KeyAB ek a b) (hx : τ x = .map n) (hg : g n = some (.mp (mpE ek ev l))) (hy : τ y = ek k) (hz : τ z = ev v) :
    isem (.mapset2 x y z) τ g nn = some ⟨.undef, .set n (.mp (mpE ek ev (mPut k v l))), true, [n]⟩ := by
  simp only [isem, hx, hg, hy, strs2_k h, hz, amset_a h]
end
section
variable {β : Type} {ev : β → V} {τ : X → V} {g : Nat → Option AObj} {nn : Nat} {x y z : X} {n : Nat} {l : List (Int × β)} {k : Int} {zv : V} {z0 : β}
theorem ok_lkS_i (hx : τ x = .map n) (hg : g n = some (.mp (mpE vi ev l))) (hy : τ y = vi k) (hs : (List.lookup k l).isSome = true) :
    Ok (.lookup false zv true x y) τ g nn (.tup [ev ((List.lookup k l).getD z0), vb true]) [n] := by
  simp only [Ok, isem, hx, hg, hy, keyFits, mfind_i]
  revert hs
  cases List.lookup k l <;> intro hs
  · cases hs
  · rfl
theorem ok_lkN_i (hx : τ x = .map n) (hg : g n = some (.mp (mpE vi ev l))) (hy : τ y = vi k) (hs : (List.lookup k l).isSome = false) :
    Ok (.lookup false zv true x y) τ g nn (.tup [zv, vb false]) [n] := by
  simp only [Ok, isem, hx, hg, hy, keyFits, mfind_i]
  revert hs
  cases List.lookup k l <;> intro hs
  · rfl
  · cases hs
end
variable {m : Nat}
theorem Sees.frzMap {α β : Type} {ek : α → V} {ev : β → V} {l : List (α × β)} {S : St} (n : Nat) {fr' : Fr} {ob' : Objs} (hn : oget S.ob n = some (.mp (mpE ek ev l))) (hk : ∀ x, (ek x).frz = true) (he : ∀ x, (ev x).frz = true)
    (hf : FrFrzM n (l.map fun p => ek p.1) (l.map fun p => ev p.2) S.fr fr') (ho : S.ob.set n none = ob') : Sees m S ⟨fr', ob'⟩ := by
  refine Sees.freezeM n hn (fun e h => ?_) (fun t => ?_) ho
  · simp only [mpE, List.mem_map] at h
    obtain ⟨p, _, rfl⟩ := h
    exact ⟨hk _, he _⟩
  · have e1 : (mpE ek ev l).map Prod.fst = l.map fun p => ek p.1 := by simp [mpE, Function.comp_def]
    have e2 : (mpE ek ev l).map Prod.snd = l.map fun p => ev p.2 := by simp [mpE, Function.comp_def]
    rw [e1, e2]
    exact hf.get t
end
section
open Go Go.Sort Go.Proofs
theorem Rep.wider {w w' : World} {F : Nat → Prop} {β : Beta} {σ : Sig} {Av : Nat → Prop} (hr : Rep w F β σ Av) (h1 : w'.os = w.os) (h2 : w'.tape = w.tape) (h3 : w'.output = w.output) (h4 : w.heap.size ≤ w'.heap.size) (h5 : ∀ b, b < w.heap.size → w'.heap[b]? = w.heap[b]?) :
    Rep w' F β σ Av ∧ Evolve w F β σ w' F β σ := by
  refine ⟨⟨fun b hb => Nat.lt_of_lt_of_le (hr.falloc b hb) h4, hr.dom, fun n o h => ?_, hr.sep⟩, ⟨h1, h2, h3, h4, fun _ _ h => h, fun _ h => h, fun b hb _ => h5 b hb, fun _ _ h => .inl h, fun _ _ h => h⟩⟩
  obtain ⟨l, g1, g2, g3⟩ := hr.obj n o h
  exact ⟨l, g1, ORep.mono (fun _ h => h) (fun b hb => h5 b (hr.falloc b hb)) (fun _ _ h => h) (fun b hb => h5 b (g3 b hb).2) g2, fun b hb => ⟨(g3 b hb).1, Nat.lt_of_lt_of_le (g3 b hb).2 h4⟩⟩
end
end Go.Proofs.Ytpmkdgnhllhaeaa.As
