/- Rules for the program's operations over plain values, part 1: no condition. -/
import Derived.Below
import Derived.Carry
import Derived.ChangeKeysEq
import Derived.KernelRfl
import Derived.Laws.BytesString
import Derived.Laws.StructEq
import Derived.Lib.AtoiAll
import Derived.Lib.AtoiAllCases
import Derived.Lib.AtoiTie
import Derived.Lib.ConvBytes
import Derived.Lib.ItoaLen
import Derived.Lib.ItoaNum
import Derived.Lib.Join
import Derived.Lib.SplitLaws
import Derived.LoopN
import Derived.Maps.RangeRun
import Derived.OpenShut
import Derived.OrdersIn
import Derived.ProofKit
import Derived.RangeFuncLeaves
import Derived.RangeFuncRecord
import Derived.RangeFuncSeq
import Derived.Scope
import Derived.Sort.EncStr
import Derived.Sort.Grow
import Derived.WalkKit
import Derived.WideKeyRuns
namespace Go.Proofs.YtchkkpbkgghcoaaGreatDoor.As
open Go
section
open Go
def Rnd (ro : Option Nat) : Fence := { Fence.wide with round := ro }
@[simp] theorem Rnd_round (ro : Option Nat) : (Rnd ro).round = ro := rfl
def NoOut (Q : Exit → Act → World → Prop) : Exit → Act → World → Prop := fun e a w => match e with
  | .outgrown => False
  | e => Q e a w
theorem NoOut.mono {Q Q' : Exit → Act → World → Prop} (h : ∀ e a w, Q e a w → Q' e a w) {e : Exit} {a : Act} {w : World} (g : NoOut Q e a w) : NoOut Q' e a w := by
  cases e <;> first | exact g.elim | exact h _ _ _ g
theorem NoOut.out {Q : Exit → Act → World → Prop} {e : Exit} {a : Act} {w : World} (g : NoOut Q e a w) : Q e a w := by
  cases e <;> first | exact g.elim | exact g
theorem NoOut.no {Q : Exit → Act → World → Prop} : ¬ LetsOut (NoOut Q) := fun ⟨_, _, h⟩ => h
def wpR (P : Program) (ro : Option Nat) (c : Code) (Q : Exit → Act → World → Prop) (a : Act) (w : World) : Prop := c.wpIn (Rnd ro) 0 P (NoOut Q) a w
def noDefer (o : Op) : Bool := match o with
  | .defer _ => false
  | _ => true
def noDefers (ops : Array Oper) : Bool := ops.all fun o => noDefer o.op
theorem noDefers_at {ops : Array Oper} (h : noDefers ops = true) {i : Nat} {o : Oper} (ho : ops[i]? = some o) : ∀ c, o.op ≠ .defer c := by
  intro c e
  have hm : o ∈ ops := Array.mem_of_getElem? ho
  have := (Array.all_eq_true_iff_forall_mem.1 h) o hm
  rw [e] at this
  cases this
section
variable {P : Program} {ro : Option Nat} {Q Q' : Exit → Act → World → Prop} {a : Act} {w : World}
theorem wpR_mono {c : Code} (hq : ∀ e a w, Q e a w → Q' e a w) (h : wpR P ro c Q a w) : wpR P ro c Q' a w := wpIn_mono h fun _ _ _ g => g.mono hq
theorem wpR_skip (h : Q .normal a w) : wpR P ro .skip Q a w := wpIn_skip h
theorem wpR_label {l : Nat} (h : Q .normal a w) : wpR P ro (.label l) Q a w := wpIn_label h
theorem wpR_exit {id : Nat} (h : Q (.exit id) a w) : wpR P ro (.exit id) Q a w := wpIn_exit h
theorem wpR_ret (h : Q .ret a w) : wpR P ro .ret Q a w := wpIn_ret h
theorem wpR_seq {x y : Code} (h : wpR P ro x (Exit.then (wpR P ro y Q) Q) a w) : wpR P ro (.seq x y) Q a w :=
  wpIn_seq (wpIn_mono h fun e a w g => by cases e <;> first | exact g.elim | exact g)
theorem wpR_cond_split {c : Operand} {x y : Code} {t : Bool} (hc : a.eval c = .bool t) (ht : t = true → wpR P ro x Q a w) (hf : t = false → wpR P ro y Q a w) : wpR P ro (.cond c x y) Q a w := wpIn_cond_split hc ht hf
theorem wpR_block {id : Nat} {c : Code} (h : wpR P ro c (Exit.inBlock id Q) a w) : wpR P ro (.block id c) Q a w :=
  wpIn_block (wpIn_mono h fun e a w g => by
    cases e with
    | exit id' =>
      have g' : Exit.inBlock id Q (.exit id') a w := g
      simp only [Exit.inBlock] at g' ⊢
      split
      · rename_i h; rw [if_pos h] at g'; exact g'
      · rename_i h; rw [if_neg h] at g'; exact g'
    | outgrown => exact g.elim
    | _ => exact g)
theorem wpR_loop {c : Code} (I : Act → World → Prop) (μ : Act → World → Nat) (h₀ : I a w)
    (round : ∀ a w, I a w → wpR P ro c (Exit.then (fun a' w' => I a' w' ∧ μ a' w' < μ a w) Q) a w) : wpR P ro (.loop c) Q a w :=
  wpIn_loop I μ h₀ fun a w hI => wpIn_mono (round a w hI) fun e a w g => by cases e <;> first | exact g.elim | exact g
theorem stepR_scope {b : Frame} {k : List Item} {cs : List Frame} {c : Code} : step P (lone (b.atR a (.code (.scope c) :: k)) cs w) = .next (lone (b.atR a (.code c :: .inScope c :: k)) cs w) :=
  step_lone_go (by simp [stepG, stepG.exec, Frame.atR])
theorem stepR_inScope {b : Frame} {k : List Item} {cs : List Frame} {c : Code} : step P (lone (b.atR a (.inScope c :: k)) cs w) = .next (lone (b.atR a k) cs w) :=
  step_lone_go (by simp [stepG, stepG.exec, Frame.atR])
theorem wpR_scope_straight {c : Code} (h : wpR P ro c (Exit.noGoto Q) a w) : wpR P ro (.scope c) Q a w := by
  intro b k cs hro hb hr
  have h0 : (lone (b.atR a (.code (.scope c) :: k)) cs w).fenced P (Rnd ro) := fenced_calm hb hr rfl
  obtain ⟨e, a₁, w₁, hq, harr⟩ := h b (.inScope c :: k) cs hro hb hr
  cases e with
  | normal => exact ⟨.normal, a₁, w₁, hq, .head h0 stepR_scope (StepsIn.trans harr (.one (fenced_calm hb hr rfl) stepR_inScope))⟩
  | exit id => exact ⟨.exit id, a₁, w₁, hq, fun k' hk => .head h0 stepR_scope (harr.1 k' (by simp [exitTo, hk])), fun hr' hk => let ⟨k₁, h1, h2⟩ := harr.2 hr' (by simp [exitTo, hk]); ⟨k₁, h1, .head h0 stepR_scope h2⟩⟩
  | goto l => exact hq.elim
  | ret => exact ⟨.ret, a₁, w₁, hq, .of_steps (.one h0 stepR_scope) (show ArrivesIn _ _ _ _ k _ .ret _ _ from harr)⟩
  | panic ch => exact ⟨.panic ch, a₁, w₁, hq, .of_steps (.one h0 stepR_scope) (show ArrivesIn _ _ _ _ k _ (.panic ch) _ _ from harr)⟩
  | outgrown => exact hq.elim
theorem callsIn_rnd {n : Nat} {f : FuncId} {args : Array Value} {R : Ending → World → Prop} (h : Calls P f args w R) : CallsIn (Rnd ro) n P f args w R := (callsIn_wide (n := n)).2 h
theorem rowsIn_rnd {n : Nat} {row : String} {args : Array Value} {R : Value → World → Prop} (h : Rows P row args w R) : RowsIn (Rnd ro) n P row args w R :=
  fun c cs _ => let ⟨v, w', r, s⟩ := h c cs; ⟨v, w', r, (stepsIn_wide (P := P)).2 s⟩
theorem operR {o : Oper} {K : Act → World → Prop} (hd : ∀ c, o.op ≠ .defer c) (h : o.wp P a w K Q) : o.wpIn (Rnd ro) 0 P a w K Q := by
  refine ⟨fun _ _ => trivial, ?_⟩
  unfold Oper.wp at h
  rw [show (o.semAt (Rnd ro).round a.eval) = execOp a.eval o from Oper.semAt_eq ro a.eval o hd]
  generalize (execOp a.eval o).run P w = r at *
  cases r with
  | ok x w' =>
    cases x <;> simp only [Oper.upon, Oper.uponIn] at h ⊢ <;>
      first
        | exact h
        | refine ⟨fun hh => by simp [Rnd, Fence.wide] at hh, (callsIn_rnd h).mono fun e w he => by cases e <;> exact he⟩
        | refine ⟨fun hh => by simp [Rnd, Fence.wide] at hh, rowsIn_rnd h⟩
        | exact False.elim h
  | halt x w' => cases x <;> simp only [Oper.upon, Oper.uponIn] at h ⊢ <;> exact h
theorem wpOpR {ops : Array Oper} {i : Nat} {K : Act → World → Prop} (hd : noDefers ops = true) (hno : ¬ LetsOut Q) (h : wpOp P ops Q i K a w) : wpOpIn (Rnd ro) 0 P ops Q i K a w := by
  unfold wpOp at h
  unfold wpOpIn
  split
  · rename_i ho; rw [ho] at h; exact h
  · rename_i o ho
    rw [ho] at h
    simp only at h
    split
    · rename_i hw
      simp only [hw, if_true] at h
      rcases h with h | h
      · exact operR (noDefers_at hd ho) h
      · exact absurd h.2 hno
    · rename_i hw
      simp only [hw] at h
      exact ⟨fun _ _ => trivial, h⟩
theorem wpOpsR {ops : Array Oper} (hd : noDefers ops = true) (hno : ¬ LetsOut Q) : ∀ (l : List Nat) (a : Act) (w : World), wpOps P ops Q l a w → wpOpsIn (Rnd ro) 0 P ops Q l a w := by
  intro l
  induction l with
  | nil => intro a w h; exact h
  | cons i rest ih =>
    intro a w h
    rw [wpOps_cons] at h
    rw [wpOpsIn_cons]
    exact wpOpR hd hno (wpOp_mono ih h)
theorem wpAnyR {ops : Array Oper} {md : Region.Mode} (hd : noDefers ops = true) (hno : ¬ LetsOut Q) : ∀ (fuel : Nat) (listed : Array Bool) (a : Act) (w : World), wpAny P md ops Q fuel listed a w → wpAnyIn (Rnd ro) 0 P md ops Q fuel listed a w := by
  intro fuel
  induction fuel with
  | zero => intro listed a w h; exact h
  | succ n ih => intro listed a w h; exact ⟨h.1, fun i hi => wpOpR hd hno (wpOp_mono (ih _) (h.2 i hi))⟩
theorem wpR_region {id : Nat} {ops : Array Oper} (hd : noDefers ops = true) (h : wpOps P ops (NoOut Q) (List.range ops.size) a w) : wpR P ro (.region id ops false) Q a w := wpIn_region (wpOpsR hd NoOut.no _ _ _ h)
theorem wpR_region_any {id : Nat} {ops : Array Oper} (hd : noDefers ops = true) (hm : P.follows .mixedOrders = true) (h : wpAny P .any ops (NoOut Q) ops.size (Array.replicate ops.size false) a { w with drawn := w.drawn + 1 }) : wpR P ro (.region id ops true) Q a w :=
  wpIn_region_any hm (wpAnyR hd NoOut.no _ _ _ _ h)
def roundsR (P : Program) (ro : Option Nat) (c : Code) (Q : Exit → Act → World → Prop) : Nat → Act → World → Prop
  | 0, _, _ => False
  | n + 1, a, w => wpR P ro c (fun e a' w' => match e with | .normal => roundsR P ro c Q n a' w' | e => Q e a' w') a w
end
theorem roundsR_succ {P : Program} {ro : Option Nat} {c : Code} {Q : Exit → Act → World → Prop} {n : Nat} {a : Act} {w : World} : roundsR P ro c Q (n + 1) a w = wpR P ro c (fun e a' w' => match e with | .normal => roundsR P ro c Q n a' w' | e => Q e a' w') a w := rfl
structure Rd where
  ro : Option Nat
  n0 : Nat
def Marks (n0 : Nat) (w : World) (F : Nat → Prop) (ds : List Deferred) : Prop := (n0 ≤ w.heap.size ∧ ds.Nodup) ∧ ∀ d ∈ ds, ∃ D, d = { target := .collected D, args := #[] } ∧ n0 ≤ D ∧ F D ∧ w.heap[D]? = some (.deferred (some []))
theorem Marks.mono {n0 : Nat} {w w' : World} {F F' : Nat → Prop} {ds : List Deferred} (h : Marks n0 w F ds) (hF : ∀ b, F b → F' b) (hw : ∀ b, F b → w'.heap[b]? = w.heap[b]?) (hz : w.heap.size ≤ w'.heap.size) : Marks n0 w' F' ds := ⟨⟨Nat.le_trans h.1.1 hz, h.1.2⟩, fun d hd => by
  obtain ⟨D, h1, h0, h2, h3⟩ := h.2 d hd
  exact ⟨D, h1, h0, hF _ h2, (hw _ h2).trans h3⟩⟩
theorem Marks.nil {n0 : Nat} {w : World} {F : Nat → Prop} (h : n0 ≤ w.heap.size) : Marks n0 w F [] := ⟨⟨h, List.nodup_nil⟩, fun _ h => by cases h⟩
end
section
open Go
inductive V where
  | p (v : Value)
  | emp
  | sl (k : Nat) (es : List V)
  | own (n off len : Nat)
  | ptr (n i off : Nat)
  | fptr (k : Nat) (es : List V) (i off : Nat)
  | agg (cs : List V)
  | tup (vs : List V)
  | fn (f : Fn) (fst cap : List V)
  | iface (t : TypeId) (v : V)
  | map (n : Nat)
  | itp (n : Nat)
  | fmap (ks vs : List V)
  | cond (b : Bool) (x : V)
  | undef
  deriving Inhabited
end
section
open Go
def globV : Nat → V
  | _ => .undef
def globC : List (Nat × (Array Value → Prop)) := [(2, fun cs => cs = ((List.range 20).map fun i => Value.int .u64 ((10 ^ i : Nat) : Int)).toArray), (1, fun cs => ∃ m, cs[0]? = some (.int .i64 m)),
  (3, fun cs => ∃ ev, cs[0]? = some ev ∧ (ev = .nilIface ∨ ∃ te pe, ev = .iface te pe)), (4, fun cs => ∃ ev, cs[0]? = some ev ∧ (ev = .nilIface ∨ ∃ te pe, ev = .iface te pe))]
end
section
open Go
def V.flat : V → List V
  | .agg cs => cs
  | x => [x]
def one : V → Bool
  | .agg _ | .tup _ | .cond _ _ | .undef => false
  | _ => true
def okE (k : Nat) (x : V) : Prop := x.flat.length = k ∧ ∀ c ∈ x.flat, one c = true
def nth (l : List V) (i : Nat) : V := l.getD i .undef
@[simp] theorem nth_zero (x : V) (l : List V) : nth (x :: l) 0 = x := rfl
@[simp] theorem nth_succ (x : V) (l : List V) (i : Nat) : nth (x :: l) (i + 1) = nth l i := rfl
def pl : Value → Bool
  | .bool _ | .int _ _ | .float _ _ | .complex _ _ _ | .string _ | .pointer none | .map none | .chan none | .nilFunc | .nilIface => true
  | _ => false
def Born (es : Array MapEntry) (clock : Nat) : Prop := (∀ x ∈ es.toList, x.born < clock) ∧ (es.toList.map (·.born)).Nodup
inductive FRep (w : World) (F : Nat → Prop) : Value → V → Prop
  | p {v : Value} (h : pl v = true) : FRep w F v (.p v)
  | emp {a : Option Addr} : FRep w F (.slice a 0 0) .emp
  | sl0 {a : Option Addr} {cap k : Nat} : FRep w F (.slice a 0 cap) (.sl k [])
  | sl {b off cap k : Nat} {es : List V} (us : Nat → Nat → Value) (hne : 0 < es.length) (hcap : es.length ≤ cap) (hF : F b) (hk : 0 < k)
      (hflat : ∀ i, i < es.length → okE k (nth es i))
      (hcell : ∀ i j, i < es.length → j < k → w.cell? ⟨b, off + i * k + j, none⟩ = some (us i j))
      (hrep : ∀ i j, i < es.length → j < k → FRep w F (us i j) (nth (nth es i).flat j)) :
      FRep w F (.slice (some ⟨b, off, none⟩) es.length cap) (.sl k es)
  | fptr {b off k i o : Nat} {es : List V} (us : Nat → Nat → Value) (hi : i < es.length) (ho : o < k) (hF : F b)
      (hflat : ∀ i, i < es.length → okE k (nth es i))
      (hcell : ∀ i j, i < es.length → j < k → w.cell? ⟨b, off + i * k + j, none⟩ = some (us i j))
      (hrep : ∀ i j, i < es.length → j < k → FRep w F (us i j) (nth (nth es i).flat j)) :
      FRep w F (.pointer (some ⟨b, off + i * k + o, none⟩)) (.fptr k es i o)
  | agg {us : Array Value} {cs : List V} (hl : us.size = cs.length) (h : ∀ j, j < cs.length → FRep w F (us.getD j undef) (nth cs j)) : FRep w F (.agg us) (.agg cs)
  | tup {us : Array Value} {cs : List V} (hl : us.size = cs.length) (h : ∀ j, j < cs.length → FRep w F (us.getD j undef) (nth cs j)) : FRep w F (.tuple us) (.tup cs)
  | fn {f : Fn} {us vs : Array Value} {cs ds : List V} (hl : us.size = cs.length) (hm : vs.size = ds.length)
      (h : ∀ j, j < cs.length → FRep w F (us.getD j undef) (nth cs j)) (g : ∀ j, j < ds.length → FRep w F (vs.getD j undef) (nth ds j)) : FRep w F (.func f us vs) (.fn f cs ds)
  | iface {t : TypeId} {v : Value} {x : V} (h : FRep w F v x) : FRep w F (.iface t v) (.iface t x)
  | fmap {b : Nat} {es : Array MapEntry} {clock : Nat} {ks vs : List V} (us ws : Nat → Value) (hF : F b) (hb : w.heap[b]? = some (.map es clock)) (hl : es.size = ks.length ∧ Born es clock) (hl2 : vs.length = ks.length)
      (hcell : ∀ i, i < ks.length → ∃ e, es[i]? = some e ∧ e.key = us i ∧ e.val = ws i)
      (hk : ∀ i, i < ks.length → FRep w F (us i) (nth ks i)) (hv : ∀ i, i < ks.length → FRep w F (ws i) (nth vs i)) : FRep w F (.map (some b)) (.fmap ks vs)
inductive Loc where
  | at (b s k sz : Nat)
  | virt
  | mp (b : Nat)
def Loc.block : Loc → Option Nat
  | .at b _ _ _ => some b
  | .virt => none
  | .mp b => some b
abbrev Beta := Nat → Option Loc
inductive VRep (w : World) (F : Nat → Prop) (β : Beta) : Value → V → Prop
  | fr {v : Value} {x : V} (h : FRep w F v x) : VRep w F β v x
  | undef {v : Value} : VRep w F β v .undef
  | own {n off len b s k sz cap : Nat} (h : β n = some (.at b s k sz)) (hlen : len ≤ cap) (hcap : s + (off + cap) * k ≤ sz) :
      VRep w F β (.slice (some ⟨b, s + off * k, none⟩) len cap) (.own n off len)
  | ownv {n : Nat} {a : Option Addr} (h : β n = some .virt) : VRep w F β (.slice a 0 0) (.own n 0 0)
  | ptr {n i off b s k sz : Nat} (h : β n = some (.at b s k sz)) : VRep w F β (.pointer (some ⟨b, s + i * k + off, none⟩)) (.ptr n i off)
  | agg {us : Array Value} {cs : List V} (hl : us.size = cs.length) (h : ∀ j, j < cs.length → VRep w F β (us.getD j Go.undef) (nth cs j)) : VRep w F β (.agg us) (.agg cs)
  | tup {us : Array Value} {cs : List V} (hl : us.size = cs.length) (h : ∀ j, j < cs.length → VRep w F β (us.getD j Go.undef) (nth cs j)) : VRep w F β (.tuple us) (.tup cs)
  | fn {f : Fn} {us vs : Array Value} {cs ds : List V} (hl : us.size = cs.length) (hm : vs.size = ds.length)
      (h : ∀ j, j < cs.length → VRep w F β (us.getD j Go.undef) (nth cs j)) (g : ∀ j, j < ds.length → VRep w F β (vs.getD j Go.undef) (nth ds j)) : VRep w F β (.func f us vs) (.fn f cs ds)
  | iface {t : TypeId} {v : Value} {x : V} (h : VRep w F β v x) : VRep w F β (.iface t v) (.iface t x)
  | map {n b : Nat} (h : β n = some (.mp b)) : VRep w F β (.map (some b)) (.map n)
  | itp {n b : Nat} (h : β n = some (.mp b)) : VRep w F β (.pointer (some ⟨b, 0, none⟩)) (.itp n)
  | cond {v : Value} {b : Bool} {x : V} (h : b = true → VRep w F β v x) (h0 : b = false → v = Go.undef) : VRep w F β v (.cond b x)
inductive AObj where
  | row (k : Nat) (es : List V)
  | mp (ents : List (V × V))
  | it (cur : Option (V × V)) (left : List (V × V))
  | bld (t : TypeId) (x : V)
def leftL (es : Array MapEntry) (seen : Array Nat) : List MapEntry := es.toList.filter fun e => !seen.contains e.born
def FEnts (w : World) (F : Nat → Prop) (es : List MapEntry) (ents : List (V × V)) : Prop :=
  es.length = ents.length ∧ ∀ i, i < ents.length → ∃ e x, es[i]? = some e ∧ ents[i]? = some x ∧ FRep w F e.key x.1 ∧ FRep w F e.val x.2
def ORep (w : World) (F : Nat → Prop) (β : Beta) : Loc → AObj → Prop
  | .at b s k sz, .row k' es => k' = k ∧ ∃ cs T, w.heap[b]? = some (.cells cs T (0, 0)) ∧ cs.size = sz ∧ 0 < k ∧ s + es.length * k ≤ sz ∧
      (∀ i, i < es.length → okE k (nth es i)) ∧
      ∀ i j, i < es.length → j < k → VRep w F β (cs.getD (s + i * k + j) undef) (nth (nth es i).flat j)
  | .virt, .row _ es => es = []
  | .mp b, .mp ents => ∃ (es : Array MapEntry) (clock : Nat), w.heap[b]? = some (.map es clock) ∧ (es.size = ents.length ∧ Born es clock) ∧
      ∀ i, i < ents.length → ∃ e x, es[i]? = some e ∧ ents[i]? = some x ∧ VRep w F β e.key x.1 ∧ VRep w F β e.val x.2
  | .mp r, .it cur left => ∃ (b : Nat) (es : Array MapEntry) (clock since : Nat) (seen : Array Nat) (c0 : Nat), w.heap[r]? = some (.mapIter (some b) since seen c0) ∧ F b ∧ w.heap[b]? = some (.map es clock) ∧
      (Born es clock ∧ (∀ x ∈ es.toList, x.born < since) ∧ since ≤ c0 ∧ since ≤ clock) ∧ FEnts w F (leftL es seen) left ∧
      ∀ x, cur = some x → ∃ (e : MapEntry) (seen' : Array Nat), seen = seen'.push e.born ∧ c0 = clock ∧ e ∈ es.toList ∧ FRep w F e.key x.1 ∧ FRep w F e.val x.2
  | .mp b, .bld t x => ∃ p v n len, x = .own n 0 len ∧ w.heap[b]? = some (.cells #[p, v] t (0, 0)) ∧ (p = .pointer none ∨ p = .pointer (some ⟨b, 0, none⟩)) ∧
      ((β n = some .virt ∧ len = 0 ∧ v = .slice none 0 0) ∨ ∃ g sz, β n = some (.at g 0 1 sz) ∧ v = .slice (some ⟨g, 0, none⟩) len sz)
  | .at b s k sz, .bld t x => s = 0 ∧ k = 1 ∧ ∃ (l : List UInt8) (cs : Array Value), x = .p (.string ⟨⟨l⟩⟩) ∧ w.heap[b]? = some (.cells cs t (0, 0)) ∧ cs.size = sz ∧ l.length ≤ sz ∧ 0 < sz ∧ sz ≤ 9223372036854775807 ∧
      cs.toList.take l.length = l.map fun b => Value.int .u8 b.toNat
  | .virt, .bld _ x => x = .p (.string ⟨⟨[]⟩⟩)
  | _, _ => False
abbrev Sig := Nat → Option AObj
def GRep (w : World) (F : Nat → Prop) : Prop := (∀ g, globV g = .undef ∨ FRep w F (.pointer (some ⟨g, 0, none⟩)) (globV g)) ∧ ∀ x ∈ globC, F x.1 ∧ ∃ cs T z, w.heap[x.1]? = some (.cells cs T z) ∧ x.2 cs
structure Rep (w : World) (F : Nat → Prop) (β : Beta) (σ : Sig) (Av : Nat → Prop) : Prop where
  falloc : ∀ b, F b → b < w.heap.size
  dom : ∀ n, Av n → β n = none
  obj : ∀ n o, σ n = some o → ∃ l, β n = some l ∧ ORep w F β l o ∧ ∀ b, l.block = some b → ¬ F b ∧ b < w.heap.size
  sep : ∀ n m o o' l l' b, σ n = some o → σ m = some o' → β n = some l → β m = some l' → l.block = some b → l'.block = some b → n = m
  gl : GRep w F
def owned (σ : Sig) (β : Beta) (b : Nat) : Prop := ∃ n o l, σ n = some o ∧ β n = some l ∧ l.block = some b
structure Evolve (w : World) (F : Nat → Prop) (β : Beta) (σ : Sig) (w' : World) (F' : Nat → Prop) (β' : Beta) (σ' : Sig) : Prop where
  os : w'.os = w.os
  tape : w'.tape = w.tape
  output : w'.output = w.output
  size : w.heap.size ≤ w'.heap.size
  beta : ∀ n l, β n = some l → β' n = some l
  frozen : ∀ b, F b → F' b
  block : ∀ b, b < w.heap.size → ¬ owned σ β b → w'.heap[b]? = w.heap[b]?
  newF : ∀ b, b < w.heap.size → F' b → F b ∨ owned σ β b
  ownd : ∀ b, b < w.heap.size → owned σ' β' b → owned σ β b
theorem Evolve.refl (w : World) (F : Nat → Prop) (β : Beta) (σ : Sig) : Evolve w F β σ w F β σ :=
  ⟨rfl, rfl, rfl, Nat.le_refl _, fun _ _ h => h, fun _ h => h, fun _ _ _ => rfl, fun _ _ h => .inl h, fun _ _ h => h⟩
theorem Evolve.trans {w1 w2 w3 : World} {F1 F2 F3 : Nat → Prop} {β1 β2 β3 : Beta} {σ1 σ2 σ3 : Sig}
    (h : Evolve w1 F1 β1 σ1 w2 F2 β2 σ2) (g : Evolve w2 F2 β2 σ2 w3 F3 β3 σ3) : Evolve w1 F1 β1 σ1 w3 F3 β3 σ3 where
  os := g.os.trans h.os
  tape := g.tape.trans h.tape
  output := g.output.trans h.output
  size := Nat.le_trans h.size g.size
  beta := fun n l e => g.beta n l (h.beta n l e)
  frozen := fun b e => g.frozen b (h.frozen b e)
  block := fun b hb hn => (g.block b (Nat.lt_of_lt_of_le hb h.size) (fun ho => hn (h.ownd b hb ho))).trans (h.block b hb hn)
  newF := fun b hb hf => by
    rcases g.newF b (Nat.lt_of_lt_of_le hb h.size) hf with e | e
    · exact h.newF b hb e
    · exact .inr (h.ownd b hb e)
  ownd := fun b hb ho => h.ownd b hb (g.ownd b (Nat.lt_of_lt_of_le hb h.size) ho)
theorem cell_of_heap {w w' : World} {a : Addr} (h : w'.heap[a.block]? = w.heap[a.block]?) : w'.cell? a = w.cell? a := by simp [World.cell?, h]
theorem FRep.mono {w w' : World} {F F' : Nat → Prop} (hF : ∀ b, F b → F' b) (hw : ∀ b, F b → w'.heap[b]? = w.heap[b]?) {v : Value} {x : V} (h : FRep w F v x) : FRep w' F' v x := by
  induction h with
  | p h => exact .p h
  | emp => exact .emp
  | sl0 => exact .sl0
  | sl us hne hcap hb hk hflat hcell _ ih =>
    exact .sl us hne hcap (hF _ hb) hk hflat (fun i j hi hj => (cell_of_heap (hw _ hb)).trans (hcell i j hi hj)) ih
  | fptr us hi ho hb hflat hcell _ ih =>
    exact .fptr us hi ho (hF _ hb) hflat (fun i j hi hj => (cell_of_heap (hw _ hb)).trans (hcell i j hi hj)) ih
  | agg hl _ ih => exact .agg hl ih
  | tup hl _ ih => exact .tup hl ih
  | fn hl hm _ _ ih ig => exact .fn hl hm ih ig
  | iface _ ih => exact .iface ih
  | fmap us ws hb he hl hl2 hc _ _ ik iv => exact .fmap us ws (hF _ hb) ((hw _ hb).trans he) hl hl2 hc ik iv
theorem GRep.mono {w w' : World} {F F' : Nat → Prop} (h : GRep w F) (hF : ∀ b, F b → F' b) (hw : ∀ b, F b → w'.heap[b]? = w.heap[b]?) : GRep w' F' := ⟨fun g => (h.1 g).imp id fun e => e.mono hF hw, fun x hx => by
  obtain ⟨h1, cs, T, z, h2, h3⟩ := h.2 x hx
  exact ⟨hF _ h1, cs, T, z, (hw _ h1).trans h2, h3⟩⟩
theorem GRep.v {w : World} {F : Nat → Prop} {β : Beta} (h : GRep w F) (g : Nat) : VRep w F β (.pointer (some ⟨g, 0, none⟩)) (globV g) := by
  rcases h.1 g with e | e
  · rw [e]; exact .undef
  · exact .fr e
theorem GRep.notb {w : World} {F : Nat → Prop} (h : GRep w F) {g : Nat} {b : Bool} (e : globV g = .p (.bool b)) : False := by
  rcases h.1 g with q | q
  · rw [e] at q; cases q
  · rw [e] at q
    generalize hv : Value.pointer (some ⟨g, 0, none⟩) = v at q
    cases q
    cases hv
theorem GRep.note {w : World} {F : Nat → Prop} (h : GRep w F) {g : Nat} (e : globV g = .emp) : False := by
  rcases h.1 g with q | q
  · rw [e] at q; cases q
  · rw [e] at q
    generalize hv : Value.pointer (some ⟨g, 0, none⟩) = v at q
    cases q
    cases hv
theorem VRep.mono {w w' : World} {F F' : Nat → Prop} {β β' : Beta} (hF : ∀ b, F b → F' b) (hw : ∀ b, F b → w'.heap[b]? = w.heap[b]?)
    (hβ : ∀ n l, β n = some l → β' n = some l) {v : Value} {x : V} (h : VRep w F β v x) : VRep w' F' β' v x := by
  induction h with
  | fr h => exact .fr (h.mono hF hw)
  | undef => exact .undef
  | own h hlen hcap => exact .own (hβ _ _ h) hlen hcap
  | ownv h => exact .ownv (hβ _ _ h)
  | ptr h => exact .ptr (hβ _ _ h)
  | agg hl _ ih => exact .agg hl ih
  | tup hl _ ih => exact .tup hl ih
  | fn hl hm _ _ ih ig => exact .fn hl hm ih ig
  | iface _ ih => exact .iface ih
  | map h => exact .map (hβ _ _ h)
  | itp h => exact .itp (hβ _ _ h)
  | cond _ h0 ih => exact .cond ih h0
theorem Evolve.fheap {w w' : World} {F F' : Nat → Prop} {β β' : Beta} {σ σ' : Sig} {Av : Nat → Prop} (hr : Rep w F β σ Av) (h : Evolve w F β σ w' F' β' σ') :
    ∀ b, F b → w'.heap[b]? = w.heap[b]? := fun b hb =>
  h.block b (hr.falloc b hb) fun ⟨n, o, l, h1, h2, h3⟩ => by
    obtain ⟨l', e, _, hn⟩ := hr.obj n o h1
    rw [h2] at e; cases e
    exact (hn b h3).1 hb
theorem Evolve.vrep {w w' : World} {F F' : Nat → Prop} {β β' : Beta} {σ σ' : Sig} {Av : Nat → Prop} (hr : Rep w F β σ Av) (h : Evolve w F β σ w' F' β' σ') {v : Value} {x : V}
    (hv : VRep w F β v x) : VRep w' F' β' v x := hv.mono h.frozen (h.fheap hr) h.beta
end
section
open Go
def upd {α : Type} (f : Nat → Option α) (n : Nat) (x : Option α) : Nat → Option α := fun m => if m = n then x else f m
@[simp] theorem upd_same {α : Type} (f : Nat → Option α) (n : Nat) (x : Option α) : upd f n x n = x := by simp [upd]
theorem upd_other {α : Type} (f : Nat → Option α) {n m : Nat} (x : Option α) (h : m ≠ n) : upd f n x m = f m := by simp [upd, h]
theorem ORep.mono {w w' : World} {F F' : Nat → Prop} {β β' : Beta} (hF : ∀ b, F b → F' b) (hw : ∀ b, F b → w'.heap[b]? = w.heap[b]?)
    (hβ : ∀ n l, β n = some l → β' n = some l) {l : Loc} {o : AObj} (hb : ∀ b, l.block = some b → w'.heap[b]? = w.heap[b]?) (h : ORep w F β l o) : ORep w' F' β' l o := by
  cases l with
  | «at» b s k sz =>
    cases o with
    | row k' es =>
      obtain ⟨hk, cs, T, h1, h2, h3, h4, h5, h6⟩ := h
      exact ⟨hk, cs, T, (hb b rfl).trans h1, h2, h3, h4, h5, fun i j hi hj => (h6 i j hi hj).mono hF hw hβ⟩
    | mp _ => exact h.elim
    | it _ _ => exact h.elim
    | bld t x =>
      obtain ⟨h1, h2, l, cs, h3, h4, h5⟩ := h
      exact ⟨h1, h2, l, cs, h3, (hb b rfl).trans h4, h5⟩
  | virt =>
    cases o with
    | row _ es => exact h
    | mp _ => exact h.elim
    | it _ _ => exact h.elim
    | bld _ _ => exact h
  | mp b =>
    cases o with
    | row _ es => exact h.elim
    | mp ents =>
      obtain ⟨es, clock, h1, h2, h3⟩ := h
      refine ⟨es, clock, (hb b rfl).trans h1, h2, fun i hi => ?_⟩
      obtain ⟨e, x, h4, h5, h6, h7⟩ := h3 i hi
      exact ⟨e, x, h4, h5, h6.mono hF hw hβ, h7.mono hF hw hβ⟩
    | it cur left =>
      obtain ⟨b0, es, clock, since, seen, c0, h1, h2, h3, h4, h5, h6⟩ := h
      refine ⟨b0, es, clock, since, seen, c0, (hb b rfl).trans h1, hF _ h2, (hw _ h2).trans h3, h4, ⟨h5.1, fun i hi => ?_⟩, fun x hx => ?_⟩
      · obtain ⟨e, x, g1, g2, g3, g4⟩ := h5.2 i hi
        exact ⟨e, x, g1, g2, g3.mono hF hw, g4.mono hF hw⟩
      · obtain ⟨e, s', g1, g2, g3, g4, g5⟩ := h6 x hx
        exact ⟨e, s', g1, g2, g3, g4.mono hF hw, g5.mono hF hw⟩
    | bld t x =>
      obtain ⟨p, v, n, len, h0, h1, h2, h3⟩ := h
      refine ⟨p, v, n, len, h0, (hb b rfl).trans h1, h2, ?_⟩
      rcases h3 with ⟨g1, g2⟩ | ⟨g, sz, g1, g2⟩
      · exact .inl ⟨hβ _ _ g1, g2⟩
      · exact .inr ⟨g, sz, hβ _ _ g1, g2⟩
theorem Rep.change {w w' : World} {F : Nat → Prop} {β β' : Beta} {σ σ' : Sig} {Av Av' : Nat → Prop} (hr : Rep w F β σ Av) (m0 : Nat) (o0 : AObj) (l0 : Loc)
    (hos : w'.os = w.os) (htape : w'.tape = w.tape) (hout : w'.output = w.output)
    (hsz : w.heap.size ≤ w'.heap.size)
    (hβ : ∀ n l, β n = some l → β' n = some l)
    (hdom : ∀ n, Av' n → β' n = none)
    (hσ : ∀ m o, σ' m = some o → (m = m0 ∧ o = o0) ∨ (m ≠ m0 ∧ σ m = some o))
    (hl0 : β' m0 = some l0)
    (ho : ORep w' F β' l0 o0)
    (hblk : ∀ b, l0.block = some b → ¬ F b ∧ b < w'.heap.size)
    (hdis : ∀ m o l b, m ≠ m0 → σ' m = some o → β m = some l → l.block = some b → l0.block ≠ some b)
    (hold : ∀ b, l0.block = some b → b < w.heap.size → owned σ β b)
    (hheap : ∀ b, b < w.heap.size → l0.block ≠ some b → w'.heap[b]? = w.heap[b]?) :
    Rep w' F β' σ' Av' ∧ Evolve w F β σ w' F β' σ' := by
  have hFh : ∀ b, F b → w'.heap[b]? = w.heap[b]? := fun b hb => hheap b (hr.falloc b hb) (fun e => (hblk b e).1 hb)
  have hobj : ∀ m o, m ≠ m0 → σ' m = some o → ∃ l, β m = some l ∧ ORep w F β l o ∧ (∀ b, l.block = some b → ¬ F b ∧ b < w.heap.size) ∧ ORep w' F β' l o := by
    intro m o hm hs
    rcases hσ m o hs with ⟨h, _⟩ | ⟨_, h⟩
    · exact absurd h hm
    · obtain ⟨l, h1, h2, h3⟩ := hr.obj m o h
      refine ⟨l, h1, h2, h3, h2.mono (fun _ h => h) hFh hβ (fun b hb => hheap b (h3 b hb).2 (hdis m o l b hm hs h1 hb))⟩
  refine ⟨⟨fun b hb => Nat.lt_of_lt_of_le (hr.falloc b hb) hsz, hdom, ?_, ?_, hr.gl.mono (fun _ h => h) hFh⟩, ⟨hos, htape, hout, hsz, hβ, fun _ h => h, ?_, fun _ _ h => .inl h, ?_⟩⟩
  · intro n o hn
    by_cases hm : n = m0
    · subst hm
      have : o = o0 := by
        rcases hσ n o hn with ⟨_, h⟩ | ⟨h, _⟩
        · exact h
        · exact absurd rfl h
      subst this
      exact ⟨l0, hl0, ho, hblk⟩
    · obtain ⟨l, h1, h2, h3, h4⟩ := hobj n o hm hn
      exact ⟨l, hβ n l h1, h4, fun b hb => ⟨(h3 b hb).1, Nat.lt_of_lt_of_le (h3 b hb).2 hsz⟩⟩
  · intro n m o o' l l' b h1 h2 h3 h4 h5 h6
    by_cases hn : n = m0 <;> by_cases hm : m = m0
    · exact hn.trans hm.symm
    · subst hn
      obtain ⟨l2, e1, _, _, _⟩ := hobj m o' hm h2
      have : l2 = l' := by have := hβ m l2 e1; rw [h4] at this; exact (Option.some.inj this).symm
      subst this
      rw [hl0] at h3; cases h3
      exact absurd h5 (hdis m o' l2 b hm h2 e1 h6)
    · subst hm
      obtain ⟨l2, e1, _, _, _⟩ := hobj n o hn h1
      have : l2 = l := by have := hβ n l2 e1; rw [h3] at this; exact (Option.some.inj this).symm
      subst this
      rw [hl0] at h4; cases h4
      exact absurd h6 (hdis n o l2 b hn h1 e1 h5)
    · obtain ⟨l2, e1, _, _, _⟩ := hobj n o hn h1
      obtain ⟨l3, e2, _, _, _⟩ := hobj m o' hm h2
      have a1 : l2 = l := by have := hβ n l2 e1; rw [h3] at this; exact (Option.some.inj this).symm
      have a2 : l3 = l' := by have := hβ m l3 e2; rw [h4] at this; exact (Option.some.inj this).symm
      subst a1; subst a2
      have s1 := (hσ n o h1).resolve_left (fun h => hn h.1)
      have s2 := (hσ m o' h2).resolve_left (fun h => hm h.1)
      exact hr.sep n m o o' l2 l3 b s1.2 s2.2 e1 e2 h5 h6
  · intro b hb hno
    by_cases hb0 : l0.block = some b
    · exact absurd (hold b hb0 hb) hno
    · exact hheap b hb hb0
  · rintro b hb ⟨n, o, l, h1, h2, h3⟩
    by_cases hn : n = m0
    · subst hn
      rw [hl0] at h2; cases h2
      exact hold b h3 hb
    · obtain ⟨l2, e1, _, _, _⟩ := hobj n o hn h1
      have a1 : l2 = l := by have := hβ n l2 e1; rw [h2] at this; exact (Option.some.inj this).symm
      subst a1
      exact ⟨n, o, l2, ((hσ n o h1).resolve_left (fun h => hn h.1)).2, e1, h3⟩
def SemOK (P : Program) (s : Sem Value) (w : World) (F : Nat → Prop) (β : Beta) (σ : Sig) (x : V) (σ' : Sig) (Av' : Nat → Prop) : Prop :=
  ∃ v w' F' β', s.run P w = .ok v w' ∧ Rep w' F' β' σ' Av' ∧ VRep w' F' β' v x ∧ Evolve w F β σ w' F' β' σ'
theorem SemOK.pure {P : Program} {s : Sem Value} {w : World} {F : Nat → Prop} {β : Beta} {σ : Sig} {Av : Nat → Prop} (hr : Rep w F β σ Av) {x : V} {v : Value}
    (h : s.run P w = .ok v w) (hv : VRep w F β v x) : SemOK P s w F β σ x σ Av := ⟨v, w, F, β, h, hr, hv, Evolve.refl _ _ _ _⟩
theorem Rep.drew {w : World} {F : Nat → Prop} {β : Beta} {σ : Sig} {Av : Nat → Prop} (hr : Rep w F β σ Av) : Rep w.drew F β σ Av ∧ Evolve w F β σ w.drew F β σ := by
  refine ⟨⟨hr.falloc, hr.dom, fun n o h => ?_, hr.sep, hr.gl.mono (fun _ h => h) fun _ _ => rfl⟩, ⟨rfl, rfl, rfl, Nat.le_refl _, fun _ _ h => h, fun _ h => h, fun _ _ _ => rfl, fun _ _ h => .inl h, fun _ _ h => h⟩⟩
  obtain ⟨l, h1, h2, h3⟩ := hr.obj n o h
  exact ⟨l, h1, ORep.mono (w := w) (w' := w.drew) (fun _ h => h) (fun _ _ => rfl) (fun _ _ h => h) (fun _ _ => rfl) h2, h3⟩
theorem Rep.alloc_row {w : World} {F : Nat → Prop} {β : Beta} {σ : Sig} {Av : Nat → Prop} (hr : Rep w F β σ Av) {nn : Nat} (hnn : Av nn) (cs : Array Value) (T : TypeId) (k : Nat) (es : List V) (hk : 0 < k)
    (hfit : es.length * k ≤ cs.size) (hflat : ∀ i, i < es.length → okE k (nth es i))
    (hc : ∀ i j, i < es.length → j < k → VRep w F β (cs.getD (i * k + j) undef) (nth (nth es i).flat j)) :
    Rep (w.alloc (.cells cs T)) F (upd β nn (some (.at w.heap.size 0 k cs.size))) (upd σ nn (some (.row k es))) (fun n => Av n ∧ n ≠ nn) ∧
    Evolve w F β σ (w.alloc (.cells cs T)) F (upd β nn (some (.at w.heap.size 0 k cs.size))) (upd σ nn (some (.row k es))) := by
  have hheap : ∀ b, b < w.heap.size → (w.alloc (.cells cs T)).heap[b]? = w.heap[b]? := fun b hb => heap_alloc_old w (.cells cs T) hb
  have hβ : ∀ n l, β n = some l → upd β nn (some (.at w.heap.size 0 k cs.size)) n = some l := fun n l h => by
    rw [upd_other]; exact h
    rintro rfl; rw [hr.dom n hnn] at h; cases h
  refine hr.change nn (.row k es) (.at w.heap.size 0 k cs.size) rfl rfl rfl (by simp) hβ ?_ ?_ (by simp) ?_ ?_ ?_ ?_ (fun b hb _ => hheap b hb)
  · intro n hn
    rw [upd_other _ _ hn.2]; exact hr.dom n hn.1
  · intro m o hm
    by_cases h : m = nn
    · subst h; simp at hm; exact .inl ⟨rfl, hm.symm⟩
    · rw [upd_other _ _ h] at hm; exact .inr ⟨h, hm⟩
  · refine ⟨rfl, cs, T, heap_alloc_new w _, rfl, hk, by omega, hflat, fun i j hi hj => ?_⟩
    rw [Nat.zero_add]
    exact (hc i j hi hj).mono (fun _ h => h) (fun b hb => hheap b (hr.falloc b hb)) hβ
  · intro b hb
    simp only [Loc.block, Option.some.injEq] at hb
    subst hb
    exact ⟨fun h => absurd (hr.falloc _ h) (by omega), by simp⟩
  · intro m o l b hm hs hl hb e
    simp only [Loc.block, Option.some.injEq] at e
    rw [upd_other _ _ hm] at hs
    obtain ⟨l', h1, _, h3⟩ := hr.obj m o hs
    rw [hl] at h1; cases h1
    have := (h3 b hb).2
    omega
  · intro b hb hlt
    simp only [Loc.block, Option.some.injEq] at hb
    omega
end
section
open Go
theorem getD_setRow_heap (w : World) (b : Nat) (cs : Array Value) (T : TypeId) (cs' : Array Value) (h : w.heap[b]? = some (.cells cs T (0, 0))) :
    (w.setRow b cs').heap[b]? = some (.cells cs' T (0, 0)) := setRow_heap w b cs cs' T (0, 0) h
theorem Rep.write_row {w : World} {F : Nat → Prop} {β : Beta} {σ : Sig} {Av : Nat → Prop} (hr : Rep w F β σ Av) {n k : Nat} {es : List V} (hn : σ n = some (.row k es))
    {b s sz : Nat} (hb : β n = some (.at b s k sz)) {cs : Array Value} {T : TypeId} (hcs : w.heap[b]? = some (.cells cs T (0, 0)))
    (cs' : Array Value) (hsz : cs'.size = sz) (es' : List V) (hk : 0 < k) (hfit : s + es'.length * k ≤ sz) (hflat : ∀ i, i < es'.length → okE k (nth es' i))
    (hc : ∀ i j, i < es'.length → j < k → VRep w F β (cs'.getD (s + i * k + j) undef) (nth (nth es' i).flat j)) :
    Rep (w.setRow b cs') F β (upd σ n (some (.row k es'))) Av ∧ Evolve w F β σ (w.setRow b cs') F β (upd σ n (some (.row k es'))) := by
  obtain ⟨l, hl, _, hblk⟩ := hr.obj n _ hn
  rw [hb] at hl; cases hl
  have hFb := hblk b rfl
  have hheap : ∀ c, c ≠ b → (w.setRow b cs').heap[c]? = w.heap[c]? := fun c hc => setRow_other w b c cs' hc
  refine hr.change n (.row k es') (.at b s k sz) rfl rfl rfl (by simp) (fun _ _ h => h) hr.dom ?_ hb ?_ ?_ ?_ ?_ ?_
  · intro m o hm
    by_cases h : m = n
    · subst h; simp at hm; exact .inl ⟨rfl, hm.symm⟩
    · rw [upd_other _ _ h] at hm; exact .inr ⟨h, hm⟩
  · refine ⟨rfl, cs', T, getD_setRow_heap w b cs T cs' hcs, hsz, hk, hfit, hflat, fun i j hi hj => ?_⟩
    exact (hc i j hi hj).mono (fun _ h => h) (fun c hcF => hheap c (by rintro rfl; exact hFb.1 hcF)) (fun _ _ h => h)
  · intro c hc'
    simp only [Loc.block, Option.some.injEq] at hc'
    subst hc'
    exact ⟨hFb.1, by simpa using hFb.2⟩
  · intro m o l c hm hs hl hb' e
    simp only [Loc.block, Option.some.injEq] at e
    subst e
    rw [upd_other _ _ hm] at hs
    exact hm (hr.sep m n o _ l _ _ hs hn hl hb hb' rfl)
  · intro c hc' _
    exact ⟨n, _, _, hn, hb, hc'⟩
  · intro c _ hc'
    exact hheap c (fun e => hc' (by simp [Loc.block, e]))
theorem Rep.grow_row {w : World} {F : Nat → Prop} {β : Beta} {σ : Sig} {Av : Nat → Prop} (hr : Rep w F β σ Av) {nn : Nat} (hnn : Av nn) {n k : Nat} {es : List V} (hn : σ n = some (.row k es))
    {b s sz : Nat} (hb : β n = some (.at b s k sz)) {cs : Array Value} {T : TypeId} (hcs : w.heap[b]? = some (.cells cs T (0, 0)))
    (cs' : Array Value) (hsz : cs'.size = sz) (s' : Nat) (es' : List V) (hk : 0 < k) (hfit : s' + es'.length * k ≤ sz) (hflat : ∀ i, i < es'.length → okE k (nth es' i))
    (hc : ∀ i j, i < es'.length → j < k → VRep w F β (cs'.getD (s' + i * k + j) undef) (nth (nth es' i).flat j)) :
    Rep (w.setRow b cs') F (upd β nn (some (.at b s' k sz))) (upd (upd σ n none) nn (some (.row k es'))) (fun m => Av m ∧ m ≠ nn) ∧
    Evolve w F β σ (w.setRow b cs') F (upd β nn (some (.at b s' k sz))) (upd (upd σ n none) nn (some (.row k es'))) := by
  obtain ⟨l, hl, _, hblk⟩ := hr.obj n _ hn
  rw [hb] at hl; cases hl
  have hFb := hblk b rfl
  have hheap : ∀ c, c ≠ b → (w.setRow b cs').heap[c]? = w.heap[c]? := fun c hc => setRow_other w b c cs' hc
  have hβ : ∀ m l, β m = some l → upd β nn (some (.at b s' k sz)) m = some l := fun m l h => by
    rw [upd_other]; exact h
    rintro rfl; rw [hr.dom m hnn] at h; cases h
  refine hr.change nn (.row k es') (.at b s' k sz) rfl rfl rfl (by simp) hβ ?_ ?_ (by simp) ?_ ?_ ?_ ?_ ?_
  · intro m hm
    rw [upd_other _ _ hm.2]; exact hr.dom m hm.1
  · intro m o hm
    by_cases h : m = nn
    · subst h; simp at hm; exact .inl ⟨rfl, hm.symm⟩
    · rw [upd_other _ _ h] at hm
      by_cases h2 : m = n
      · subst h2; simp at hm
      · rw [upd_other _ _ h2] at hm; exact .inr ⟨h, hm⟩
  · refine ⟨rfl, cs', T, getD_setRow_heap w b cs T cs' hcs, hsz, hk, hfit, hflat, fun i j hi hj => ?_⟩
    exact (hc i j hi hj).mono (fun _ h => h) (fun c hcF => hheap c (by rintro rfl; exact hFb.1 hcF)) hβ
  · intro c hc'
    simp only [Loc.block, Option.some.injEq] at hc'
    subst hc'
    exact ⟨hFb.1, by simpa using hFb.2⟩
  · intro m o l c hm hs hl hb' e
    simp only [Loc.block, Option.some.injEq] at e
    subst e
    rw [upd_other _ _ hm] at hs
    by_cases h2 : m = n
    · subst h2; simp at hs
    · rw [upd_other _ _ h2] at hs
      exact h2 (hr.sep m n o _ l _ _ hs hn hl hb hb' rfl)
  · intro c hc' _
    exact ⟨n, _, _, hn, hb, hc'⟩
  · intro c _ hc'
    exact hheap c (fun e => hc' (by simp [Loc.block, e]))
theorem row_cell {w : World} {F : Nat → Prop} {β : Beta} {b s k sz : Nat} {es : List V} {k' : Nat} (h : ORep w F β (.at b s k sz) (.row k' es)) (i j : Nat) (hi : i < es.length) (hj : j < k) :
    ∃ u, w.cell? ⟨b, s + i * k + j, none⟩ = some u ∧ VRep w F β u (nth (nth es i).flat j) := by
  obtain ⟨_, cs, T, h1, h2, h3, h4, h5, h6⟩ := h
  have hlt : s + i * k + j < cs.size := by
    have : (i + 1) * k ≤ es.length * k := Nat.mul_le_mul_right _ hi
    rw [Nat.succ_mul] at this; omega
  refine ⟨cs.getD (s + i * k + j) undef, ?_, h6 i j hi hj⟩
  rw [cell_of_row w b _ cs T (0, 0) h1]
  simp [Array.getD, hlt]
theorem oneCell_of_frep {w : World} {F : Nat → Prop} {v : Value} {x : V} (h : FRep w F v x) (hx : one x = true) : v.oneCell' = true := by
  cases h with
  | p h => cases v <;> first | rfl | simp [pl] at h
  | agg _ _ => simp [one] at hx
  | tup _ _ => simp [one] at hx
  | _ => rfl
theorem oneCell_of_vrep {w : World} {F : Nat → Prop} {β : Beta} {v : Value} {x : V} (h : VRep w F β v x) (hx : one x = true) : v.oneCell' = true := by
  cases h with
  | fr h => exact oneCell_of_frep h hx
  | undef => simp [one] at hx
  | agg _ _ => simp [one] at hx
  | tup _ _ => simp [one] at hx
  | cond _ _ => simp [one] at hx
  | _ => rfl
theorem flat_one {x : V} (hx : one x = true) : x.flat = [x] := by cases x <;> first | rfl | simp [one] at hx
end
section
open Go
def isAggD : TypeDesc → Bool
  | .struct _ | .array _ _ => true
  | _ => false
def tAgg (P : Program) (t : TypeId) : Option Bool := (P.underlying t).map isAggD
def tSize (P : Program) (t : TypeId) : Option Nat := (P.info? t).map (·.size)
theorem run_isAgg {P : Program} {t : TypeId} {ag : Bool} (h : tAgg P t = some ag) (w : World) : (isAgg t).run P w = .ok ag w := by
  unfold tAgg at h
  cases hu : P.underlying t with
  | none => simp [hu] at h
  | some d =>
    simp only [hu, Option.map_some, Option.some.injEq] at h
    subst h
    cases d <;> simp [isAgg, run_underlying hu, isAggD]
theorem run_sizeOf {P : Program} {t : TypeId} {m : Nat} (h : tSize P t = some m) (w : World) : (sizeOf t).run P w = .ok m w := by
  unfold tSize at h
  cases hu : P.info? t with
  | none => simp [hu] at h
  | some d =>
    simp only [hu, Option.map_some, Option.some.injEq] at h
    subst h
    simp [sizeOf, typeInfo, hu]
def loadE (ag : Bool) (m : Nat) (x : V) (off : Nat) : Option V :=
  if ag then (if off + m ≤ x.flat.length then some (.agg ((x.flat.drop off).take m)) else none)
  else if off < x.flat.length then some (nth x.flat off) else none
theorem addr_add (b p j : Nat) : (⟨b, p, none⟩ : Addr).add j = ⟨b, p + j, none⟩ := by unfold Addr.add; split <;> simp_all
theorem nth_drop_take (l : List V) (o m j : Nat) (hj : j < m) : nth ((l.drop o).take m) j = nth l (o + j) := by
  simp only [nth, List.getD]
  rw [List.getElem?_take_of_lt hj, List.getElem?_drop]
theorem load_cells {P : Program} {w : World} {F : Nat → Prop} {β : Beta} {t : TypeId} {ag : Bool} {m : Nat} (hag : tAgg P t = some ag) (hm : tSize P t = some m) {x y : V} {b p off k : Nat}
    (hx : x.flat.length = k) (hc : ∀ j, j < k → ∃ u, w.cell? ⟨b, p + j, none⟩ = some u ∧ VRep w F β u (nth x.flat j)) (h : loadE ag m x off = some y) :
    ∃ v, (loadVar t ⟨b, p + off, none⟩).run P w = .ok v w ∧ VRep w F β v y := by
  unfold loadE at h
  cases ag with
  | true =>
    simp only [if_true] at h
    split at h
    · rename_i hle
      simp only [Option.some.injEq] at h
      subst h
      let f : Nat → Value := fun j => (w.cell? ⟨b, p + off + j, none⟩).getD undef
      have hf : ∀ j, j < m → w.cell? ((⟨b, p + off, none⟩ : Addr).add j) = some (f j) := by
        intro j hj
        obtain ⟨u, hu, _⟩ := hc (off + j) (by omega)
        rw [addr_add, show p + off + j = p + (off + j) by omega, hu]
        simp only [f]
        rw [show p + off + j = p + (off + j) by omega, hu]
        rfl
      refine ⟨.agg ((List.range m).map f).toArray, ?_, ?_⟩
      · simp only [loadVar, Sem.run_bind, run_isAgg hag, Result.andThen_ok, if_true, run_sizeOf hm, run_loadCells w _ m f hf, Sem.run_pure]
      · refine .agg (by simp; omega) fun j hj => ?_
        simp only [List.length_take, List.length_drop] at hj
        have hjm : j < m := by omega
        rw [nth_drop_take _ _ _ _ hjm]
        obtain ⟨u, hu, hv⟩ := hc (off + j) (by omega)
        have : (((List.range m).map f).toArray).getD j undef = u := by
          simp only [f, Array.getD, List.size_toArray, List.length_map, List.length_range, hjm, dif_pos]
          simp [show p + off + j = p + (off + j) by omega, hu]
        rw [this]; exact hv
    · cases h
  | false =>
    simp only [Bool.false_eq_true, if_false] at h
    split at h
    · rename_i hlt
      simp only [Option.some.injEq] at h
      subst h
      obtain ⟨u, hu, hv⟩ := hc off (by omega)
      refine ⟨u, ?_, hv⟩
      simp only [loadVar, Sem.run_bind, run_isAgg hag, Result.andThen_ok, Bool.false_eq_true, if_false, run_load, hu]
    · cases h
theorem VRep.ptr_inv {w : World} {F : Nat → Prop} {β : Beta} {v : Value} {n i off : Nat} (h : VRep w F β v (.ptr n i off)) :
    ∃ b s k sz, β n = some (.at b s k sz) ∧ v = .pointer (some ⟨b, s + i * k + off, none⟩) := by
  cases h with
  | fr h => cases h
  | ptr h => exact ⟨_, _, _, _, h, rfl⟩
theorem load_ptr {P : Program} {w : World} {F : Nat → Prop} {β : Beta} {σ : Sig} {Av : Nat → Prop} (hr : Rep w F β σ Av) {t : TypeId} {ag : Bool} {m : Nat} (hag : tAgg P t = some ag) (hm : tSize P t = some m)
    {v : Value} {n i off : Nat} (hv : VRep w F β v (.ptr n i off)) {k0 : Nat} {es : List V} (hn : σ n = some (.row k0 es)) (hi : i < es.length) {y : V} (h : loadE ag m (nth es i) off = some y) :
    SemOK P (Instr.loadAt t v) w F β σ y σ Av := by
  obtain ⟨b, s, k, sz, hb, rfl⟩ := hv.ptr_inv
  obtain ⟨l, hl, ho, _⟩ := hr.obj n _ hn
  rw [hb] at hl; cases hl
  have hfl : (nth es i).flat.length = k := by obtain ⟨_, cs, T, h1, h2, h3, h4, h5, h6⟩ := ho; exact (h5 i hi).1
  obtain ⟨u, hu, hv⟩ := load_cells (P := P) (p := s + i * k) hag hm hfl (fun j hj => row_cell ho i j hi hj) h
  exact .pure hr (by simpa [Instr.loadAt, Instr.sureAddr] using hu) hv
theorem VRep.fptr_inv {w : World} {F : Nat → Prop} {β : Beta} {v : Value} {es : List V} {k i o : Nat} (h : VRep w F β v (.fptr k es i o)) :
    ∃ b off, v = .pointer (some ⟨b, off + i * k + o, none⟩) ∧ i < es.length ∧ o < k ∧ (nth es i).flat.length = k ∧
      (∀ j, j < k → ∃ u, w.cell? ⟨b, off + i * k + j, none⟩ = some u ∧ VRep w F β u (nth (nth es i).flat j)) := by
  cases h with
  | fr h =>
    cases h with
    | fptr us hi ho hF hflat hcell hrep =>
      exact ⟨_, _, rfl, hi, ho, (hflat i hi).1, fun j hj => ⟨_, hcell i j hi hj, .fr (hrep i j hi hj)⟩⟩
theorem load_fptr {P : Program} {w : World} {F : Nat → Prop} {β : Beta} {σ : Sig} {Av : Nat → Prop} (hr : Rep w F β σ Av) {t : TypeId} {ag : Bool} {m : Nat} (hag : tAgg P t = some ag) (hm : tSize P t = some m)
    {v : Value} {es : List V} {k i off : Nat} (hv : VRep w F β v (.fptr k es i off)) {y : V} (h : loadE ag m (nth es i) off = some y) :
    SemOK P (Instr.loadAt t v) w F β σ y σ Av := by
  obtain ⟨b, s, rfl, hi, _, hfl, hc⟩ := hv.fptr_inv
  obtain ⟨u, hu, hv⟩ := load_cells (P := P) (p := s + i * k) hag hm hfl hc h
  exact .pure hr (by simpa [Instr.loadAt, Instr.sureAddr] using hu) hv
def setFlat (x : V) (off : Nat) (ys : List V) : V :=
  match x with
  | .agg cs => .agg (cs.take off ++ ys ++ cs.drop (off + ys.length))
  | _ => nth ys 0
theorem setFlat_flat {x : V} {off : Nat} {ys : List V} (h1 : ∀ y ∈ ys, one y = true) (h0 : 0 < ys.length) (hle : off + ys.length ≤ x.flat.length) :
    (setFlat x off ys).flat = x.flat.take off ++ ys ++ x.flat.drop (off + ys.length) := by
  unfold setFlat
  have key : ∀ x' : V, x'.flat = [x'] → setFlat x' off ys = nth ys 0 → off + ys.length ≤ x'.flat.length → (nth ys 0).flat = x'.flat.take off ++ ys ++ x'.flat.drop (off + ys.length) := by
    intro x' hf _ hle
    rw [hf] at hle ⊢
    simp only [List.length_singleton] at hle
    have e1 : off = 0 := by omega
    subst e1
    match ys, h0, h1 with
    | [y], _, h1 => simp [nth, flat_one (h1 y (by simp))]
    | _ :: _ :: _, _, _ => simp at hle
  cases x with
  | agg cs => rfl
  | _ => exact key _ rfl rfl hle
theorem setFlat_length {x : V} {off : Nat} {ys : List V} (h1 : ∀ y ∈ ys, one y = true) (h0 : 0 < ys.length) (hle : off + ys.length ≤ x.flat.length) :
    (setFlat x off ys).flat.length = x.flat.length := by
  rw [setFlat_flat h1 h0 hle]; simp; omega
theorem setFlat_one {x : V} {off : Nat} {ys : List V} (h1 : ∀ y ∈ ys, one y = true) (h0 : 0 < ys.length) (hle : off + ys.length ≤ x.flat.length) (hx : ∀ c ∈ x.flat, one c = true) :
    ∀ c ∈ (setFlat x off ys).flat, one c = true := by
  rw [setFlat_flat h1 h0 hle]
  intro c hc
  simp only [List.mem_append] at hc
  rcases hc with (hc | hc) | hc
  · exact hx c (List.mem_of_mem_take hc)
  · exact h1 c hc
  · exact hx c (List.mem_of_mem_drop hc)
theorem vrep_cells {w : World} {F : Nat → Prop} {β : Beta} {v : Value} {y : V} (h : VRep w F β v y) (h1 : ∀ c ∈ y.flat, one c = true) :
    v.cells.size = y.flat.length ∧ ∀ j, j < y.flat.length → VRep w F β (v.cells.getD j undef) (nth y.flat j) := by
  by_cases hy : one y = true
  · have hc := oneCell_of_vrep h hy
    have : v.cells = #[v] := by cases v <;> first | rfl | simp [Value.oneCell'] at hc
    rw [this, flat_one hy]
    refine ⟨rfl, fun j hj => ?_⟩
    have : j = 0 := by simpa using hj
    subst this; exact h
  · cases y with
    | agg cs =>
      cases h with
      | fr h => cases h with | agg hl hh => exact ⟨hl, fun j hj => .fr (hh j hj)⟩
      | agg hl hh => exact ⟨hl, hh⟩
    | tup cs => have := h1 (.tup cs) (by simp [V.flat]); simp [one] at this
    | undef => have := h1 .undef (by simp [V.flat]); simp [one] at this
    | cond b x => have := h1 (.cond b x) (by simp [V.flat]); simp [one] at this
    | _ => simp [one] at hy
end
section
open Go
def splice (cs : Array Value) (p : Nat) (news : List Value) : Array Value := (cs.toList.take p ++ news ++ cs.toList.drop (p + news.length)).toArray
theorem splice_size (cs : Array Value) (p : Nat) (news : List Value) (h : p + news.length ≤ cs.size) : (splice cs p news).size = cs.size := by
  simp [splice]; omega
theorem splice_getD (cs : Array Value) (p : Nat) (news : List Value) (h : p + news.length ≤ cs.size) (q : Nat) :
    (splice cs p news).getD q undef = if q < p then cs.getD q undef else if q < p + news.length then news.getD (q - p) undef else cs.getD q undef := by
  have hg : ∀ (a : Array Value) (q : Nat), a.getD q undef = (a.toList[q]?).getD undef := by
    intro a q
    simp [Array.getD_eq_getD_getElem?]
  rw [hg]
  simp only [splice, List.append_assoc, List.getElem?_append, List.length_take, Array.length_toList]
  have hm : min p cs.size = p := by omega
  rw [hm]
  by_cases h1 : q < p
  · simp [h1, hg]
  · simp only [h1, if_false]
    by_cases h2 : q < p + news.length
    · have : q - p < news.length := by omega
      simp [h2, this]
    · have h3 : ¬ q - p < news.length := by omega
      simp only [h3, if_false, h2, hg]
      rw [List.getElem?_drop]
      congr 2
      omega
theorem place_cases {k i j i' off m : Nat} (hj : j < k) (hm : off + m ≤ k) (h : i' ≠ i) : i' * k + j < i * k + off ∨ i * k + off + m ≤ i' * k + j := by
  rcases Nat.lt_or_gt_of_ne h with h | h
  · left
    have : (i' + 1) * k ≤ i * k := Nat.mul_le_mul_right _ h
    rw [Nat.succ_mul] at this; omega
  · right
    have : (i + 1) * k ≤ i' * k := Nat.mul_le_mul_right _ h
    rw [Nat.succ_mul] at this; omega
theorem nth_set (l : List V) (i j : Nat) (x : V) (hi : i < l.length) : nth (l.set i x) j = if j = i then x else nth l j := by
  simp only [nth, List.getD, List.getElem?_set]
  by_cases h : i = j
  · subst h; simp [hi]
  · simp [h, Ne.symm h]
theorem nth_append (a b : List V) (j : Nat) : nth (a ++ b) j = if j < a.length then nth a j else nth b (j - a.length) := by
  simp only [nth, List.getD, List.getElem?_append]
  split <;> rfl
theorem nth_take (a : List V) (m j : Nat) (h : j < m) : nth (a.take m) j = nth a j := by simp only [nth, List.getD, List.getElem?_take_of_lt h]
theorem nth_drop (a : List V) (m j : Nat) : nth (a.drop m) j = nth a (m + j) := by simp only [nth, List.getD, List.getElem?_drop]
theorem nth_mid (l ys : List V) (off j : Nat) (h : off + ys.length ≤ l.length) :
    nth (l.take off ++ ys ++ l.drop (off + ys.length)) j = if j < off then nth l j else if j < off + ys.length then nth ys (j - off) else nth l j := by
  have e : (l.take off).length = off := by rw [List.length_take]; omega
  rw [List.append_assoc, nth_append, nth_append, e]
  by_cases h1 : j < off
  · simp [h1, nth_take]
  · simp only [h1, if_false]
    by_cases h2 : j < off + ys.length
    · rw [if_pos (by omega), if_pos h2]
    · rw [if_neg (by omega), if_neg h2, nth_drop]; congr 1; omega
theorem store_ptr {P : Program} {w : World} {F : Nat → Prop} {β : Beta} {σ : Sig} {Av : Nat → Prop} (hr : Rep w F β σ Av) {t : TypeId} {m : Nat} (hm : tSize P t = some m)
    {v u : Value} {n i off : Nat} (hv : VRep w F β v (.ptr n i off)) {k : Nat} {es : List V} (hn : σ n = some (.row k es)) (hi : i < es.length) {y : V} (hu : VRep w F β u y)
    (h1 : ∀ c ∈ y.flat, one c = true) (hlen : y.flat.length = m) (h0 : 0 < m) (hoff : off + m ≤ (nth es i).flat.length) :
    ∃ w', (Instr.storeAt t v u).run P w = .ok () w' ∧ Rep w' F β (upd σ n (some (.row k (es.set i (setFlat (nth es i) off y.flat))))) Av ∧
      Evolve w F β σ w' F β (upd σ n (some (.row k (es.set i (setFlat (nth es i) off y.flat))))) := by
  obtain ⟨b, s, k', sz, hb, rfl⟩ := hv.ptr_inv
  obtain ⟨l, hl, ho, _⟩ := hr.obj n _ hn
  rw [hb] at hl; cases hl
  obtain ⟨rfl, cs, T, hcs, hsz, hk, hfit, hflat, hc⟩ := ho
  obtain ⟨hcu, hcv⟩ := vrep_cells hu h1
  have hki := (hflat i hi).1
  have hp : s + i * k + off + u.cells.toList.length ≤ cs.size := by
    have : (i + 1) * k ≤ es.length * k := Nat.mul_le_mul_right _ hi
    rw [Nat.succ_mul] at this
    simp only [Array.length_toList]; omega
  have hone : ∀ x ∈ u.cells.toList, x.oneCell' = true := by
    intro x hx
    obtain ⟨j, hj, rfl⟩ := List.getElem_of_mem hx
    simp only [Array.length_toList] at hj
    have := hcv j (by omega)
    have hyj : one (nth y.flat j) = true := h1 _ (by simp [nth, List.getD, List.getElem?_eq_getElem (show j < y.flat.length by omega)])
    have h2 := oneCell_of_vrep this hyj
    simpa [Array.getD, hj] using h2
  refine ⟨w.setRow b (splice cs (s + i * k + off) u.cells.toList), ?_, ?_⟩
  · have hst := run_storeCells_at P b (s + i * k + off) T u.cells.toList 0 cs w hcs (by omega) hone
    have hsize : u.cells.size = m := by omega
    have : (storeVar t ⟨b, s + i * k + off, none⟩ u).run P w = .ok () (w.setRow b (splice cs (s + i * k + off) u.cells.toList)) := by
      simp only [storeVar, Sem.run_bind, run_sizeOf hm, Result.andThen_ok, hsize, ne_eq, not_true, if_false]
      simpa [splice] using hst
    simpa [Instr.storeAt, Instr.sureAddr] using this
  · have hk' : (setFlat (nth es i) off y.flat).flat.length = k := by rw [setFlat_length h1 (by omega) (by omega), hki]
    have hflat' : ∀ i', i' < (es.set i (setFlat (nth es i) off y.flat)).length → okE k (nth (es.set i (setFlat (nth es i) off y.flat)) i') := by
      intro i' hi'
      rw [List.length_set] at hi'
      rw [nth_set _ _ _ _ hi]
      split
      · exact ⟨hk', setFlat_one h1 (by omega) (by omega) (hflat i hi).2⟩
      · exact hflat i' hi'
    refine hr.write_row hn hb hcs _ ((splice_size _ _ _ hp).trans hsz) _ hk (by rw [List.length_set]; exact hfit) hflat' ?_
    intro i' j hi' hj
    rw [List.length_set] at hi'
    rw [splice_getD _ _ _ hp, nth_set _ _ _ _ hi]
    simp only [Array.length_toList]
    by_cases he : i' = i
    · subst he
      simp only [if_true]
      rw [setFlat_flat h1 (by omega) (by omega), nth_mid _ _ _ _ (by omega)]
      by_cases a1 : j < off
      · rw [if_pos (by omega), if_pos a1]; exact hc i' j hi' hj
      · rw [if_neg (by omega), if_neg a1]
        by_cases a2 : j < off + m
        · rw [if_pos (by omega), if_pos (by omega)]
          have h3 := hcv (j - off) (by omega)
          rw [show s + i' * k + j - (s + i' * k + off) = j - off by omega]
          have e : u.cells.toList.getD (j - off) undef = u.cells.getD (j - off) undef := by simp [Array.getD_eq_getD_getElem?, List.getD]
          rw [e]; exact h3
        · rw [if_neg (by omega), if_neg (by omega)]; exact hc i' j hi' hj
    · rw [if_neg he]
      rcases place_cases (i := i) hj (show off + m ≤ k by omega) he with h | h
      · rw [if_pos (by omega)]; exact hc i' j hi' hj
      · rw [if_neg (by omega), if_neg (by omega)]; exact hc i' j hi' hj
theorem new_var {P : Program} {w : World} {F : Nat → Prop} {β : Beta} {σ : Sig} {Av : Nat → Prop} (hr : Rep w F β σ Av) {nn : Nat} (hnn : Av nn) (t : TypeId) {u : Value} {y : V} (hu : VRep w F β u y)
    (h1 : ∀ c ∈ y.flat, one c = true) (h0 : 0 < y.flat.length) :
    SemOK P (do pure (.pointer (some (← newVar t u)))) w F β σ (.ptr nn 0 0) (upd σ nn (some (.row y.flat.length [y]))) (fun n => Av n ∧ n ≠ nn) := by
  obtain ⟨hcu, hcv⟩ := vrep_cells hu h1
  have hR := hr.alloc_row hnn u.cells t y.flat.length [y] h0 (by simp [hcu]) (fun i hi => by simp at hi; subst hi; exact ⟨rfl, h1⟩)
    (fun i j hi hj => by simp at hi; subst hi; simpa using hcv j hj)
  refine ⟨.pointer (some ⟨w.heap.size, 0, none⟩), _, F, _, ?_, hR.1, ?_, hR.2⟩
  · simp [newVar, newRow]
  · have h := VRep.ptr (w := w.alloc (.cells u.cells t)) (F := F) (β := upd β nn (some (.at w.heap.size 0 y.flat.length u.cells.size))) (n := nn) (i := 0) (off := 0) (upd_same _ _ _)
    simpa using h
end
section
open Go
inductive X where
  | t (n : Nat)
  | c (v : V)
  deriving Inhabited
inductive IOp where
  | mov (x : X)
  | pick (c a b : X)
  | bin (op : BinOp) (bl : Bool) (x y : X)
  | un (op : UnOp) (x : X)
  | conv (k : IntKind) (x : X)
  | bytes (x : X)
  | alloc (zero : V)
  | box (x : X)
  | build (zero : List V) (parts : List (Nat × Nat × X))
  | bslice (k : Nat) (zero : V) (len : Nat) (parts : List (Nat × X))
  | load (ag : Bool) (m : Nat) (x : X)
  | store (m : Nat) (x y : X)
  | nilchk (x : X)
  | slc (k : Nat) (x : X) (lo hi mx : Option X)
  | sslc (x : X) (lo hi : Option X)
  | sla (n : Nat) (x : X) (lo hi : Option X)
  | strb (x : X)
  | faddr (off : Nat) (x : X)
  | fld (ag : Bool) (m off : Nat) (x : X)
  | iaddr (k : Nat) (x i : X)
  | aaddr (n k : Nat) (x i : X)
  | aidx (ag : Bool) (m n : Nat) (x i : X)
  | sidx (x i : X)
  | app (k bytes : Nat) (x y : X)
  | len (kd : Nat) (x : X)
  | max2 (x y : X)
  | min2 (x y : X)
  | call (f : Nat) (args : List X)
  | dyn (f : X) (args : List X)
  | mkfn (f : Fn) (first caps : List X)
  | ext (i : Nat) (x : X)
  | miface (t : TypeId) (x : X)
  | mkslice (k bytes : Nat) (zero : V) (len cap : X)
  | copy (k : Nat) (x y : X)
  | mkmap
  | rng (x : X)
  | nxt (x : X)
  | ent (x : X)
  | mapset (ks : Bool) (x key val : X)
  | lookup (ks : Bool) (zero : V) (ok : Bool) (x key : X)
  | mapset2 (x key val : X)
  | lookup2 (zero : V) (ok : Bool) (x key : X)
  | bad
  deriving Inhabited
def ofVal1 (v : Value) : V :=
  match v with
  | .slice none 0 0 => .emp
  | v => if pl v then .p v else .undef
def ofVal (v : Value) : V :=
  match v with
  | .agg cs => .agg (cs.toList.map ofVal1)
  | v => ofVal1 v
def toX : Operand → X
  | .tmp t => .t t
  | .const v => .c (ofVal v)
  | .func f => .c (.fn (.func f) [] [])
  | .global g => .c (globV g)
def placesOf (P : Program) (fields : List Field) : Option (List (Nat × Nat)) := fields.mapM fun f => (tSize P f.type).map fun m => (f.offset, m)
def partsAt (place : Nat → Option (Nat × Nat)) (parts : List (Nat × Operand)) : Option (List (Nat × Nat × X)) :=
  parts.mapM fun ix => (place ix.1).map fun om => (om.1, om.2, toX ix.2)
def partsOf (P : Program) (t : TypeId) (parts : Array (Nat × Operand)) : Option (List (Nat × Nat × X)) :=
  match P.underlying t with
  | some (.struct fields) => (placesOf P fields.toList).bind fun pl => partsAt (pl[·]?) parts.toList
  | some (.array _ elem) => (tSize P elem).bind fun m => partsAt (fun i => some (i * m, m)) parts.toList
  | _ => none
def tZero (P : Program) (t : TypeId) : Option V := (P.info? t).bind fun i => i.zero.map ofVal
def elemInfo (P : Program) (t : TypeId) : Option (Nat × Nat × V) :=
  match P.underlying t with
  | some (.slice e) => do
    let i ← P.info? e
    let z ← i.zero
    if z.cells.size = i.size ∧ 0 < i.size then pure (i.size, i.bytes, ofVal z) else none
  | _ => none
def compileOp? (P : Program) (o : Op) : Option IOp :=
  match o with
  | .move x | .assign x => some (.mov (toX x))
  | .pick c a b => some (.pick (toX c) (toX a) (toX b))
  | .alloc e => do let z ← tZero P e; pure (.alloc z)
  | .box _ x => some (.box (toX x))
  | .build t ps => do
      let i ← P.info? t
      let z ← i.zero
      let l ← partsOf P t ps
      match z with | .agg cs => pure (.build (cs.toList.map ofVal1) l) | _ => none
  | .buildSlice t n ps => do
      let (k, _, z) ← elemInfo P t
      if n * k ≤ 2 ^ 24 then pure (.bslice k z n (ps.toList.map fun ix => (ix.1, toX ix.2))) else none
  | .load t x => do let ag ← tAgg P t; let m ← tSize P t; pure (.load ag m (toX x))
  | .store t x y => do let m ← tSize P t; pure (.store m (toX x) (toX y))
  | .nilCheck x => some (.nilchk (toX x))
  | .binOp op t x y _ => some (.bin op (match P.underlying t with | some .bool => true | _ => false) (toX x) (toX y))
  | .unOp op _ x => some (.un op (toX x))
  | .convert s d x => do
      let us ← P.underlying s
      let ud ← P.underlying d
      match us, ud with
      | .int _, .int k => pure (.conv k (toX x))
      | .string, .slice e => (match P.underlying e with | some (.int .u8) => pure (.bytes (toX x)) | _ => none)
      | .slice e, .string => (match P.underlying e with | some (.int .u8) => pure (.strb (toX x)) | _ => none)
      | _, _ => none
  | .slice t x lo hi mx => (match P.underlying t with
      | some (.slice e) => do let k ← tSize P e; pure (.slc k (toX x) (lo.map toX) (hi.map toX) (mx.map toX))
      | some .string => if mx.isSome then none else some (.sslc (toX x) (lo.map toX) (hi.map toX))
      | some (.array n e) => (match tSize P e, mx with
          | some 1, none => some (.sla n (toX x) (lo.map toX) (hi.map toX))
          | _, _ => none)
      | _ => none)
  | .fieldAddr t x f => (match P.underlying t with
      | some (.struct fields) => do
          let fl ← fields[f]?
          let m ← tSize P fl.type
          if m = 0 then none else pure (.faddr fl.offset (toX x))
      | _ => none)
  | .field t x f => (match P.underlying t with
      | some (.struct fields) => do
          let fl ← fields[f]?
          let ag ← tAgg P fl.type
          let m ← tSize P fl.type
          pure (.fld ag m fl.offset (toX x))
      | _ => none)
  | .indexAddr t x i => (match P.underlying t with
      | some (.slice e) => do let k ← tSize P e; pure (.iaddr k (toX x) (toX i))
      | some (.array n e) => do let k ← tSize P e; pure (.aaddr n k (toX x) (toX i))
      | _ => none)
  | .index t x i => (match P.underlying t with
      | some (.array n e) => do let ag ← tAgg P e; let k ← tSize P e; pure (.aidx ag k n (toX x) (toX i))
      | some .string => pure (.sidx (toX x) (toX i))
      | _ => none)
  | .extract x i => some (.ext i (toX x))
  | .makeFunc f a b => some (.mkfn f (a.toList.map toX) (b.toList.map toX))
  | .makeInterface t x => (match P.underlying t with
      | some (.interface _) | none => none
      | _ => some (.miface t (toX x)))
  | .makeSlice t l c => do let (k, by_, z) ← elemInfo P t; pure (.mkslice k by_ z (toX l) (toX c))
  | .makeMap t none => (match P.underlying t with | some (.map _ _) => some .mkmap | _ => none)
  | .range t x => (match P.underlying t with | some (.map _ _) => some (.rng (toX x)) | _ => none)
  | .next x false => some (.nxt (toX x))
  | .entry x => some (.ent (toX x))
  | .mapUpdate t m k v => (match P.underlying t with
      | some (.map kt _) => (match P.underlying kt with | some .string => some (.mapset true (toX m) (toX k) (toX v)) | some (.int _) => some (.mapset false (toX m) (toX k) (toX v)) | some (.array n e) => (match decide (n = 2), P.underlying e, tSize P e with | true, some .string, some 1 => some (.mapset2 (toX m) (toX k) (toX v)) | _, _, _ => none) | _ => none)
      | _ => none)
  | .lookup t m k ok => (match P.underlying t with
      | some (.map kt et) => (match P.underlying kt with | some .string => (tZero P et).map fun z => .lookup true z ok (toX m) (toX k) | some (.int _) => (tZero P et).map fun z => .lookup false z ok (toX m) (toX k) | some (.array n e) => (match decide (n = 2), P.underlying e, tSize P e with | true, some .string, some 1 => (tZero P et).map fun z => .lookup2 z ok (toX m) (toX k) | _, _, _ => none) | _ => none)
      | _ => none)
  | .call c => (match c.callee with
      | .value (.func f) => some (.call f (c.args.toList.map toX))
      | .value x => some (.dyn (toX x) (c.args.toList.map toX))
      | .builtin .append => (match c.args.toList, c.argTypes.toList with
          | [x, y], [t, u] => (match P.underlying u with
              | some (.slice _) | some .string => do let (k, by_, _) ← elemInfo P t; pure (.app k by_ (toX x) (toX y))
              | _ => none)
          | _, _ => none)
      | .builtin .copy => (match c.args.toList, c.argTypes.toList with
          | [x, y], [t, _] => do let (k, _, _) ← elemInfo P t; pure (.copy k (toX x) (toX y))
          | _, _ => none)
      | .builtin .len => (match c.args.toList, c.argTypes.toList with
          | [x], [t] => (match P.underlying t with
              | some (.slice _) => some (.len 0 (toX x))
              | some .string => some (.len 1 (toX x))
              | some (.map _ _) => some (.len 2 (toX x))
              | some (.array n _) => some (.len (3 + n) (toX x))
              | _ => none)
          | _, _ => none)
      | .builtin .max => (match c.args.toList with | [x, y] => some (.max2 (toX x) (toX y)) | _ => none)
      | .builtin .min => (match c.args.toList with | [x, y] => some (.min2 (toX x) (toX y)) | _ => none)
      | _ => none)
  | _ => none
end
section
open Go
abbrev Objs := List (Option AObj)
abbrev Fr := List (Nat × V)
def oget (objs : Objs) (n : Nat) : Option AObj := objs.getD n none
def fget : Fr → Nat → V
  | [], _ => .undef
  | (t, v) :: r, u => match Nat.decEq t u with | .isTrue _ => v | .isFalse _ => fget r u
inductive Eff where
  | none
  | new (o : AObj)
  | set (n : Nat) (o : AObj)
  | mv (n : Nat) (o : AObj)
structure Res where
  val : V
  eff : Eff
  vc : Bool
  rd : List Nat
def Res.of (v : V) (vc : Bool := true) : Res := ⟨v, .none, vc, []⟩
def strOf (s : ByteArray) : List UInt8 := s.data.toList
def binV (op : BinOp) (bl : Bool) : Value → Value → Option (Value × Bool)
  | .int k a, .int k' b =>
    match op with
    | .shl => some (.int k (k.wrap (a * 2 ^ (min b.toNat k.bits))), decide (0 ≤ b))
    | .shr => some (.int k (a.fdiv (2 ^ (min b.toNat k.bits))), decide (0 ≤ b))
    | _ =>
      if k = k' then
        match op with
        | .add => some (.int k (k.wrap (a + b)), true)
        | .sub => some (.int k (k.wrap (a - b)), true)
        | .mul => some (.int k (k.wrap (a * b)), true)
        | .quo => some (.int k (k.wrap (a.tdiv b)), decide (b ≠ 0))
        | .rem => some (.int k (a.tmod b), decide (b ≠ 0))
        | .and => some (.int k (k.wrap ((BitVec.ofInt k.bits a &&& BitVec.ofInt k.bits b).toNat)), true)
        | .or => some (.int k (k.wrap ((BitVec.ofInt k.bits a ||| BitVec.ofInt k.bits b).toNat)), true)
        | .xor => some (.int k (k.wrap ((BitVec.ofInt k.bits a ^^^ BitVec.ofInt k.bits b).toNat)), true)
        | .andNot => some (.int k (k.wrap ((BitVec.ofInt k.bits a &&& ~~~ BitVec.ofInt k.bits b).toNat)), true)
        | .eql => some (.bool (a == b), true)
        | .neq => some (.bool (a != b), true)
        | .lss => some (.bool (decide (a < b)), true)
        | .leq => some (.bool (decide (a ≤ b)), true)
        | .gtr => some (.bool (decide (b < a)), true)
        | .geq => some (.bool (decide (b ≤ a)), true)
        | _ => none
      else none
  | .string a, .string b =>
    match op with
    | .add => some (.string (a ++ b), decide (a.size + b.size ≤ 9223372036854775807))
    | .eql => some (.bool (strOf a == strOf b), true)
    | .neq => some (.bool (!(strOf a == strOf b)), true)
    | .lss => some (.bool (Op.bytesLess (strOf a) (strOf b)), true)
    | .leq => some (.bool (Op.bytesLess (strOf a) (strOf b) || strOf a == strOf b), true)
    | .gtr => some (.bool (!(Op.bytesLess (strOf a) (strOf b) || strOf a == strOf b)), true)
    | .geq => some (.bool (!Op.bytesLess (strOf a) (strOf b)), true)
    | _ => none
  | .bool a, .bool b =>
    match bl, op with
    | true, .eql => some (.bool (a == b), true)
    | true, .neq => some (.bool (!(a == b)), true)
    | _, _ => none
  | _, _ => none
def elemsOf (k : Nat) (g : Nat → Option AObj) : V → Option (List V × List Nat × Bool)
  | .emp => some ([], [], true)
  | .sl k' es => match Nat.decEq k k' with | .isTrue _ => some (es, [], true) | .isFalse _ => none
  | .own n off len => match g n with
    | some (.row k' es) => match Nat.decEq k k' with | .isTrue _ => some ((es.drop off).take len, [n], decide (off + len ≤ es.length)) | .isFalse _ => none
    | _ => none
  | .p (.string s) => match Nat.decEq k 1 with | .isTrue _ => some ((strOf s).map fun b => .p (.int .u8 b.toNat), [], true) | .isFalse _ => none
  | _ => none
def bounds (ρ : X → V) (len : Nat) (lo hi : Option X) : Option (Nat × Nat × Bool) :=
  match lo, hi with
  | none, none => some (0, len, true)
  | some l, none => match ρ l with | .p (.int _ a) => some (a.toNat, len, decide (0 ≤ a ∧ a ≤ (len : Int))) | _ => none
  | none, some h => match ρ h with | .p (.int _ b) => some (0, b.toNat, decide (0 ≤ b ∧ b ≤ (len : Int))) | _ => none
  | some l, some h => match ρ l, ρ h with
    | .p (.int _ a), .p (.int _ b) => some (a.toNat, b.toNat, decide (0 ≤ a ∧ a ≤ b ∧ b ≤ (len : Int)))
    | _, _ => none
def putCells (cs : List V) (off : Nat) (ys : List V) : List V := cs.take off ++ ys ++ cs.drop (off + ys.length)
def buildGo (ρ : X → V) : List (Nat × Nat × X) → List V → Bool → List V × Bool
  | [], cs, vc => (cs, vc)
  | (off, m, x) :: r, cs, vc => buildGo ρ r (putCells cs off (ρ x).flat) (vc && (ρ x).flat.all one && decide ((ρ x).flat.length = m) && decide (off + m ≤ cs.length))
def bsliceGo (ρ : X → V) (k : Nat) : List (Nat × X) → List V → Bool → List V × Bool
  | [], es, vc => (es, vc)
  | (i, x) :: r, es, vc => bsliceGo ρ k r (es.set i (ρ x)) (vc && (ρ x).flat.all one && decide ((ρ x).flat.length = k) && decide (i < es.length))
def keyEq : Value → V → Option Bool
  | .string a, .p (.string b) => some (strOf a == strOf b)
  | .int k a, .p (.int k' b) => match k == k' with | true => some (a == b) | false => none
  | _, _ => none
def mfind (k : Value) : List (V × V) → Option (Option V)
  | [] => some none
  | (x, v) :: r => match keyEq k x with
    | some true => some (some v)
    | some false => mfind k r
    | none => none
def mset (k : Value) (v : V) : List (V × V) → Option (List (V × V))
  | [] => some [(.p k, v)]
  | (x, u) :: r => match keyEq k x with
    | some true => some ((.p k, v) :: r)
    | some false => (mset k v r).map ((x, u) :: ·)
    | none => none
def strs2 : V → Option (ByteArray × ByteArray)
  | .agg [.p (.string a), .p (.string b)] => some (a, b)
  | _ => none
def akeyEq (k : ByteArray × ByteArray) (x : V) : Option Bool := match strs2 x with
  | some y => some ((strOf k.1 == strOf y.1) && (strOf k.2 == strOf y.2))
  | none => none
def amfind (k : ByteArray × ByteArray) : List (V × V) → Option (Option V)
  | [] => some none
  | (x, v) :: r => match akeyEq k x with
    | some true => some (some v)
    | some false => amfind k r
    | none => none
def amset (kx : V) (k : ByteArray × ByteArray) (v : V) : List (V × V) → Option (List (V × V))
  | [] => some [(kx, v)]
  | (x, u) :: r => match akeyEq k x with
    | some true => some ((kx, v) :: r)
    | some false => (amset kx k v r).map ((x, u) :: ·)
    | none => none
def keyFits : Bool → Value → Bool
  | true, .string _ => true
  | false, .int _ _ => true
  | _, _ => false
def byteV : V → Option UInt8
  | .p (.int .u8 n) => some (UInt8.ofNat n.toNat)
  | _ => none
def bytesOfL : List V → Option (List UInt8)
  | [] => some []
  | x :: r => match byteV x, bytesOfL r with
    | some b, some l => some (b :: l)
    | _, _ => none
def slOf : V → Bool
  | .emp | .sl _ _ | .own _ _ _ => true
  | _ => false
def pickB (c a b : Bool) : Bool :=
  match a, b with
  | true, b => c || b
  | a, false => c && a
  | false, true => !c
def isem (op : IOp) (ρ : X → V) (g : Nat → Option AObj) (nn : Nat) : Option Res :=
  match op with
  | .mov x => some (.of (ρ x))
  | .pick c a b => match ρ c, ρ a, ρ b with
    | .p (.bool c), .p (.bool a), .p (.bool b) => some (.of (.p (.bool (pickB c a b))))
    | _, _, _ => none
  | .bin op bl x y => match ρ x, ρ y with
    | .p a, .p b => match binV op bl a b with
      | some (v, vc) => some (.of (.p v) vc)
      | none => none
    | _, _ => none
  | .un .not x => match ρ x with
    | .p (.bool b) => some (.of (.p (.bool (!b))))
    | _ => none
  | .un .neg x => match ρ x with
    | .p (.int k n) => some (.of (.p (.int k (k.wrap (0 - n)))))
    | _ => none
  | .conv k x => match ρ x with
    | .p (.int _ n) => some (.of (.p (.int k (k.wrap n))))
    | _ => none
  | .alloc z => match z with
    | .undef => none
    | z => some ⟨.ptr nn 0 0, .new (.row z.flat.length [z]), z.flat.all one && decide (0 < z.flat.length), []⟩
  | .box x => some ⟨.ptr nn 0 0, .new (.row (ρ x).flat.length [ρ x]), (ρ x).flat.all one && decide (0 < (ρ x).flat.length), []⟩
  | .build z ps => match buildGo ρ ps z true with | (cs, vc) => some (.of (.agg cs) vc)
  | .bslice k z n ps =>
    match n with
    | 0 => match ps with | [] => some (.of .emp) | _ => none
    | _ => match bsliceGo ρ k ps (List.replicate n z) (z.flat.all one && decide (z.flat.length = k) && decide (0 < k)) with
      | (es, vc) => some ⟨.own nn 0 n, .new (.row k es), vc, []⟩
  | .load ag m x => match ρ x with
    | .ptr n i off => match g n with
      | some (.row _ es) => match loadE ag m (nth es i) off with
        | some y => some ⟨y, .none, decide (i < es.length), [n]⟩
        | none => none
      | _ => none
    | .fptr _ es i off => match loadE ag m (nth es i) off with
      | some y => some (.of y)
      | none => none
    | _ => none
  | .store m x y => match ρ x with
    | .ptr n i off => match g n with
      | some (.row k es) => some ⟨.undef, .set n (.row k (es.set i (setFlat (nth es i) off (ρ y).flat))),
          decide (i < es.length) && (ρ y).flat.all one && decide ((ρ y).flat.length = m) && decide (0 < m) && decide (off + m ≤ (nth es i).flat.length), [n]⟩
      | _ => none
    | _ => none
  | .nilchk x => match ρ x with
    | .ptr n i o => some (.of (.ptr n i o))
    | .fptr k es i o => some (.of (.fptr k es i o))
    | .fn f a b => match f with | .func _ => some (.of (.fn f a b)) | _ => none
    | _ => none
  | .slc k x lo hi mx => match mx with
    | some m => match ρ m, hi with
      | .p (.int _ 0), some h => match ρ h, lo with
        | .p (.int _ 0), none => match ρ x with
          | .sl _ _ | .emp | .own _ _ _ => some (.of .emp)
          | _ => none
        | _, _ => none
      | _, _ => none
    | none => match ρ x with
      | .sl k' es => match Nat.decEq k k' with
        | .isTrue _ => match bounds ρ es.length lo hi with
          | some (l, h, vc) => some (.of (.sl k ((es.drop l).take (h - l))) vc)
          | none => none
        | .isFalse _ => none
      | .emp => match bounds ρ 0 lo hi with
        | some (_, _, vc) => some (.of .emp vc)
        | none => none
      | .own n off len => match g n with
        | some (.row k' _) => match Nat.decEq k k' with
          | .isTrue _ => match bounds ρ len lo hi with
            | some (l, h, vc) => some ⟨.own n (off + l) (h - l), .none, vc && (decide (l < h) || decide (l = 0)), [n]⟩
            | none => none
          | .isFalse _ => none
        | _ => none
      | _ => none
  | .sslc x lo hi => match ρ x with
    | .p (.string s) => match bounds ρ s.size lo hi with
      | some (l, h, vc) => some (.of (.p (.string (s.extract l h))) vc)
      | none => none
    | _ => none
  | .sla n x lo hi => match ρ x with
    | .fptr k es i o => match Nat.decEq k n, bounds ρ n lo hi with
      | .isTrue _, some (l, h, vc) => some (.of (.sl 1 (((nth es i).flat.drop l).take (h - l))) (vc && decide (o = 0)))
      | _, _ => none
    | _ => none
  | .strb x => match slOf (ρ x) with
    | true => match elemsOf 1 g (ρ x) with
      | some (es, rd, vc) => match bytesOfL es with
        | some l => some ⟨.p (.string ⟨⟨l⟩⟩), .none, vc, rd⟩
        | none => none
      | none => none
    | false => none
  | .faddr o x => match ρ x with
    | .ptr n i off => some (.of (.ptr n i (off + o)))
    | .fptr k es i off => some (.of (.fptr k es i (off + o)) (decide (off + o < k)))
    | _ => none
  | .fld ag m off x => match ρ x with
    | .agg cs => match loadE ag m (.agg cs) off with
      | some y => some (.of y)
      | none => none
    | _ => none
  | .iaddr k x i => match ρ x, ρ i with
    | .sl k' es, .p (.int _ q) => match Nat.decEq k k' with
      | .isTrue _ => some (.of (.fptr k es q.toNat 0) (decide (0 ≤ q ∧ q < (es.length : Int))))
      | .isFalse _ => none
    | .own n off len, .p (.int _ q) => match g n with
      | some (.row k' _) => match Nat.decEq k k' with
        | .isTrue _ => some ⟨.ptr n (off + q.toNat) 0, .none, decide (0 ≤ q ∧ q < (len : Int)), [n]⟩
        | .isFalse _ => none
      | _ => none
    | _, _ => none
  | .aaddr n k x i => match ρ x, ρ i with
    | .ptr m j o, .p (.int _ q) => some (.of (.ptr m j (o + q.toNat * k)) (decide (0 ≤ q ∧ q < (n : Int))))
    | .fptr k' es j o, .p (.int _ q) => some (.of (.fptr k' es j (o + q.toNat * k)) (decide (0 ≤ q ∧ q < (n : Int)) && decide (o + q.toNat * k < k')))
    | _, _ => none
  | .aidx ag m n x i => match ρ x, ρ i with
    | .agg cs, .p (.int _ q) => match loadE ag m (.agg cs) (q.toNat * m) with
      | some y => some (.of y (decide (0 ≤ q ∧ q < (n : Int))))
      | none => none
    | _, _ => none
  | .sidx x i => match ρ x, ρ i with
    | .p (.string s), .p (.int _ q) => some (.of (.p (.int .u8 ((strOf s).getD q.toNat 0).toNat)) (decide (0 ≤ q ∧ q < (s.size : Int))))
    | _, _ => none
  | .app k bytes x y => match elemsOf k g (ρ y) with
    | some (news, rd, vc) => match ρ x with
      | .emp => some ⟨.own nn 0 news.length, .new (.row k news), vc && decide (news.length * bytes ≤ 140737488355328) && decide (news.length ≤ 9223372036854775807), rd⟩
      | .own n off len => match g n with
        | some (.row k' es) => match Nat.decEq k k' with
          | .isTrue _ => some ⟨.own nn 0 (len + news.length), .mv n (.row k (es.drop off ++ news)),
              vc && decide (off + len = es.length) && decide ((len + news.length) * bytes ≤ 140737488355328) && decide (len + news.length ≤ 9223372036854775807), n :: rd⟩
          | .isFalse _ => none
        | _ => none
      | _ => none
    | none => none
  | .len kd x => match kd with
    | 0 => match ρ x with
      | .sl _ es => some (.of (.p (.int .i64 es.length)))
      | .emp => some (.of (.p (.int .i64 0)))
      | .own _ _ len => some (.of (.p (.int .i64 len)))
      | _ => none
    | 1 => match ρ x with
      | .p (.string s) => some (.of (.p (.int .i64 s.size)))
      | _ => none
    | 2 => match ρ x with
      | .map n => match g n with
        | some (.mp ents) => some ⟨.p (.int .i64 ents.length), .none, true, [n]⟩
        | _ => none
      | _ => none
    | n + 3 => some (.of (.p (.int .i64 n)))
  | .max2 x y => match ρ x, ρ y with
    | .p (.int k a), .p (.int _ b) => some (.of (.p (.int k (if b > a then b else a))))
    | _, _ => none
  | .mkfn f a b => some (.of (.fn f (a.map ρ) (b.map ρ)))
  | .ext i x => match ρ x with
    | .tup vs => some (.of (nth vs i) (decide (i < vs.length)))
    | _ => none
  | .miface t x => some (.of (.iface t (ρ x)))
  | .mkslice k bytes z l c => match ρ l, ρ c with
    | .p (.int _ a), .p (.int _ b) => some ⟨.own nn 0 a.toNat, .new (.row k (List.replicate a.toNat z)),
        decide (0 ≤ a ∧ a ≤ b ∧ b ≤ 9223372036854775807 ∧ (bytes : Int) * b ≤ 281474976710656) && z.flat.all one && decide (z.flat.length = k) && decide (0 < k), []⟩
    | _, _ => none
  | .mkmap => some ⟨.map nn, .new (.mp []), true, []⟩
  | .lookup ks z ok m key => match ρ m, ρ key with
    | .map n, .p kv => match g n, keyFits ks kv with
      | some (.mp ents), true => match mfind kv ents with
        | some (some v) => some ⟨match ok with | true => .tup [v, .p (.bool true)] | false => v, .none, true, [n]⟩
        | some none => some ⟨match ok with | true => .tup [z, .p (.bool false)] | false => z, .none, true, [n]⟩
        | none => none
      | _, _ => none
    | _, _ => none
  | .mapset ks m key x => match ρ m, ρ key with
    | .map n, .p kv => match g n, keyFits ks kv with
      | some (.mp ents), true => match mset kv (ρ x) ents with
        | some ents' => some ⟨.undef, .set n (.mp ents'), true, [n]⟩
        | none => none
      | _, _ => none
    | _, _ => none
  | .lookup2 z ok m key => match strs2 (ρ key) with
    | none => none
    | some k => match ρ m with
      | .map n => match g n with
        | some (.mp ents) => match amfind k ents with
          | some (some v) => some ⟨match ok with | true => .tup [v, .p (.bool true)] | false => v, .none, true, [n]⟩
          | some none => some ⟨match ok with | true => .tup [z, .p (.bool false)] | false => z, .none, true, [n]⟩
          | none => none
        | _ => none
      | .fmap ks vs => match amfind k (ks.zip vs) with
        | some (some v) => some (.of (match ok with | true => .tup [v, .p (.bool true)] | false => v))
        | some none => some (.of (match ok with | true => .tup [z, .p (.bool false)] | false => z))
        | none => none
      | _ => none
  | .mapset2 m key x => match ρ m, strs2 (ρ key) with
    | .map n, some k => match g n with
      | some (.mp ents) => match amset (ρ key) k (ρ x) ents with
        | some ents' => some ⟨.undef, .set n (.mp ents'), true, [n]⟩
        | none => none
      | _ => none
    | _, _ => none
  | _ => none
end
section
open Go
variable {w : World} {F : Nat → Prop} {β : Beta} {v : Value}
theorem VRep.p_inv {u : Value} (h : VRep w F β v (.p u)) : v = u ∧ pl u = true := by
  cases h with
  | fr h => cases h with | p h => exact ⟨rfl, h⟩
theorem VRep.of_p {u : Value} (h : pl u = true) : VRep w F β u (.p u) := .fr (.p h)
theorem VRep.emp_inv (h : VRep w F β v .emp) : ∃ a, v = .slice a 0 0 := by
  cases h with
  | fr h => cases h with | emp => exact ⟨_, rfl⟩
theorem VRep.agg_inv {cs : List V} (h : VRep w F β v (.agg cs)) : ∃ us, v = .agg us ∧ us.size = cs.length ∧ ∀ j, j < cs.length → VRep w F β (us.getD j Go.undef) (nth cs j) := by
  cases h with
  | fr h => cases h with | agg hl hh => exact ⟨_, rfl, hl, fun j hj => .fr (hh j hj)⟩
  | agg hl hh => exact ⟨_, rfl, hl, hh⟩
theorem VRep.tup_inv {cs : List V} (h : VRep w F β v (.tup cs)) : ∃ us, v = .tuple us ∧ us.size = cs.length ∧ ∀ j, j < cs.length → VRep w F β (us.getD j Go.undef) (nth cs j) := by
  cases h with
  | fr h => cases h with | tup hl hh => exact ⟨_, rfl, hl, fun j hj => .fr (hh j hj)⟩
  | tup hl hh => exact ⟨_, rfl, hl, hh⟩
theorem VRep.fn_inv {f : Fn} {cs ds : List V} (h : VRep w F β v (.fn f cs ds)) : ∃ us vs, v = .func f us vs ∧ us.size = cs.length ∧ vs.size = ds.length ∧
    (∀ j, j < cs.length → VRep w F β (us.getD j Go.undef) (nth cs j)) ∧ (∀ j, j < ds.length → VRep w F β (vs.getD j Go.undef) (nth ds j)) := by
  cases h with
  | fr h => cases h with | fn hl hm hh hg => exact ⟨_, _, rfl, hl, hm, fun j hj => .fr (hh j hj), fun j hj => .fr (hg j hj)⟩
  | fn hl hm hh hg => exact ⟨_, _, rfl, hl, hm, hh, hg⟩
theorem VRep.map_inv {n : Nat} (h : VRep w F β v (.map n)) : ∃ b, v = .map (some b) ∧ β n = some (.mp b) := by
  cases h with
  | fr h => cases h
  | map h => exact ⟨_, rfl, h⟩
theorem VRep.fmap_inv {ks vs : List V} (h : VRep w F β v (.fmap ks vs)) : FRep w F v (.fmap ks vs) := by
  cases h with
  | fr h => exact h
def RowAt (w : World) (F : Nat → Prop) (β : Beta) (b p k : Nat) (es : List V) : Prop :=
  (∀ i, i < es.length → okE k (nth es i)) ∧ ∀ i j, i < es.length → j < k → ∃ u, w.cell? ⟨b, p + i * k + j, none⟩ = some u ∧ VRep w F β u (nth (nth es i).flat j)
theorem RowAt.sub {b p k : Nat} {es : List V} (h : RowAt w F β b p k es) (l m : Nat) (hm : l + m ≤ es.length) : RowAt w F β b (p + l * k) k ((es.drop l).take m) := by
  have e : ∀ i, i < ((es.drop l).take m).length → nth ((es.drop l).take m) i = nth es (l + i) ∧ l + i < es.length := by
    intro i hi
    simp only [List.length_take, List.length_drop] at hi
    exact ⟨nth_drop_take _ _ _ _ (by omega), by omega⟩
  refine ⟨fun i hi => by rw [(e i hi).1]; exact h.1 _ (e i hi).2, fun i j hi hj => ?_⟩
  rw [(e i hi).1]
  obtain ⟨u, h1, h2⟩ := h.2 (l + i) j (e i hi).2 hj
  refine ⟨u, ?_, h2⟩
  rw [← h1]
  congr 2
  rw [Nat.add_mul]; omega
def SlAt (w : World) (F : Nat → Prop) (β : Beta) (k : Nat) (v : Value) (es : List V) : Prop :=
  ∃ a cap, v = .slice a es.length cap ∧ (es = [] ∨ ∃ b p, a = some ⟨b, p, none⟩ ∧ 0 < k ∧ RowAt w F β b p k es)
theorem VRep.sl_at {k : Nat} {es : List V} (h : VRep w F β v (.sl k es)) : SlAt w F β k v es := by
  cases h with
  | fr h =>
    cases h with
    | sl0 => exact ⟨_, _, rfl, .inl rfl⟩
    | sl us hne _ hF hk hflat hcell hrep => exact ⟨_, _, rfl, .inr ⟨_, _, rfl, hk, hflat, fun i j hi hj => ⟨_, hcell i j hi hj, .fr (hrep i j hi hj)⟩⟩⟩
theorem VRep.emp_at {k : Nat} (h : VRep w F β v .emp) : SlAt w F β k v [] := by
  obtain ⟨a, rfl⟩ := h.emp_inv
  exact ⟨_, _, rfl, .inl rfl⟩
theorem VRep.own_inv {n off len : Nat} (h : VRep w F β v (.own n off len)) :
    (∃ b s k sz cap, β n = some (.at b s k sz) ∧ len ≤ cap ∧ s + (off + cap) * k ≤ sz ∧ v = .slice (some ⟨b, s + off * k, none⟩) len cap) ∨
    (β n = some .virt ∧ off = 0 ∧ len = 0 ∧ ∃ a, v = .slice a 0 0) := by
  cases h with
  | fr h => cases h
  | own h h1 h2 => exact .inl ⟨_, _, _, _, _, h, h1, h2, rfl⟩
  | ownv h => exact .inr ⟨h, rfl, rfl, _, rfl⟩
theorem ORep.row_at {b s k k' sz : Nat} {es : List V} (h : ORep w F β (.at b s k sz) (.row k' es)) : RowAt w F β b s k es := by
  obtain ⟨_, cs, T, h1, h2, h3, h4, h5, h6⟩ := h
  exact ⟨h5, fun i j hi hj => row_cell ⟨rfl, cs, T, h1, h2, h3, h4, h5, h6⟩ i j hi hj⟩
theorem VRep.own_at {σ : Sig} {Av : Nat → Prop} (hr : Rep w F β σ Av) {n off len k : Nat} {es : List V} (hn : σ n = some (.row k es)) (hle : off + len ≤ es.length)
    (h : VRep w F β v (.own n off len)) : SlAt w F β k v ((es.drop off).take len) := by
  have hlen : ((es.drop off).take len).length = len := by simp; omega
  obtain ⟨l, hl, ho, _⟩ := hr.obj n _ hn
  rcases h.own_inv with ⟨b, s, k', sz, cap, hb, h1, h2, rfl⟩ | ⟨hb, rfl, rfl, a, rfl⟩
  · rw [hb] at hl; cases hl
    have hk : k = k' := ho.1
    subst hk
    have hk0 : 0 < k := ho.2.choose_spec.choose_spec.2.2.1
    refine ⟨_, _, by rw [hlen], .inr ⟨_, _, rfl, hk0, ?_⟩⟩
    exact (ORep.row_at ho).sub off len hle
  · exact ⟨_, _, by rw [hlen], .inl (List.eq_nil_of_length_eq_zero hlen)⟩
theorem SlAt.cells {P : Program} {k : Nat} {es : List V} (h : SlAt w F β k v es) : ∃ cs : List Value, (Builtin.firstCells k es.length v).run P w = .ok cs.toArray w ∧ cs.length = es.length * k ∧
    (∀ i, i < es.length → okE k (nth es i)) ∧ ∀ i j, i < es.length → j < k → VRep w F β (cs.getD (i * k + j) Go.undef) (nth (nth es i).flat j) := by
  obtain ⟨a, cap, rfl, h⟩ := h
  rcases h with rfl | ⟨b, p, rfl, hk, hok, hc⟩
  · refine ⟨[], ?_, by simp, by simp, by simp⟩
    cases a <;> simp [Builtin.firstCells, loadCells, loadCellsFrom]
  · let f : Nat → Value := fun q => (w.cell? ⟨b, p + q, none⟩).getD undef
    have hq : ∀ q, q < es.length * k → q / k < es.length ∧ q % k < k ∧ q = q / k * k + q % k := by
      intro q hq
      refine ⟨?_, Nat.mod_lt _ hk, ?_⟩
      · rw [Nat.div_lt_iff_lt_mul hk]; exact hq
      · have := Nat.div_add_mod q k; rw [Nat.mul_comm] at this; omega
    have hf : ∀ q, q < es.length * k → w.cell? ((⟨b, p, none⟩ : Addr).add q) = some (f q) := by
      intro q hlt
      obtain ⟨h1, h2, h3⟩ := hq q hlt
      obtain ⟨u, hu, _⟩ := hc _ _ h1 h2
      rw [addr_add]
      have e : p + q = p + q / k * k + q % k := by omega
      simp only [f, e, hu, Option.getD_some]
    refine ⟨(List.range (es.length * k)).map f, ?_, by simp, hok, ?_⟩
    · simp only [Builtin.firstCells]
      exact run_loadCells w _ _ f hf
    · intro i j hi hj
      have hlt : i * k + j < es.length * k := by
        have : (i + 1) * k ≤ es.length * k := Nat.mul_le_mul_right _ hi
        rw [Nat.succ_mul] at this; omega
      obtain ⟨u, hu, hv⟩ := hc i j hi hj
      have : ((List.range (es.length * k)).map f).getD (i * k + j) Go.undef = u := by
        simp only [List.getD, List.getElem?_map, List.getElem?_range hlt, Option.map_some, Option.getD_some, f]
        rw [show p + (i * k + j) = p + i * k + j by omega, hu]; rfl
      rw [this]; exact hv
end
section
open Go
def Eff.sig (e : Eff) (σ : Sig) (nn : Nat) : Sig :=
  match e with
  | .none => σ
  | .new o => upd σ nn (some o)
  | .set n o => upd σ n (some o)
  | .mv n o => upd (upd σ n Option.none) nn (some o)
def Eff.av (e : Eff) (Av : Nat → Prop) (nn : Nat) : Nat → Prop :=
  match e with
  | .none | .set _ _ => Av
  | .new _ | .mv _ _ => fun n => Av n ∧ n ≠ nn
def OpOK (P : Program) (s : Sem Next) (w : World) (F : Nat → Prop) (β : Beta) (σ : Sig) (x : V) (σ' : Sig) (Av' : Nat → Prop) : Prop :=
  ∃ nx w' F' β', s.run P w = .ok nx w' ∧ ((∃ v, nx = .value v ∧ VRep w' F' β' v x) ∨ (nx = .skip ∧ x = .undef)) ∧ Rep w' F' β' σ' Av' ∧ Evolve w F β σ w' F' β' σ'
theorem OpOK.of_sem {P : Program} {s : Sem Value} {w : World} {F : Nat → Prop} {β : Beta} {σ σ' : Sig} {Av' : Nat → Prop} {x : V} (h : SemOK P s w F β σ x σ' Av') :
    OpOK P (do pure (.value (← s))) w F β σ x σ' Av' := by
  obtain ⟨v, w', F', β', h1, h2, h3, h4⟩ := h
  exact ⟨.value v, w', F', β', by simp [h1], .inl ⟨v, rfl, h3⟩, h2, h4⟩
theorem OpOK.val {P : Program} {s : Sem Next} {w : World} {F : Nat → Prop} {β : Beta} {σ : Sig} {Av : Nat → Prop} (hr : Rep w F β σ Av) {x : V} {v : Value}
    (h : s.run P w = .ok (.value v) w) (hv : VRep w F β v x) : OpOK P s w F β σ x σ Av := ⟨_, w, F, β, h, .inl ⟨v, rfl, hv⟩, hr, Evolve.refl _ _ _ _⟩
theorem eqGuard_plain {P : Program} (op : BinOp) (t : TypeId) (x y : Operand) (a b : Value) (w : World) (h : ¬ (a = .nilIface ∧ b = .nilIface)) (h2 : ∀ cs, a ≠ .agg cs) :
    (eqGuard op t x y a b).run P w = .ok () w := by
  unfold eqGuard
  cases op <;> cases a <;> cases b <;> first | rfl | (exact absurd ⟨rfl, rfl⟩ h) | (exact absurd rfl (h2 _))
theorem run_equalIn_bool {P : Program} {t : TypeId} (hu : P.underlying t = some .bool) (d : Nat) (a b : Bool) (w : World) : (Op.equalIn (d + 1) t (.bool a) (.bool b)).run P w = .ok (a == b) w := by
  simp [Op.equalIn, run_underlying hu]
theorem run_equal_bool {P : Program} {t : TypeId} (hu : P.underlying t = some .bool) (a b : Bool) (w : World) : (Op.equal t (.bool a) (.bool b)).run P w = .ok (a == b) w :=
  run_equalIn_bool hu 9999 a b w
theorem run_binV {P : Program} {t : TypeId} (op : BinOp) (x y : Operand) (a b : Value) (w : World) {bl : Bool} (hbl : bl = true → P.underlying t = some .bool) {v : Value}
    (h : binV op bl a b = some (v, true)) : (do eqGuard op t x y a b; binOp op t a b : Sem Value).run P w = .ok v w ∧ pl v = true := by
  have hg : (eqGuard op t x y a b).run P w = .ok () w := by
    apply eqGuard_plain
    · rintro ⟨rfl, rfl⟩; simp [binV] at h
    · rintro cs rfl; simp [binV] at h
  simp only [Sem.run_bind, hg, Result.andThen_ok]
  cases a with
  | int k a =>
    cases b with
    | int k' b =>
      cases op <;> simp only [binV] at h <;>
        first
        | (simp at h; obtain ⟨rfl, h2⟩ := h; simp [binOp, Op.shift, Int.not_lt.2 h2, pl]; done)
        | (split at h
           · rename_i hk
             subst hk
             simp at h
             first
             | (obtain ⟨rfl, h2⟩ := h; simp [binOp, Op.intDiv, h2, pl]; done)
             | (subst h; simp [binOp, Op.intArith, Op.intBits, Op.intCmp, pl]; done)
           · simp at h)
    | _ => simp [binV] at h
  | string a =>
    cases b with
    | string b =>
      cases op
      case add =>
        simp only [binV, Option.some.injEq, Prod.mk.injEq, decide_eq_true_eq] at h
        obtain ⟨rfl, h2⟩ := h
        refine ⟨?_, rfl⟩
        simp only [binOp, Op.stringOp]
        have hm : IntKind.i64.max = 9223372036854775807 := by decide
        rw [hm, if_neg (by omega)]
        rfl
      all_goals
        simp only [binV, Option.some.injEq, Prod.mk.injEq, and_true, reduceCtorEq] at h
      all_goals
        subst h
        refine ⟨?_, rfl⟩
        simp only [binOp, Op.stringOp, ByteArray.toList_eq, strOf]
        rfl
    | _ => simp [binV] at h
  | bool a =>
    cases b with
    | bool b =>
      cases bl with
      | false => cases op <;> simp [binV] at h
      | true =>
        have hu := hbl rfl
        cases op <;> simp [binV] at h <;> subst h <;> refine ⟨?_, rfl⟩ <;> simp only [binOp, Sem.run_bind, run_equal_bool hu, Result.andThen_ok] <;> rfl
    | _ => simp [binV] at h
  | _ => simp [binV] at h
end
section
open Go
variable {P : Program} {w : World} {F : Nat → Prop} {β : Beta} {σ : Sig} {Av : Nat → Prop}
theorem nth_map {f : Value → V} (l : List Value) (j : Nat) (hj : j < l.length) : nth (l.map f) j = f (l.getD j Go.undef) := by
  simp [nth, List.getD, List.getElem?_map, List.getElem?_eq_getElem hj]
theorem vrep_ofVal1 (v : Value) : VRep w F β v (ofVal1 v) := by
  unfold ofVal1
  split
  · exact .fr .emp
  · split
    · rename_i h; exact .fr (.p h)
    · exact .undef
theorem vrep_ofVal (v : Value) : VRep w F β v (ofVal v) := by
  unfold ofVal
  split
  · rename_i cs
    refine .agg (by simp) fun j hj => ?_
    simp only [List.length_map, Array.length_toList] at hj
    rw [nth_map _ _ (by simpa using hj)]
    have : cs.toList.getD j Go.undef = cs.getD j Go.undef := by simp [Array.getD_eq_getD_getElem?, List.getD]
    rw [this]
    exact vrep_ofVal1 _
  · exact vrep_ofVal1 _
theorem all_one {l : List V} (h : l.all one = true) : ∀ c ∈ l, one c = true := by simpa [List.all_eq_true] using h
theorem snd_alloc (hr : Rep w F β σ Av) {nn : Nat} (hnn : Av nn) {e : TypeId} {z : V} (hz : tZero P e = some z) (h1 : z.flat.all one = true) (h0 : 0 < z.flat.length) :
    SemOK P (Instr.alloc e true (.tuple #[])) w F β σ (.ptr nn 0 0) (upd σ nn (some (.row z.flat.length [z]))) (fun n => Av n ∧ n ≠ nn) := by
  unfold tZero at hz
  cases hi : P.info? e with
  | none => simp [hi] at hz
  | some i =>
    cases hzv : i.zero with
    | none => simp [hi, hzv] at hz
    | some zv =>
      simp only [hi, hzv, Option.bind_some, Option.map_some, Option.some.injEq] at hz
      subst hz
      obtain ⟨v, w', F', β', h1, h2⟩ := new_var (P := P) hr hnn e (vrep_ofVal (w := w) (F := F) (β := β) zv) (all_one h1) h0
      refine ⟨v, w', F', β', ?_, h2⟩
      simp only [Instr.alloc, zeroValue, typeInfo, Sem.run_bind, run_program, Result.andThen_ok, hi, hzv, Sem.run_pure] at h1 ⊢
      exact h1
theorem snd_box (hr : Rep w F β σ Av) {nn : Nat} (hnn : Av nn) {e : TypeId} {u : Value} {y : V} (hu : VRep w F β u y) (h1 : y.flat.all one = true) (h0 : 0 < y.flat.length) :
    SemOK P (Instr.box e u) w F β σ (.ptr nn 0 0) (upd σ nn (some (.row y.flat.length [y]))) (fun n => Av n ∧ n ≠ nn) :=
  new_var hr hnn e hu (all_one h1) h0
theorem snd_faddr_ptr (hr : Rep w F β σ Av) {s : TypeId} {fields : Array Field} (hs : P.underlying s = some (.struct fields)) {f : Nat} {fl : Field} (hf : fields[f]? = some fl) {m : Nat} (hm : tSize P fl.type = some m) (h0 : m ≠ 0)
    {v : Value} {n i off : Nat} (hv : VRep w F β v (.ptr n i off)) : SemOK P (Instr.fieldAt s v f) w F β σ (.ptr n i (off + fl.offset)) σ Av := by
  obtain ⟨b, st, k, sz, hb, rfl⟩ := hv.ptr_inv
  refine .pure hr (v := .pointer (some ⟨b, st + i * k + (off + fl.offset), none⟩)) ?_ (.ptr hb)
  simp only [Instr.fieldAt, Sem.run_bind, run_underlying hs, Result.andThen_ok, hf, Instr.sureAddr, Sem.run_pure, fieldPlace, run_sizeOf hm, h0, if_false, addr_add, Nat.add_assoc]
theorem snd_faddr_fptr (hr : Rep w F β σ Av) {s : TypeId} {fields : Array Field} (hs : P.underlying s = some (.struct fields)) {f : Nat} {fl : Field} (hf : fields[f]? = some fl) {m : Nat} (hm : tSize P fl.type = some m) (h0 : m ≠ 0)
    {v : Value} {k i off : Nat} {es : List V} (hv : VRep w F β v (.fptr k es i off)) (hlt : off + fl.offset < k) : SemOK P (Instr.fieldAt s v f) w F β σ (.fptr k es i (off + fl.offset)) σ Av := by
  cases hv with
  | fr hv =>
    cases hv with
    | @fptr b p _ _ _ _ us hi ho hF hflat hcell hrep =>
      refine .pure hr (v := .pointer (some ⟨b, p + i * k + (off + fl.offset), none⟩)) ?_ (.fr (.fptr us hi hlt hF hflat hcell hrep))
      simp only [Instr.fieldAt, Sem.run_bind, run_underlying hs, Result.andThen_ok, hf, Instr.sureAddr, Sem.run_pure, fieldPlace, run_sizeOf hm, h0, if_false, addr_add, Nat.add_assoc]
theorem run_part {t : TypeId} {ag : Bool} {m : Nat} (hag : tAgg P t = some ag) (hm : tSize P t = some m) {us : Array Value} {cs : List V} (hl : us.size = cs.length)
    (hc : ∀ j, j < cs.length → VRep w F β (us.getD j Go.undef) (nth cs j)) {off : Nat} {y : V} (h : loadE ag m (.agg cs) off = some y) : ∃ v, (part t us off).run P w = .ok v w ∧ VRep w F β v y := by
  unfold loadE at h
  cases ag with
  | true =>
    simp only [if_true] at h
    split at h
    · rename_i hle
      replace hle : off + m ≤ cs.length := hle
      simp only [Option.some.injEq] at h
      subst h
      show ∃ v, (part t us off).run P w = .ok v w ∧ VRep w F β v (.agg ((cs.drop off).take m))
      refine ⟨.agg (us.extract off (off + m)), ?_, ?_⟩
      · simp only [part, Sem.run_bind, run_isAgg hag, Result.andThen_ok, if_true, run_sizeOf hm, Sem.run_pure]
      · refine .agg (by simp; omega) fun j hj => ?_
        simp only [List.length_take, List.length_drop] at hj
        have hjm : j < m := by omega
        rw [nth_drop_take _ _ _ _ hjm]
        have h2 := hc (off + j) (by omega)
        have e : (us.extract off (off + m)).getD j Go.undef = us.getD (off + j) Go.undef := by
          simp only [Array.getD_eq_getD_getElem?, Array.getElem?_extract]
          rw [if_pos (by omega)]
        rw [e]; exact h2
    · cases h
  | false =>
    simp only [Bool.false_eq_true, if_false] at h
    split at h
    · rename_i hlt
      replace hlt : off < cs.length := hlt
      simp only [Option.some.injEq] at h
      subst h
      show ∃ v, (part t us off).run P w = .ok v w ∧ VRep w F β v (nth cs off)
      have h2 := hc off hlt
      have e : us.getD off Go.undef = us[off]'(by omega) := by simp [Array.getD, show off < us.size by omega]
      refine ⟨us[off]'(by omega), ?_, by rw [← e]; exact h2⟩
      simp only [part, Sem.run_bind, run_isAgg hag, Result.andThen_ok, Bool.false_eq_true, if_false]
      rw [Array.getElem?_eq_getElem (by omega)]
      rfl
    · cases h
theorem snd_fld (hr : Rep w F β σ Av) {s : TypeId} {fields : Array Field} (hs : P.underlying s = some (.struct fields)) {f : Nat} {fl : Field} (hf : fields[f]? = some fl) {ag : Bool} {m : Nat} (hag : tAgg P fl.type = some ag) (hm : tSize P fl.type = some m)
    {v : Value} {cs : List V} (hv : VRep w F β v (.agg cs)) {y : V} (h : loadE ag m (.agg cs) fl.offset = some y) : SemOK P (Instr.field s v f) w F β σ y σ Av := by
  obtain ⟨us, rfl, hl, hc⟩ := hv.agg_inv
  obtain ⟨u, hu, hvu⟩ := run_part (P := P) hag hm hl hc h
  refine .pure hr ?_ hvu
  simp only [Instr.field, Sem.run_bind, run_underlying hs, Result.andThen_ok, hf, asAgg, Sem.run_pure, hu]
theorem run_asIntOf (k : IntKind) (n : Int) : (asIntOf (.int k n)).run P w = .ok (k, n) w := rfl
theorem snd_iaddr_sl (hr : Rep w F β σ Av) {t e : TypeId} (ht : P.underlying t = some (.slice e)) {k : Nat} (hk : tSize P e = some k) {v : Value} {es : List V} (hv : VRep w F β v (.sl k es)) {ik : IntKind} {q : Int} (h0 : 0 ≤ q) (h1 : q < (es.length : Int)) :
    SemOK P (Instr.indexAt t v (.int ik q)) w F β σ (.fptr k es q.toNat 0) σ Av := by
  cases hv with
  | fr hv =>
    cases hv with
    | sl0 => simp at h1; omega
    | @sl b p cap _ _ us hne _ hF hk0 hflat hcell hrep =>
      refine .pure hr (v := .pointer (some ⟨b, p + q.toNat * k + 0, none⟩)) ?_ (.fr (.fptr us (by omega) hk0 hF hflat hcell hrep))
      simp only [Instr.indexAt, Sem.run_bind, run_asIntOf, Result.andThen_ok, run_underlying ht, Sem.run_pure, h0, h1, and_self, if_true, run_sizeOf hk, addr_add, Nat.add_zero]
theorem snd_iaddr_own (hr : Rep w F β σ Av) {t e : TypeId} (ht : P.underlying t = some (.slice e)) {k : Nat} (hk : tSize P e = some k) {v : Value} {n off len : Nat} {es : List V} (hn : σ n = some (.row k es))
    (hv : VRep w F β v (.own n off len)) {ik : IntKind} {q : Int} (h0 : 0 ≤ q) (h1 : q < (len : Int)) :
    SemOK P (Instr.indexAt t v (.int ik q)) w F β σ (.ptr n (off + q.toNat) 0) σ Av := by
  obtain ⟨l, hl, ho, _⟩ := hr.obj n _ hn
  rcases hv.own_inv with ⟨b, s, k', sz, cap, hb, h2, h3, rfl⟩ | ⟨hb, rfl, rfl, a, rfl⟩
  · rw [hb] at hl; cases hl
    have hkk : k = k' := ho.1
    subst hkk
    refine .pure hr (v := .pointer (some ⟨b, s + (off + q.toNat) * k + 0, none⟩)) ?_ (.ptr hb)
    simp only [Instr.indexAt, Sem.run_bind, run_asIntOf, Result.andThen_ok, run_underlying ht, Sem.run_pure, h0, h1, and_self, if_true, run_sizeOf hk, addr_add, Nat.add_zero]
    simp [Nat.add_mul, Nat.add_assoc]
  · omega
theorem snd_aaddr_ptr (hr : Rep w F β σ Av) {t e : TypeId} {n0 : Nat} (ht : P.underlying t = some (.array n0 e)) {k : Nat} (hk : tSize P e = some k) {v : Value} {n i o : Nat} (hv : VRep w F β v (.ptr n i o)) {ik : IntKind} {q : Int} (h0 : 0 ≤ q) (h1 : q < (n0 : Int)) :
    SemOK P (Instr.indexAt t v (.int ik q)) w F β σ (.ptr n i (o + q.toNat * k)) σ Av := by
  obtain ⟨b, s, k', sz, hb, rfl⟩ := hv.ptr_inv
  refine .pure hr (v := .pointer (some ⟨b, s + i * k' + (o + q.toNat * k), none⟩)) ?_ (.ptr hb)
  simp only [Instr.indexAt, Sem.run_bind, run_asIntOf, Result.andThen_ok, run_underlying ht, Instr.sureAddr, Sem.run_pure, h0, h1, and_self, if_true, run_sizeOf hk, addr_add, Nat.add_assoc]
theorem snd_aaddr_fptr (hr : Rep w F β σ Av) {t e : TypeId} {n0 : Nat} (ht : P.underlying t = some (.array n0 e)) {k : Nat} (hk : tSize P e = some k) {v : Value} {k' i o : Nat} {es : List V} (hv : VRep w F β v (.fptr k' es i o)) {ik : IntKind} {q : Int} (h0 : 0 ≤ q) (h1 : q < (n0 : Int)) (h2 : o + q.toNat * k < k') :
    SemOK P (Instr.indexAt t v (.int ik q)) w F β σ (.fptr k' es i (o + q.toNat * k)) σ Av := by
  cases hv with
  | fr hv =>
    cases hv with
    | @fptr b p _ _ _ _ us hi ho hF hflat hcell hrep =>
      refine .pure hr (v := .pointer (some ⟨b, p + i * k' + (o + q.toNat * k), none⟩)) ?_ (.fr (.fptr us hi h2 hF hflat hcell hrep))
      simp only [Instr.indexAt, Sem.run_bind, run_asIntOf, Result.andThen_ok, run_underlying ht, Instr.sureAddr, Sem.run_pure, h0, h1, and_self, if_true, run_sizeOf hk, addr_add, Nat.add_assoc]
theorem snd_aidx (hr : Rep w F β σ Av) {t e : TypeId} {n0 : Nat} (ht : P.underlying t = some (.array n0 e)) {ag : Bool} {m : Nat} (hag : tAgg P e = some ag) (hm : tSize P e = some m) {v : Value} {cs : List V} (hv : VRep w F β v (.agg cs))
    {ik : IntKind} {q : Int} (h0 : 0 ≤ q) (h1 : q < (n0 : Int)) {y : V} (h : loadE ag m (.agg cs) (q.toNat * m) = some y) : SemOK P (Instr.index t v (.int ik q)) w F β σ y σ Av := by
  obtain ⟨us, rfl, hl, hc⟩ := hv.agg_inv
  obtain ⟨u, hu, hvu⟩ := run_part (P := P) hag hm hl hc h
  refine .pure hr ?_ hvu
  simp only [Instr.index, Sem.run_bind, run_asIntOf, Result.andThen_ok, run_underlying ht, h0, h1, and_self, if_true, run_sizeOf hm, hu]
theorem snd_sidx (hr : Rep w F β σ Av) {t : TypeId} (ht : P.underlying t = some .string) (s : ByteArray) {ik : IntKind} {q : Int} (h0 : 0 ≤ q) (h1 : q < (s.size : Int)) :
    SemOK P (Instr.index t (.string s) (.int ik q)) w F β σ (.p (.int .u8 ((strOf s).getD q.toNat 0).toNat)) σ Av := by
  refine .pure hr (v := .int .u8 ((strOf s).getD q.toNat 0).toNat) ?_ (.of_p rfl)
  have hlt : q.toNat < s.size := by omega
  have e : s[q.toNat]? = some ((strOf s).getD q.toNat 0) := by
    have h2 : s[q.toNat]? = some (s[q.toNat]'hlt) := by
      simp [getElem?_pos, hlt]
    rw [h2]
    congr 1
    simp only [strOf, List.getD]
    rw [List.getElem?_eq_getElem (by simpa using hlt)]
    rfl
  simp only [Instr.index, Sem.run_bind, run_asIntOf, Result.andThen_ok, run_underlying ht, h0, if_true, e, Sem.run_pure]
end
section
open Go
variable {P : Program} {w : World} {F : Nat → Prop} {β : Beta} {σ : Sig} {Av : Nat → Prop}
theorem Rep.drop (hr : Rep w F β σ Av) (n : Nat) : Rep w F β (upd σ n none) Av ∧ Evolve w F β σ w F β (upd σ n none) := by
  have hs : ∀ m o, upd σ n none m = some o → σ m = some o := by
    intro m o h
    by_cases e : m = n
    · subst e; simp at h
    · rwa [upd_other _ _ e] at h
  refine ⟨⟨hr.falloc, hr.dom, fun m o h => hr.obj m o (hs m o h), fun a b o o' l l' c h1 h2 => hr.sep a b o o' l l' c (hs _ _ h1) (hs _ _ h2), hr.gl⟩,
    ⟨rfl, rfl, rfl, Nat.le_refl _, fun _ _ h => h, fun _ h => h, fun _ _ _ => rfl, fun _ _ h => .inl h, ?_⟩⟩
  rintro b _ ⟨m, o, l, h1, h2⟩
  exact ⟨m, o, l, hs _ _ h1, h2⟩
theorem Rep.virt (hr : Rep w F β σ Av) {nn : Nat} (hnn : Av nn) (k : Nat) : Rep w F (upd β nn (some .virt)) (upd σ nn (some (.row k []))) (fun n => Av n ∧ n ≠ nn) ∧
    Evolve w F β σ w F (upd β nn (some .virt)) (upd σ nn (some (.row k []))) := by
  refine hr.change nn (.row k []) .virt rfl rfl rfl (Nat.le_refl _) ?_ ?_ ?_ (by simp) rfl ?_ ?_ ?_ (fun _ _ _ => rfl)
  · intro n l h
    rw [upd_other]; exact h
    rintro rfl; rw [hr.dom n hnn] at h; cases h
  · intro n hn; rw [upd_other _ _ hn.2]; exact hr.dom n hn.1
  · intro m o hm
    by_cases h : m = nn
    · subst h; simp at hm; exact .inl ⟨rfl, hm.symm⟩
    · rw [upd_other _ _ h] at hm; exact .inr ⟨h, hm⟩
  · intro b hb; cases hb
  · intro m o l b _ _ _ _ e; cases e
  · intro b hb; cases hb
theorem elemInfo_spec {t : TypeId} {k by_ : Nat} {z : V} (h : elemInfo P t = some (k, by_, z)) : ∃ e i zv, P.underlying t = some (.slice e) ∧ P.info? e = some i ∧ i.size = k ∧ i.bytes = by_ ∧ i.zero = some zv ∧ zv.cells.size = k ∧ 0 < k ∧ z = ofVal zv := by
  unfold elemInfo at h
  split at h
  · rename_i e he
    cases hi : P.info? e with
    | none => simp [hi] at h
    | some i =>
      cases hz : i.zero with
      | none => simp [hi, hz] at h
      | some zv =>
        simp only [hi, hz, Option.bind_eq_bind, Option.bind_some] at h
        split at h
        · rename_i hc
          simp at h
          obtain ⟨rfl, rfl, rfl⟩ := h
          exact ⟨e, i, zv, he, hi, rfl, rfl, hz, hc.1, hc.2, rfl⟩
        · cases h
  · cases h
theorem rows_append {cs ds : List Value} {k : Nat} {es fs : List V} (hcl : cs.length = es.length * k)
    (he : ∀ i, i < es.length → okE k (nth es i)) (hf : ∀ i, i < fs.length → okE k (nth fs i))
    (hc : ∀ i j, i < es.length → j < k → VRep w F β (cs.getD (i * k + j) Go.undef) (nth (nth es i).flat j))
    (hd : ∀ i j, i < fs.length → j < k → VRep w F β (ds.getD (i * k + j) Go.undef) (nth (nth fs i).flat j)) :
    (∀ i, i < (es ++ fs).length → okE k (nth (es ++ fs) i)) ∧
    ∀ i j, i < (es ++ fs).length → j < k → VRep w F β ((cs ++ ds).getD (i * k + j) Go.undef) (nth (nth (es ++ fs) i).flat j) := by
  have hm : ∀ i j, j < k → i < es.length → i * k + j < es.length * k := by
    intro i j hj hi
    have : (i + 1) * k ≤ es.length * k := Nat.mul_le_mul_right _ hi
    rw [Nat.succ_mul] at this; omega
  refine ⟨fun i hi => ?_, fun i j hi hj => ?_⟩
  · rw [nth_append]
    split
    · exact he i ‹_›
    · rw [List.length_append] at hi; exact hf _ (by omega)
  · rw [nth_append]
    split
    · rename_i h
      have : (cs ++ ds).getD (i * k + j) Go.undef = cs.getD (i * k + j) Go.undef := by
        simp only [List.getD, List.getElem?_append_left (show i * k + j < cs.length by rw [hcl]; exact hm i j hj h)]
      rw [this]; exact hc i j h hj
    · rename_i h
      rw [List.length_append] at hi
      have e2 : i * k = es.length * k + (i - es.length) * k := by
        rw [← Nat.add_mul]; congr 1; omega
      have : (cs ++ ds).getD (i * k + j) Go.undef = ds.getD ((i - es.length) * k + j) Go.undef := by
        simp only [List.getD]
        rw [List.getElem?_append_right (by omega)]
        congr 2
        omega
      rw [this]; exact hd _ j (by omega) hj
theorem getD_toArray_append (cs : List Value) (r : Array Value) (q : Nat) (h : q < cs.length) : (cs.toArray ++ r).getD q Go.undef = cs.getD q Go.undef := by
  simp only [Array.getD_eq_getD_getElem?, List.getD]
  rw [Array.getElem?_append_left (by simpa using h)]
  simp
theorem new_row_at (hr : Rep w F β σ Av) {nn : Nat} (hnn : Av nn) (e : TypeId) {k : Nat} (hk : 0 < k) (zc : Array Value) (hz : zc.size = k) (cap : Nat) {cs : List Value} {es : List V}
    (hcl : cs.length = es.length * k) (hcap : es.length ≤ cap) (he : ∀ i, i < es.length → okE k (nth es i))
    (hc : ∀ i j, i < es.length → j < k → VRep w F β (cs.getD (i * k + j) Go.undef) (nth (nth es i).flat j)) :
    ∃ w' β', w' = w.alloc (.cells (cs.toArray ++ Builtin.zeroCells zc (cap - es.length)) e) ∧ Rep w' F β' (upd σ nn (some (.row k es))) (fun n => Av n ∧ n ≠ nn) ∧
      VRep w' F β' (.slice (some ⟨w.heap.size, 0, none⟩) es.length cap) (.own nn 0 es.length) ∧ Evolve w F β σ w' F β' (upd σ nn (some (.row k es))) := by
  have hsz : (cs.toArray ++ Builtin.zeroCells zc (cap - es.length)).size = cap * k := by
    simp only [Array.size_append, List.size_toArray, size_zeroCells, hz, hcl]
    rw [← Nat.add_mul]; congr 1; omega
  have hR := hr.alloc_row hnn (cs.toArray ++ Builtin.zeroCells zc (cap - es.length)) e k es hk (by rw [hsz]; exact Nat.mul_le_mul_right _ hcap) he (fun i j hi hj => by
    rw [getD_toArray_append]
    · exact hc i j hi hj
    · rw [hcl]
      have : (i + 1) * k ≤ es.length * k := Nat.mul_le_mul_right _ hi
      rw [Nat.succ_mul] at this; omega)
  refine ⟨_, _, rfl, hR.1, ?_, hR.2⟩
  have := VRep.own (w := w.alloc (.cells (cs.toArray ++ Builtin.zeroCells zc (cap - es.length)) e)) (F := F) (β := upd β nn (some (.at w.heap.size 0 k (cs.toArray ++ Builtin.zeroCells zc (cap - es.length)).size)))
    (n := nn) (off := 0) (len := es.length) (cap := cap) (upd_same _ _ _) hcap (by rw [hsz]; simp)
  simpa using this
theorem run_append_grow {t u ty e : TypeId} {i : TypeInfo} {zv : Value} (ht : P.underlying t = some (.slice e)) (hu : (∃ e', P.underlying u = some (.slice e')) ∨ P.underlying u = some .string) (hi : P.info? e = some i) (hz : i.zero = some zv)
    {v x : Value} {a : Option Addr} {len cap n : Nat} (hv : v = .slice a len cap) (hlen : (Builtin.lenOf x).run P w = .ok n w) {os ns : List Value}
    (ho : (Builtin.firstCells i.size len v).run P w.drew = .ok os.toArray w.drew) (hn : (Builtin.firstCells i.size n x).run P w.drew = .ok ns.toArray w.drew)
    (hg : cap < len + n) (hb : (len + n) * i.bytes ≤ 140737488355328) (h63 : len + n ≤ 9223372036854775807) :
    ∃ nc, len + n ≤ nc ∧ (Builtin.append_ #[t, u] ty #[v, x]).run P w =
      .ok (.slice (some ⟨w.heap.size, 0, none⟩) (len + n) nc) (w.drew.alloc (.cells ((os ++ ns).toArray ++ Builtin.zeroCells zv.cells (nc - (len + n))) e)) := by
  subst hv
  have h1 : ¬ (len + n ≤ cap) := by omega
  have h2 : ¬ (9223372036854775807 < (len : Int) + (n : Int)) := by omega
  have h3 : ¬ (281474976710656 < Builtin.nextslicecap (len + n) cap * i.bytes) := by
    have := growslice_fits (bytes := i.bytes) hg hb
    omega
  refine ⟨grownCap w (len + n) cap e, grownCap_ge w _ _ _, ?_⟩
  rcases hu with ⟨e', hd⟩ | hd
  · simp [Builtin.append_, run_underlying ht, run_underlying hd, sizeOf, typeInfo, zeroValue, hi, hz, hlen, h1, h2, h3, Question.forced, newRow, grownCap, ho, hn, ← List.append_toArray, Array.append_assoc]
  · simp [Builtin.append_, run_underlying ht, run_underlying hd, sizeOf, typeInfo, zeroValue, hi, hz, hlen, h1, h2, h3, Question.forced, newRow, grownCap, ho, hn, ← List.append_toArray, Array.append_assoc]
end
section
open Go
variable {P : Program} {w : World} {F : Nat → Prop} {β : Beta} {σ : Sig} {Av : Nat → Prop}
theorem nth_mem {l : List V} {j : Nat} (h : j < l.length) : nth l j ∈ l := by
  simp [nth, List.getD, List.getElem?_eq_getElem h]
theorem elems_cells (hr : Rep w F β σ Av) {k : Nat} {y : Value} {ŷ : V} (hy : VRep w F β y ŷ) {news : List V} {rd : List Nat} (h : elemsOf k σ ŷ = some (news, rd, true)) :
    (Builtin.lenOf y).run P w = .ok news.length w ∧ ∃ ns : List Value, (Builtin.firstCells k news.length y).run P w = .ok ns.toArray w ∧ ns.length = news.length * k ∧
      (∀ i, i < news.length → okE k (nth news i)) ∧ ∀ i j, i < news.length → j < k → VRep w F β (ns.getD (i * k + j) Go.undef) (nth (nth news i).flat j) := by
  have go : ∀ es, SlAt w F β k y es → (Builtin.lenOf y).run P w = .ok es.length w ∧ ∃ ns : List Value, (Builtin.firstCells k es.length y).run P w = .ok ns.toArray w ∧ ns.length = es.length * k ∧
      (∀ i, i < es.length → okE k (nth es i)) ∧ ∀ i j, i < es.length → j < k → VRep w F β (ns.getD (i * k + j) Go.undef) (nth (nth es i).flat j) := by
    intro es hs
    refine ⟨?_, ?_⟩
    · obtain ⟨a, cap, rfl, _⟩ := hs; rfl
    · obtain ⟨cs, h1, h2, h3, h4⟩ := hs.cells (P := P); exact ⟨cs, h1, h2, h3, h4⟩
  cases ŷ with
  | emp => simp only [elemsOf, Option.some.injEq, Prod.mk.injEq] at h; obtain ⟨rfl, _, _⟩ := h; exact go [] hy.emp_at
  | sl k' es =>
    simp only [elemsOf] at h
    split at h
    · rename_i e _; subst e
      simp only [Option.some.injEq, Prod.mk.injEq] at h; obtain ⟨rfl, _, _⟩ := h; exact go es hy.sl_at
    · cases h
  | own n off len =>
    simp only [elemsOf] at h
    split at h
    · rename_i k' es hn
      split at h
      · rename_i e _; subst e
        simp only [Option.some.injEq, Prod.mk.injEq, decide_eq_true_eq] at h
        obtain ⟨rfl, _, hle⟩ := h
        exact go _ (hy.own_at hr hn hle)
      · cases h
    · cases h
  | p u =>
    obtain ⟨rfl, _⟩ := hy.p_inv
    cases y with
    | string s =>
      simp only [elemsOf] at h
      split at h
      · rename_i e _; subst e
        simp only [Option.some.injEq, Prod.mk.injEq] at h
        obtain ⟨rfl, _, _⟩ := h
        have hl : ((strOf s).map fun b => V.p (.int .u8 (b.toNat : Int))).length = s.size := by simp [strOf]
        rw [hl]
        refine ⟨rfl, (strOf s).map fun b => Value.int .u8 (b.toNat : Int), ?_, by simp [strOf], ?_, ?_⟩
        · have he : s.extract 0 s.size = s := by
            apply ByteArray.ext
            rw [ByteArray.data_extract]
            exact Array.extract_eq_self_of_le (Nat.le_refl _)
          simp only [Builtin.firstCells, he, Sem.run_pure, strOf]
          congr 1
          apply Array.ext'
          simp
        · intro i hi
          have : nth ((strOf s).map fun b => V.p (.int .u8 (b.toNat : Int))) i = .p (.int .u8 ((strOf s).getD i 0).toNat) := by
            simp [nth, List.getD, List.getElem?_map, List.getElem?_eq_getElem (show i < (strOf s).length by simpa [strOf] using hi)]
          rw [this]
          exact ⟨rfl, by simp [V.flat, one]⟩
        · intro i j hi hj
          have hj0 : j = 0 := by omega
          subst hj0
          have : nth ((strOf s).map fun b => V.p (.int .u8 (b.toNat : Int))) i = .p (.int .u8 ((strOf s).getD i 0).toNat) := by
            simp [nth, List.getD, List.getElem?_map, List.getElem?_eq_getElem (show i < (strOf s).length by simpa [strOf] using hi)]
          rw [this]
          have e2 : ((strOf s).map fun b => Value.int .u8 (b.toNat : Int)).getD (i * 1 + 0) Go.undef = .int .u8 ((strOf s).getD i 0).toNat := by
            simp [List.getD, List.getElem?_map, List.getElem?_eq_getElem (show i < (strOf s).length by simpa [strOf] using hi)]
          rw [e2]
          exact .of_p rfl
      · cases h
    | _ => simp [elemsOf] at h
  | _ => simp [elemsOf] at h
section
variable {t u ty : TypeId} {k by_ : Nat} {z : V}
theorem snd_app_emp (hr : Rep w F β σ Av) {nn : Nat} (hnn : Av nn) (ht : elemInfo P t = some (k, by_, z)) (hu : (∃ e', P.underlying u = some (.slice e')) ∨ P.underlying u = some .string)
    {a : Option Addr} {y : Value} {ŷ : V} (hy : VRep w F β y ŷ) {news : List V} {rd : List Nat} (h : elemsOf k σ ŷ = some (news, rd, true))
    (hb : news.length * by_ ≤ 140737488355328) (h63 : news.length ≤ 9223372036854775807) :
    SemOK P (Builtin.append_ #[t, u] ty #[.slice a 0 0, y]) w F β σ (.own nn 0 news.length) (upd σ nn (some (.row k news))) (fun n => Av n ∧ n ≠ nn) := by
  obtain ⟨e, i, zv, h1, h2, h3, h4, h5, h6, h7, _⟩ := elemInfo_spec ht
  subst h3 h4
  obtain ⟨hl, ns, hns, hnl, hok, hc⟩ := elems_cells (P := P) hr hy h
  by_cases h0 : news.length = 0
  · have hn : news = [] := List.eq_nil_of_length_eq_zero h0
    subst hn
    have hns0 : ns = [] := List.eq_nil_of_length_eq_zero (by simpa using hnl)
    subst hns0
    have hR := hr.virt hnn i.size
    refine ⟨.slice a 0 0, w, F, _, ?_, hR.1, .ownv (upd_same _ _ _), hR.2⟩
    have hst : ∀ ad : Addr, (storeCells ad ([] : List Value)).run P w = .ok () w := fun _ => rfl
    simp only [List.length_nil] at hl hns
    rcases hu with ⟨e', hd⟩ | hd <;> cases a <;>
      simp [Builtin.append_, run_underlying h1, run_underlying hd, sizeOf, typeInfo, h2, hl, hns, hst]
  · obtain ⟨hrd, hed⟩ := hr.drew
    have hyd : VRep w.drew F β y ŷ := hed.vrep hr hy
    obtain ⟨_, ns', hns', hnl', hok', hc'⟩ := elems_cells (P := P) hrd hyd h
    have ho : (Builtin.firstCells i.size 0 (.slice a 0 0)).run P w.drew = .ok ([] : List Value).toArray w.drew := by
      cases a <;> simp [Builtin.firstCells, loadCells, loadCellsFrom]
    obtain ⟨nc, hnc, hrun⟩ := run_append_grow (P := P) (w := w) (ty := ty) h1 hu h2 h5 (v := .slice a 0 0) rfl hl ho hns' (by omega) (by simpa using hb) (by simpa using h63)
    obtain ⟨w', β', hw', hR, hv, hE⟩ := new_row_at hrd hnn e h7 zv.cells h6 nc hnl' (by omega) hok' hc'
    subst hw'
    refine ⟨_, _, F, β', hrun, ?_, ?_, ?_⟩
    · simpa using hR
    · simpa using hv
    · exact hed.trans (by simpa using hE)
theorem snd_app_own (hr : Rep w F β σ Av) {nn : Nat} (hnn : Av nn) (ht : elemInfo P t = some (k, by_, z)) (hu : (∃ e', P.underlying u = some (.slice e')) ∨ P.underlying u = some .string)
    {x : Value} {n off len : Nat} {es : List V} (hn : σ n = some (.row k es)) (hx : VRep w F β x (.own n off len)) (hfull : off + len = es.length)
    {y : Value} {ŷ : V} (hy : VRep w F β y ŷ) {news : List V} {rd : List Nat} (h : elemsOf k σ ŷ = some (news, rd, true))
    (hb : (len + news.length) * by_ ≤ 140737488355328) (h63 : len + news.length ≤ 9223372036854775807) :
    SemOK P (Builtin.append_ #[t, u] ty #[x, y]) w F β σ (.own nn 0 (len + news.length)) (upd (upd σ n none) nn (some (.row k (es.drop off ++ news)))) (fun m => Av m ∧ m ≠ nn) := by
  obtain ⟨l, hl0, horep, _⟩ := hr.obj n _ hn
  have hnnn : n ≠ nn := by rintro rfl; rw [hr.dom n hnn] at hl0; cases hl0
  obtain ⟨hrp, hep⟩ := hr.drop n
  rcases hx.own_inv with ⟨b, s, k', sz, cap, hbeta, hlc, hcap, rfl⟩ | ⟨hbeta, rfl, rfl, a, rfl⟩
  · obtain ⟨e, i, zv, h1, h2, h3, h4, h5, h6, h7, _⟩ := elemInfo_spec ht
    subst h3 h4
    rw [hbeta] at hl0; cases hl0
    have hkk : i.size = k' := horep.1
    subst hkk
    obtain ⟨hl, ns, hns, hnl, hok, hc⟩ := elems_cells (P := P) hr hy h
    have hlen : ((es.drop off).take len) = es.drop off := List.take_of_length_le (by simp; omega)
    have hdl : (es.drop off).length = len := by simp; omega
    have hrow := horep.row_at
    by_cases hroom : len + news.length ≤ cap
    ·
      obtain ⟨_, cs, T, hcs, hsz, hk0, hfit, hflat, hcell⟩ := horep
      have hap : s + off * i.size + len * i.size + ns.length ≤ cs.size := by
        rw [hnl, hsz]
        have : s + (off + cap) * i.size = s + off * i.size + cap * i.size := by rw [Nat.add_mul]; omega
        have h8 : (len + news.length) * i.size ≤ cap * i.size := Nat.mul_le_mul_right _ hroom
        rw [Nat.add_mul] at h8
        omega
      have hone : ∀ v ∈ ns, v.oneCell' = true := by
        intro v hv
        obtain ⟨q, hq, rfl⟩ := List.getElem_of_mem hv
        rw [hnl] at hq
        have h9 : q / i.size < news.length := by rw [Nat.div_lt_iff_lt_mul h7]; exact hq
        have h10 := hc (q / i.size) (q % i.size) h9 (Nat.mod_lt _ h7)
        have h11 : q / i.size * i.size + q % i.size = q := by have := Nat.div_add_mod q i.size; rw [Nat.mul_comm] at this; omega
        rw [h11] at h10
        have h12 : one (nth (nth news (q / i.size)).flat (q % i.size)) = true := by
          obtain ⟨h13, h14⟩ := hok _ h9
          exact h14 _ (nth_mem (by rw [h13]; exact Nat.mod_lt _ h7))
        have := oneCell_of_vrep h10 h12
        simpa [List.getD, List.getElem?_eq_getElem (show q < ns.length by rw [hnl]; exact hq)] using this
      have hst := run_storeCells_at P b (s + off * i.size + len * i.size) T ns 0 cs w hcs (by omega) hone
      have hspl : (cs.toList.take (s + off * i.size + len * i.size + 0) ++ ns ++ cs.toList.drop (s + off * i.size + len * i.size + 0 + ns.length)).toArray = splice cs (s + off * i.size + len * i.size) ns := by simp [splice]
      rw [hspl] at hst
      have hR := hr.grow_row hnn hn hbeta hcs (splice cs (s + off * i.size + len * i.size) ns) ((splice_size _ _ _ hap).trans hsz) (s + off * i.size) (es.drop off ++ news) hk0
        (by
          rw [List.length_append, hdl]
          have h8 : (len + news.length) * i.size ≤ cap * i.size := Nat.mul_le_mul_right _ hroom
          have : s + (off + cap) * i.size = s + off * i.size + cap * i.size := by rw [Nat.add_mul]; omega
          omega)
        (by
          intro q hq
          rw [nth_append, hdl]
          split
          · rw [nth_drop]; exact hflat _ (by omega)
          · rw [List.length_append, hdl] at hq; exact hok _ (by omega))
        (by
          intro q j hq hj
          rw [List.length_append, hdl] at hq
          rw [splice_getD _ _ _ hap, nth_append, hdl]
          by_cases hql : q < len
          · have : (q + 1) * i.size ≤ len * i.size := Nat.mul_le_mul_right _ hql
            rw [Nat.succ_mul] at this
            rw [if_pos (by omega), if_pos hql, nth_drop]
            have h9 := hcell (off + q) j (by omega) hj
            have e2 : s + (off + q) * i.size + j = s + off * i.size + q * i.size + j := by rw [Nat.add_mul]; omega
            rw [e2] at h9; exact h9
          · have h8 : len * i.size ≤ q * i.size := Nat.mul_le_mul_right _ (by omega)
            have h9 : (q - len) * i.size + len * i.size = q * i.size := by rw [← Nat.add_mul]; congr 1; omega
            have h10 : (q - len + 1) * i.size ≤ news.length * i.size := Nat.mul_le_mul_right _ (by omega)
            rw [Nat.succ_mul] at h10
            rw [if_neg (by omega), if_pos (by omega), if_neg hql]
            have h11 := hc (q - len) j (by omega) hj
            rw [show s + off * i.size + q * i.size + j - (s + off * i.size + len * i.size) = (q - len) * i.size + j by omega]
            exact h11)
      refine ⟨.slice (some ⟨b, s + off * i.size, none⟩) (len + news.length) cap, _, F, _, ?_, hR.1, ?_, hR.2⟩
      · rcases hu with ⟨e', hd⟩ | hd <;>
          simp [Builtin.append_, run_underlying h1, run_underlying hd, sizeOf, typeInfo, h2, hl, hroom, hns, addr_add, hst]
      · have := VRep.own (w := w.setRow b (splice cs (s + off * i.size + len * i.size) ns)) (F := F) (β := upd β nn (some (.at b (s + off * i.size) i.size sz)))
          (n := nn) (off := 0) (len := len + news.length) (cap := cap) (upd_same _ _ _) hroom (by rw [Nat.zero_add]; rw [Nat.add_mul] at hcap; omega)
        simpa using this
    ·
      obtain ⟨hrd, hed⟩ := hr.drew
      have hyd : VRep w.drew F β y ŷ := hed.vrep hr hy
      have hxd : VRep w.drew F β (.slice (some ⟨b, s + off * i.size, none⟩) len cap) (.own n off len) := hed.vrep hr hx
      obtain ⟨_, ns', hns', hnl', hok', hc'⟩ := elems_cells (P := P) hrd hyd h
      have hold := hxd.own_at hrd hn (by omega)
      rw [hlen] at hold
      obtain ⟨os, hos, hol, hook, hoc⟩ := hold.cells (P := P)
      rw [hdl] at hos
      obtain ⟨nc, hnc, hrun⟩ := run_append_grow (P := P) (w := w) (ty := ty) h1 hu h2 h5 (v := .slice (some ⟨b, s + off * i.size, none⟩) len cap) rfl hl hos hns' (by omega) hb h63
      obtain ⟨hra1, hra2⟩ := rows_append (k := i.size) hol hook hok' hoc hc'
      obtain ⟨hrp2, hep2⟩ := hrd.drop n
      obtain ⟨w', β', hw', hR, hv, hE⟩ := new_row_at (cs := os ++ ns') (es := es.drop off ++ news) hrp2 hnn e h7 zv.cells h6 nc (by rw [List.length_append, List.length_append, hol, hnl', Nat.add_mul])
        (by rw [List.length_append, hdl]; exact hnc) hra1 hra2
      subst hw'
      have hlen2 : (es.drop off ++ news).length = len + news.length := by rw [List.length_append, hdl]
      rw [hlen2] at hv hR hE
      refine ⟨_, _, F, β', hrun, ?_, ?_, ?_⟩
      · simpa using hR
      · simpa using hv
      · exact hed.trans (hep2.trans (by simpa using hE))
  ·
    rw [hbeta] at hl0; cases hl0
    have hes : es = [] := horep
    subst hes
    have hy2 : elemsOf k (upd σ n none) ŷ = some (news, rd, true) ∨ ∃ o l, ŷ = .own n o l := by
      cases ŷ with
      | own m o l =>
        by_cases hm : m = n
        · subst hm; exact .inr ⟨o, l, rfl⟩
        · left; simpa only [elemsOf, upd_other σ none hm] using h
      | emp => exact .inl h
      | sl _ _ => exact .inl h
      | p u => exact .inl (by cases u <;> exact h)
      | _ => simp [elemsOf] at h
    rcases hy2 with hy2 | ⟨o, l, rfl⟩
    · obtain ⟨v, w', F', β', g1, g2, g3, g4⟩ := snd_app_emp (P := P) (ty := ty) (a := a) hrp hnn ht hu hy hy2 (by simpa using hb) (by simpa using h63)
      refine ⟨v, w', F', β', g1, ?_, ?_, hep.trans ?_⟩
      · simpa using g2
      · simpa using g3
      · simpa using g4
    · simp only [elemsOf, hn] at h
      split at h
      · simp only [Option.some.injEq, Prod.mk.injEq, decide_eq_true_eq, List.length_nil, List.drop_nil, List.take_nil] at h
        obtain ⟨rfl, _, _⟩ := h
        obtain ⟨a', rfl⟩ : ∃ a', y = .slice a' 0 0 := by
          rcases hy.own_inv with ⟨b, s, k', sz, cap, hb', _⟩ | ⟨_, rfl, rfl, a', rfl⟩
          · rw [hbeta] at hb'; cases hb'
          · exact ⟨a', rfl⟩
        obtain ⟨v, w', F', β', g1, g2, g3, g4⟩ := snd_app_emp (P := P) (ty := ty) (a := a) (y := .slice a' 0 0) (ŷ := .emp) (news := []) (rd := []) hrp hnn ht hu (.fr .emp) rfl (by simp) (by simp)
        refine ⟨v, w', F', β', g1, ?_, ?_, hep.trans ?_⟩
        · simpa using g2
        · simpa using g3
        · simpa using g4
      · cases h
end
theorem elems_sl (hr : Rep w F β σ Av) {k : Nat} {y : Value} {ŷ : V} (hy : VRep w F β y ŷ) {news : List V} {rd : List Nat} (h : elemsOf k σ ŷ = some (news, rd, true)) (hp : slOf ŷ = true) : SlAt w F β k y news := by
  cases ŷ with
  | emp => simp only [elemsOf, Option.some.injEq, Prod.mk.injEq] at h; obtain ⟨rfl, _, _⟩ := h; exact hy.emp_at
  | sl k' es =>
    simp only [elemsOf] at h
    split at h
    · rename_i e _; subst e
      simp only [Option.some.injEq, Prod.mk.injEq] at h; obtain ⟨rfl, _, _⟩ := h; exact hy.sl_at
    · cases h
  | own n off len =>
    simp only [elemsOf] at h
    split at h
    · rename_i k' es hn
      split at h
      · rename_i e _; subst e
        simp only [Option.some.injEq, Prod.mk.injEq, decide_eq_true_eq] at h
        obtain ⟨rfl, _, hle⟩ := h
        exact hy.own_at hr hn hle
      · cases h
    · cases h
  | _ => cases hp
end
section
open Go
variable {P : Program} {w : World} {F : Nat → Prop} {β : Beta} {σ : Sig} {Av : Nat → Prop}
theorem snd_bounds {ρ : Operand → Value} {τ : X → V} {lo hi : Option Operand} (hlo : ∀ x, lo = some x → VRep w F β (ρ x) (τ (toX x))) (hhi : ∀ x, hi = some x → VRep w F β (ρ x) (τ (toX x)))
    {len cap l h : Nat} (isS : Bool) (hb : bounds τ len (lo.map toX) (hi.map toX) = some (l, h, true)) (hc : len ≤ cap) :
    (Instr.sliceBounds isS len cap (lo.map ρ) (hi.map ρ) none).run P w = .ok (l, h, cap) w ∧ l ≤ h ∧ h ≤ len := by
  have hi2 : ∀ (k : IntKind) (q : Int) (y : Nat) (code : BoundsCode), 0 ≤ q → q ≤ (y : Int) → (Instr.sliceBound (.int k q) y code).run P w = .ok q.toNat w := by
    intro k q y code h0 h1
    simp [Instr.sliceBound, asIntOf, h0, h1]
  have pinv : ∀ {v : Value} {k : IntKind} {q : Int}, VRep w F β v (.p (.int k q)) → v = .int k q := fun h => h.p_inv.1
  cases lo with
  | none =>
    cases hi with
    | none =>
      simp only [bounds, Option.map_none, Option.some.injEq, Prod.mk.injEq] at hb
      obtain ⟨rfl, rfl, _⟩ := hb
      exact ⟨by simp [Instr.sliceBounds], by omega, by omega⟩
    | some xh =>
      simp only [bounds, Option.map_none, Option.map_some] at hb
      split at hb
      · rename_i k b hx
        simp only [Option.some.injEq, Prod.mk.injEq, decide_eq_true_eq] at hb
        obtain ⟨rfl, rfl, h0, h1⟩ := hb
        have e := pinv (hx ▸ hhi xh rfl)
        refine ⟨?_, by omega, by omega⟩
        simp [Instr.sliceBounds, e, hi2 k b cap _ h0 (by omega)]
      · cases hb
  | some xl =>
    cases hi with
    | none =>
      simp only [bounds, Option.map_none, Option.map_some] at hb
      split at hb
      · rename_i k a hx
        simp only [Option.some.injEq, Prod.mk.injEq, decide_eq_true_eq] at hb
        obtain ⟨rfl, rfl, h0, h1⟩ := hb
        have e := pinv (hx ▸ hlo xl rfl)
        refine ⟨?_, by omega, by omega⟩
        simp [Instr.sliceBounds, e, hi2 k a len _ h0 (by omega)]
      · cases hb
    | some xh =>
      simp only [bounds, Option.map_some] at hb
      split at hb
      · rename_i k a k' b hx hy
        simp only [Option.some.injEq, Prod.mk.injEq, decide_eq_true_eq] at hb
        obtain ⟨rfl, rfl, h0, h1, h2⟩ := hb
        have e1 := pinv (hx ▸ hlo xl rfl)
        have e2 := pinv (hy ▸ hhi xh rfl)
        refine ⟨?_, by omega, by omega⟩
        simp [Instr.sliceBounds, e1, e2, hi2 k' b cap _ (by omega) (by omega), hi2 k a b.toNat _ h0 (by omega)]
      · cases hb
theorem run_slice_at {t e : TypeId} (ht : P.underlying t = some (.slice e)) {k : Nat} (hk : tSize P e = some k) {a : Option Addr} {len cap l h : Nat} {lo hi mx : Option Value} {m : Nat}
    (hb : (Instr.sliceBounds true len cap lo hi mx).run P w = .ok (l, h, m) w) :
    (Instr.sliceAt t (.slice a len cap) lo hi mx).run P w = .ok (.slice (if m = l then a else a.map (·.add (l * k))) (h - l) (m - l)) w := by
  simp [Instr.sliceAt, Instr.slice, run_underlying ht, hb, run_sizeOf hk]
theorem FRep.sl_inv {v : Value} {k : Nat} {es : List V} (h : FRep w F v (.sl k es)) : (es = [] ∧ ∃ a cap, v = .slice a 0 cap) ∨
    ∃ b p cap, ∃ us : Nat → Nat → Value, v = .slice (some ⟨b, p, none⟩) es.length cap ∧ 0 < es.length ∧ es.length ≤ cap ∧ F b ∧ 0 < k ∧ (∀ i, i < es.length → okE k (nth es i)) ∧
      (∀ i j, i < es.length → j < k → w.cell? ⟨b, p + i * k + j, none⟩ = some (us i j)) ∧ ∀ i j, i < es.length → j < k → FRep w F (us i j) (nth (nth es i).flat j) := by
  cases h with
  | sl0 => exact .inl ⟨rfl, _, _, rfl⟩
  | sl us h1 h2 h3 h4 h5 h6 h7 => exact .inr ⟨_, _, _, us, rfl, h1, h2, h3, h4, h5, h6, h7⟩
theorem FRep.sl_sub {v : Value} {b p k l m cap cap' : Nat} {es : List V} (h : FRep w F v (.sl k es)) (hv : v = .slice (some ⟨b, p, none⟩) es.length cap) (hm : 0 < m) (hlm : l + m ≤ es.length) (hc : m ≤ cap') :
    FRep w F (.slice (some ⟨b, p + l * k, none⟩) m cap') (.sl k ((es.drop l).take m)) := by
  rcases h.sl_inv with ⟨rfl, _⟩ | ⟨b', p', cap2, us, hv2, hne, _, hF, hk, hflat, hcell, hrep⟩
  · simp at hlm; omega
  · rw [hv] at hv2
    cases hv2
    have hlen : ((es.drop l).take m).length = m := by simp; omega
    have hnth : ∀ i, i < m → nth ((es.drop l).take m) i = nth es (l + i) := fun i hi => nth_drop_take _ _ _ _ hi
    have := FRep.sl (w := w) (F := F) (b := b) (off := p + l * k) (cap := cap') (k := k) (es := (es.drop l).take m) (fun i j => us (l + i) j) (by omega) (by omega) hF hk
      (fun i hi => by rw [hnth i (by omega)]; exact hflat _ (by omega))
      (fun i j hi hj => by
        have := hcell (l + i) j (by omega) hj
        rw [← this]; congr 2; rw [Nat.add_mul]; omega)
      (fun i j hi hj => by rw [hnth i (by omega)]; exact hrep _ j (by omega) hj)
    rw [hlen] at this
    exact this
theorem snd_slc_sl (hr : Rep w F β σ Av) {t e : TypeId} (ht : P.underlying t = some (.slice e)) {k : Nat} (hk : tSize P e = some k) {v : Value} {es : List V} (hv : VRep w F β v (.sl k es)) {l h : Nat} {lo hi : Option Value}
    (hb : ∀ cap, es.length ≤ cap → (Instr.sliceBounds true es.length cap lo hi none).run P w = .ok (l, h, cap) w) (h1 : l ≤ h) (h2 : h ≤ es.length) :
    SemOK P (Instr.sliceAt t v lo hi none) w F β σ (.sl k ((es.drop l).take (h - l))) σ Av := by
  cases hv with
  | fr hv =>
    rcases hv.sl_inv with ⟨rfl, a, cap, rfl⟩ | ⟨b, p, cap, us, rfl, hne, hcap, _⟩
    · refine .pure hr (run_slice_at ht hk (hb cap (Nat.zero_le _))) ?_
      have : h - l = 0 := by simp at h2; omega
      rw [this, List.take_zero]; exact .fr .sl0
    · refine .pure hr (run_slice_at ht hk (hb cap hcap)) ?_
      by_cases hz : h - l = 0
      · rw [hz, List.take_zero]; exact .fr .sl0
      · rw [if_neg (by omega)]
        simp only [Option.map_some, addr_add]
        exact .fr (hv.sl_sub rfl (by omega) (by omega) (by omega))
theorem snd_slc_own (hr : Rep w F β σ Av) {t e : TypeId} (ht : P.underlying t = some (.slice e)) {k : Nat} (hk : tSize P e = some k) {v : Value} {n off len : Nat} {es : List V} (hn : σ n = some (.row k es)) (hv : VRep w F β v (.own n off len))
    {l h : Nat} {lo hi : Option Value} (hb : ∀ cap, len ≤ cap → (Instr.sliceBounds true len cap lo hi none).run P w = .ok (l, h, cap) w) (h1 : l ≤ h) (h2 : h ≤ len) (h3 : l < h ∨ l = 0) :
    SemOK P (Instr.sliceAt t v lo hi none) w F β σ (.own n (off + l) (h - l)) σ Av := by
  obtain ⟨lc, hl, ho, _⟩ := hr.obj n _ hn
  rcases hv.own_inv with ⟨b, s, k', sz, cap, hbeta, hlc, hcap, rfl⟩ | ⟨hbeta, rfl, rfl, a, rfl⟩
  · rw [hbeta] at hl; cases hl
    have hkk : k = k' := ho.1
    subst hkk
    refine .pure hr (run_slice_at ht hk (hb cap hlc)) ?_
    have := VRep.own (w := w) (F := F) (n := n) (off := off + l) (len := h - l) (cap := cap - l) hbeta (by omega) (by rw [show off + l + (cap - l) = off + cap by omega]; exact hcap)
    have e : (if cap = l then some (⟨b, s + off * k, none⟩ : Addr) else Option.map (fun x : Addr => x.add (l * k)) (some ⟨b, s + off * k, none⟩)) = some ⟨b, s + (off + l) * k, none⟩ := by
      by_cases hc : cap = l
      · have : l = 0 := by omega
        subst this; simp [hc]
      · rw [if_neg hc]; simp only [Option.map_some, addr_add]; rw [Nat.add_mul]; congr 2; omega
    rw [e]; exact this
  · have : h = 0 ∧ l = 0 := by omega
    obtain ⟨rfl, rfl⟩ := this
    refine .pure hr (run_slice_at ht hk (hb 0 (Nat.le_refl _))) ?_
    simpa using VRep.ownv hbeta
theorem snd_slc_emp (hr : Rep w F β σ Av) {t e : TypeId} (ht : P.underlying t = some (.slice e)) {k : Nat} (hk : tSize P e = some k) {v : Value} (hv : VRep w F β v .emp)
    {l h : Nat} {lo hi : Option Value} (hb : ∀ cap, 0 ≤ cap → (Instr.sliceBounds true 0 cap lo hi none).run P w = .ok (l, h, cap) w) (h1 : l ≤ h) (h2 : h ≤ 0) :
    SemOK P (Instr.sliceAt t v lo hi none) w F β σ .emp σ Av := by
  obtain ⟨a, rfl⟩ := hv.emp_inv
  have : h = 0 ∧ l = 0 := by omega
  obtain ⟨rfl, rfl⟩ := this
  exact .pure hr (run_slice_at ht hk (hb 0 (Nat.le_refl _))) (by simpa using VRep.fr FRep.emp)
theorem snd_slc_zero (hr : Rep w F β σ Av) {t e : TypeId} (ht : P.underlying t = some (.slice e)) {k : Nat} (hk : tSize P e = some k) {a : Option Addr} {len cap : Nat} {k1 k2 : IntKind} :
    SemOK P (Instr.sliceAt t (.slice a len cap) none (some (.int k1 0)) (some (.int k2 0))) w F β σ .emp σ Av := by
  have hi2 : ∀ (k : IntKind) (y : Nat) (code : BoundsCode), (Instr.sliceBound (.int k 0) y code).run P w = .ok 0 w := by
    intro k y code; simp [Instr.sliceBound, asIntOf]
  have hb : (Instr.sliceBounds true len cap none (some (.int k1 0)) (some (.int k2 0))).run P w = .ok (0, 0, 0) w := by
    simp [Instr.sliceBounds, hi2]
  exact .pure hr (run_slice_at ht hk hb) (by simpa using VRep.fr FRep.emp)
theorem snd_sla (hr : Rep w F β σ Av) {t e : TypeId} {n : Nat} (ht : P.underlying t = some (.array n e)) (hk : tSize P e = some 1) {v : Value} {es : List V} {i : Nat} (hv : VRep w F β v (.fptr n es i 0))
    {l h : Nat} {lo hi : Option Value} (hb : (Instr.sliceBounds false n n lo hi none).run P w = .ok (l, h, n) w) (h1 : l ≤ h) (h2 : h ≤ n) :
    SemOK P (Instr.sliceAt t v lo hi none) w F β σ (.sl 1 (((nth es i).flat.drop l).take (h - l))) σ Av := by
  cases hv with
  | fr hv =>
    cases hv with
    | @fptr b off _ _ _ _ us hi' ho hF hflat hcell hrep =>
      have hok := hflat i hi'
      have hlen : (((nth es i).flat.drop l).take (h - l)).length = h - l := by
        rw [List.length_take, List.length_drop, hok.1]; omega
      have hnth : ∀ q, q < h - l → nth (((nth es i).flat.drop l).take (h - l)) q = nth (nth es i).flat (l + q) := fun q hq => by
        simp only [nth, List.getD, List.getElem?_take, List.getElem?_drop, hq, if_true]
      have hone : ∀ q, q < h - l → one (nth (nth es i).flat (l + q)) = true := fun q hq => hok.2 _ (nth_mem (by rw [hok.1]; omega))
      have hrun : (Instr.sliceAt t (.pointer (some ⟨b, off + i * n + 0, none⟩)) lo hi none).run P w = .ok (.slice (some (if n = l then ⟨b, off + i * n + 0, none⟩ else (⟨b, off + i * n + 0, none⟩ : Addr).add (l * 1))) (h - l) (n - l)) w := by
        simp [Instr.sliceAt, run_underlying ht, Instr.sureAddr, hb, run_sizeOf hk]
      refine .pure hr hrun ?_
      by_cases hz : h - l = 0
      · have e0 : (((nth es i).flat.drop l).take (h - l)) = [] := List.eq_nil_of_length_eq_zero (by rw [hlen]; exact hz)
        rw [e0, hz]
        exact .fr .sl0
      · rw [if_neg (by omega : ¬ n = l)]
        have := FRep.sl (w := w) (F := F) (b := b) (off := off + i * n + l) (cap := n - l) (k := 1) (es := ((nth es i).flat.drop l).take (h - l)) (fun q _ => us i (l + q)) (by rw [hlen]; omega) (by rw [hlen]; omega) hF Nat.one_pos
          (fun q hq => by
            rw [hlen] at hq
            rw [hnth q hq]
            have h3 := hone q hq
            refine ⟨by rw [flat_one h3]; rfl, fun c hc => ?_⟩
            rw [flat_one h3, List.mem_singleton] at hc
            rw [hc]; exact h3)
          (fun q j hq hj => by
            rw [hlen] at hq
            have := hcell i (l + q) hi' (by omega)
            rw [show off + i * n + l + q * 1 + j = off + i * n + (l + q) by omega]
            exact this)
          (fun q j hq hj => by
            rw [hlen] at hq
            have h3 := hone q hq
            rw [hnth q hq, flat_one h3]
            have hj0 : j = 0 := by omega
            subst hj0
            exact hrep i (l + q) hi' (by omega))
        rw [hlen] at this
        rw [addr_add, Nat.mul_one, Nat.add_zero]
        exact .fr this
theorem snd_sslc (hr : Rep w F β σ Av) {t : TypeId} (ht : P.underlying t = some .string) {s : ByteArray} {l h : Nat} {lo hi : Option Value}
    (hb : (Instr.sliceBounds false s.size s.size lo hi none).run P w = .ok (l, h, s.size) w) : SemOK P (Instr.sliceAt t (.string s) lo hi none) w F β σ (.p (.string (s.extract l h))) σ Av := by
  refine .pure hr (v := .string (s.extract l h)) ?_ (.of_p rfl)
  simp [Instr.sliceAt, Instr.slice, run_underlying ht, hb]
theorem bytesOfL_spec : ∀ {es : List V} {l : List UInt8}, bytesOfL es = some l → ∃ ns : List Int, es = ns.map (fun n => V.p (.int .u8 n)) ∧ l = ns.map fun n => UInt8.ofNat n.toNat
  | [], l, h => by simp only [bytesOfL, Option.some.injEq] at h; exact ⟨[], rfl, h.symm⟩
  | x :: r, l, h => by
    simp only [bytesOfL] at h
    split at h
    · rename_i b l' h1 h2
      cases h
      obtain ⟨ns, e1, e2⟩ := bytesOfL_spec h2
      unfold byteV at h1
      split at h1
      · rename_i n
        cases h1
        exact ⟨n :: ns, by simp [e1], by simp [e2]⟩
      · cases h1
    · cases h
theorem foldl_push : ∀ (ns : List Int) (acc : List UInt8), ns.foldl (fun (r : ByteArray) n => r.push (UInt8.ofNat n.toNat)) ⟨⟨acc⟩⟩ = ⟨⟨acc ++ ns.map fun n => UInt8.ofNat n.toNat⟩⟩
  | [], acc => by simp
  | n :: ns, acc => by
    rw [List.foldl_cons]
    have : (⟨⟨acc⟩⟩ : ByteArray).push (UInt8.ofNat n.toNat) = ⟨⟨acc ++ [UInt8.ofNat n.toNat]⟩⟩ := by simp [ByteArray.push]
    rw [this, foldl_push ns]
    simp
theorem run_strb {w : World} {F : Nat → Prop} {β : Beta} {v : Value} {es : List V} {l : List UInt8} (hs : SlAt w F β 1 v es) (hl : bytesOfL es = some l) : (Conv.bytesToString v).run P w = .ok (.string ⟨⟨l⟩⟩) w := by
  obtain ⟨ns, rfl, rfl⟩ := bytesOfL_spec hl
  obtain ⟨cs, h1, h2, _, h4⟩ := hs.cells (P := P)
  obtain ⟨a, cap, rfl, h⟩ := hs
  have hlen : (ns.map fun n => V.p (.int .u8 n)).length = ns.length := by simp
  rw [hlen] at h1 h2 h4
  have hcs : cs = ns.map (Value.int .u8) := by
    refine List.ext_getElem (by simpa using h2) fun j hj hj' => ?_
    have hj2 : j < ns.length := by simpa using hj'
    have := h4 j 0 hj2 Nat.one_pos
    have e : nth (nth (ns.map fun n => V.p (.int .u8 n)) j).flat 0 = .p (.int .u8 ns[j]) := by
      have : nth (ns.map fun n => V.p (.int .u8 n)) j = .p (.int .u8 ns[j]) := by simp [nth, List.getD, hj2]
      rw [this]; rfl
    rw [e, Nat.mul_one, Nat.add_zero] at this
    have := this.p_inv.1
    rw [show cs.getD j Go.undef = cs[j] by simp [List.getD, hj]] at this
    rw [this]; simp
  subst hcs
  cases a with
  | none =>
    rcases h with h | ⟨b, p, h, _⟩
    · have : ns = [] := by cases ns with | nil => rfl | cons _ _ => cases h
      subst this
      show (Conv.bytesToString (.slice none 0 cap)).run P w = _
      unfold Conv.bytesToString
      rfl
    · cases h
  | some ad =>
    have hld : (loadCells ad ns.length).run P w = .ok (ns.map (Value.int .u8)).toArray w := by
      have := h1
      simp only [Builtin.firstCells, Nat.mul_one] at this
      rw [hlen] at *
      exact this
    rw [hlen, run_bytesToString w ad ns.length cap ns hld]
    have := foldl_push ns []
    rw [List.nil_append] at this
    rw [← this]; rfl
end
section
open Go
variable {P : Program} {w : World} {F : Nat → Prop} {β : Beta} {σ : Sig} {Av : Nat → Prop}
theorem run_list_mapM {α γ : Type} (f : α → Sem γ) (g : α → Option γ) (h : ∀ a c, g a = some c → (f a).run P w = .ok c w) : ∀ (l : List α) (r : List γ), l.mapM g = some r → (l.mapM f).run P w = .ok r w
  | [], r, hr => by simp at hr; subst hr; rfl
  | a :: l, r, hr => by
    rw [List.mapM_cons] at hr
    cases ha : g a with
    | none => simp [ha] at hr
    | some c =>
      cases hl : l.mapM g with
      | none => simp [ha, hl] at hr
      | some r' =>
        simp [ha, hl] at hr
        subst hr
        rw [List.mapM_cons]
        simp [h a c ha, run_list_mapM f g h l r' hl]
theorem run_array_mapM {α γ : Type} (f : α → Sem γ) (g : α → Option γ) (h : ∀ a c, g a = some c → (f a).run P w = .ok c w) (xs : Array α) (r : List γ) (hr : xs.toList.mapM g = some r) :
    (xs.mapM f).run P w = .ok r.toArray w := by
  have h1 := run_list_mapM f g h xs.toList r hr
  rw [← Array.toList_mapM] at h1
  rw [Sem.run_map] at h1
  cases hx : (xs.mapM f).run P w with
  | halt x w' => simp [hx] at h1
  | ok a w' =>
    simp [hx] at h1
    obtain ⟨h2, rfl⟩ := h1
    congr 1
    apply Array.ext'
    simpa using h2
def CellsRep (w : World) (F : Nat → Prop) (β : Beta) (us : Array Value) (cs : List V) : Prop := us.size = cs.length ∧ ∀ j, j < cs.length → VRep w F β (us.getD j Go.undef) (nth cs j)
theorem foldl_set (off : Nat) : ∀ (l : List Value) (j : Nat) (cs : Array Value), off + j + l.length ≤ cs.size →
    ((l.zipIdx j).foldl (fun cs (cj : Value × Nat) => cs.setIfInBounds (off + cj.2) cj.1) cs) = splice cs (off + j) l
  | [], j, cs, _ => by
    simp [splice]
  | v :: l, j, cs, h => by
    simp only [List.length_cons] at h
    rw [List.zipIdx_cons, List.foldl_cons, foldl_set off l (j + 1) _ (by simp; omega)]
    simp only [splice]
    congr 1
    rw [Array.toList_setIfInBounds]
    have := list_seg_step cs.toList (off + j) v l (by simp; omega)
    simp only [Nat.add_assoc, List.length_cons] at this ⊢
    exact this
theorem putCells_rep {us : Array Value} {cs : List V} (hc : CellsRep w F β us cs) {u : Value} {y : V} (hu : VRep w F β u y) (h1 : y.flat.all one = true) {off : Nat} (hle : off + y.flat.length ≤ cs.length) :
    CellsRep w F β (splice us off u.cells.toList) (putCells cs off y.flat) ∧ u.cells.size = y.flat.length := by
  obtain ⟨hcu, hcv⟩ := vrep_cells hu (all_one h1)
  have hp : off + u.cells.toList.length ≤ us.size := by rw [hc.1]; simp; omega
  refine ⟨⟨?_, fun j hj => ?_⟩, hcu⟩
  · rw [splice_size _ _ _ hp, hc.1]; simp [putCells]; omega
  · have hlen : (putCells cs off y.flat).length = cs.length := by simp [putCells]; omega
    rw [hlen] at hj
    rw [splice_getD _ _ _ hp, putCells, nth_mid _ _ _ _ hle]
    simp only [Array.length_toList, hcu]
    split
    · exact hc.2 j hj
    · split
      · have e : u.cells.toList.getD (j - off) Go.undef = u.cells.getD (j - off) Go.undef := by simp [Array.getD_eq_getD_getElem?, List.getD]
        rw [e]; exact hcv _ (by omega)
      · exact hc.2 j hj
theorem fill_build {ρ : Operand → Value} {τ : X → V} (place : Nat → Option (Nat × Nat)) : ∀ (ps : List (Nat × Operand)) (l : List (Nat × Nat × X)), partsAt place ps = some l → (∀ ix ∈ ps, VRep w F β (ρ ix.2) (τ (toX ix.2))) →
    ∀ (us : Array Value) (cs cs' : List V) (vc : Bool), CellsRep w F β us cs → buildGo τ l cs vc = (cs', true) → vc = true ∧ ∃ us', Instr.fill place us (ps.map fun ix => (ix.1, ρ ix.2)) = some us' ∧ CellsRep w F β us' cs'
  | [], l, hl, _, us, cs, cs', vc, hc, hb => by
    simp [partsAt] at hl
    subst hl
    simp only [buildGo, Prod.mk.injEq] at hb
    obtain ⟨rfl, rfl⟩ := hb
    exact ⟨rfl, us, rfl, hc⟩
  | ix :: ps, l, hl, hρ, us, cs, cs', vc, hc, hb => by
    simp only [partsAt, List.mapM_cons] at hl
    cases hp : place ix.1 with
    | none => simp [hp] at hl
    | some om =>
      cases hl2 : partsAt place ps with
      | none => simp [partsAt] at hl2; simp [hp, hl2] at hl
      | some l2 =>
        have hl3 := hl2
        simp only [partsAt] at hl3
        simp [hp, hl3] at hl
        subst hl
        simp only [buildGo] at hb
        obtain ⟨hvc, us', h1, h2⟩ := fill_build place ps l2 hl2 (fun jy hj => hρ jy (by simp [hj]))
          (splice us om.1 (ρ ix.2).cells.toList) (putCells cs om.1 (τ (toX ix.2)).flat) cs' _ (by
            have hvc : (vc && (τ (toX ix.2)).flat.all one && decide ((τ (toX ix.2)).flat.length = om.2) && decide (om.1 + om.2 ≤ cs.length)) = true := by
              have key : ∀ (l : List (Nat × Nat × X)) (cs : List V) (b : Bool), (buildGo τ l cs b).2 = true → b = true := by
                intro l
                induction l with
                | nil => intro cs b h; exact h
                | cons a l ih => intro cs b h; obtain ⟨o, m, x⟩ := a; simp only [buildGo] at h; have := ih _ _ h; simp at this; simp [this]
              exact key l2 _ _ (by rw [hb])
            simp at hvc
            exact (putCells_rep hc (hρ ix (by simp)) (by simpa using hvc.1.1.2) (by omega)).1) hb
        simp at hvc
        refine ⟨hvc.1.1.1, us', ?_, h2⟩
        obtain ⟨_, hsz⟩ := putCells_rep hc (hρ ix (by simp)) (by simpa using hvc.1.1.2) (off := om.1) (by omega)
        have hc1 := hc.1
        simp only [List.map_cons, Instr.fill, hp]
        rw [if_neg (by
          simp only [Bool.or_eq_true, decide_eq_true_eq, ne_eq, not_or, Decidable.not_not]
          constructor
          · omega
          · omega)]
        have hf := foldl_set om.1 (ρ ix.2).cells.toList 0 us (by simp; omega)
        rw [← h1]
        congr 1
        rw [Nat.add_zero] at hf
        rw [← hf]
        simp only [Array.foldl_toList, ← Array.toList_zipIdx]
end
section
open Go
variable {P : Program} {w : World} {F : Nat → Prop} {β : Beta} {σ : Sig} {Av : Nat → Prop}
theorem snd_build (hr : Rep w F β σ Av) {t : TypeId} {i : TypeInfo} {cs : Array Value} (hi : P.info? t = some i) (hz : i.zero = some (.agg cs)) {ps : Array (Nat × Operand)} {l : List (Nat × Nat × X)} (hl : partsOf P t ps = some l)
    {ρ : Operand → Value} {τ : X → V} (hρ : ∀ ix ∈ ps.toList, VRep w F β (ρ ix.2) (τ (toX ix.2))) {cs' : List V} (hb : buildGo τ l (cs.toList.map ofVal1) true = (cs', true)) :
    SemOK P (Instr.build t (ps.map fun (i, x) => (i, ρ x))) w F β σ (.agg cs') σ Av := by
  have hc0 : CellsRep w F β cs (cs.toList.map ofVal1) := by
    refine ⟨by simp, fun j hj => ?_⟩
    simp only [List.length_map, Array.length_toList] at hj
    rw [nth_map _ _ (by simpa using hj)]
    have : cs.toList.getD j Go.undef = cs.getD j Go.undef := by simp [Array.getD_eq_getD_getElem?, List.getD]
    rw [this]
    exact vrep_ofVal1 _
  have hzv : (zeroValue t).run P w = .ok (.agg cs) w := by simp [zeroValue, typeInfo, hi, hz]
  have hparts : ((ps.map fun (x : Nat × Operand) => (x.1, ρ x.2)).toList) = ps.toList.map fun ix => (ix.1, ρ ix.2) := by simp
  unfold partsOf at hl
  split at hl
  · rename_i fields hu
    cases hpl : placesOf P fields.toList with
    | none => simp [hpl] at hl
    | some pl =>
      simp only [hpl, Option.bind_some] at hl
      obtain ⟨_, us', h1, h2⟩ := fill_build (pl[·]?) ps.toList l hl hρ cs _ cs' true hc0 hb
      have hm := run_array_mapM (P := P) (w := w) (fun f : Field => do pure (f.offset, ← sizeOf f.type)) (fun f => (tSize P f.type).map fun m => (f.offset, m)) (by
        intro f c hc
        cases hs : tSize P f.type with
        | none => simp [hs] at hc
        | some m =>
          simp [hs] at hc
          subst hc
          simp [run_sizeOf hs]) fields pl hpl
      refine .pure hr (v := .agg us') ?_ (.agg h2.1 h2.2)
      have hplace : ((pl.toArray)[·]?) = (pl[·]? : Nat → Option (Nat × Nat)) := by funext i; simp
      simp only [Instr.build, Sem.run_bind, hzv, Result.andThen_ok, run_underlying hu, hm, hplace, hparts, Value.cells, h1, Sem.run_pure]
  · rename_i n elem hu
    cases hm : tSize P elem with
    | none => simp [hm] at hl
    | some m =>
      simp only [hm, Option.bind_some] at hl
      obtain ⟨_, us', h1, h2⟩ := fill_build (fun i => some (i * m, m)) ps.toList l hl hρ cs _ cs' true hc0 hb
      refine .pure hr (v := .agg us') ?_ (.agg h2.1 h2.2)
      simp only [Instr.build, Sem.run_bind, hzv, Result.andThen_ok, run_underlying hu, run_sizeOf hm, hparts, Value.cells, h1, Sem.run_pure]
  · cases hl
theorem nth_flatMap {k : Nat} : ∀ (es : List V), (∀ i, i < es.length → (nth es i).flat.length = k) → ∀ i j, i < es.length → j < k → nth (es.flatMap V.flat) (i * k + j) = nth (nth es i).flat j
  | [], _, i, _, hi, _ => by simp at hi
  | e :: es, h, 0, j, _, hj => by
    have h0 := h 0 (by simp)
    simp only [nth_zero] at h0
    rw [List.flatMap_cons, nth_append, if_pos (by omega)]
    simp
  | e :: es, h, i + 1, j, hi, hj => by
    have h0 := h 0 (by simp)
    simp only [nth_zero] at h0
    rw [List.flatMap_cons, nth_append, h0, Nat.succ_mul, if_neg (by omega)]
    rw [show i * k + k + j - k = i * k + j by omega]
    simp only [List.length_cons, Nat.add_lt_add_iff_right] at hi
    rw [nth_flatMap es (fun q hq => by have := h (q + 1) (by simpa using hq); simpa using this) i j hi hj]
    simp
theorem length_flatMap {k : Nat} : ∀ (es : List V), (∀ i, i < es.length → (nth es i).flat.length = k) → (es.flatMap V.flat).length = es.length * k
  | [], _ => by simp
  | e :: es, h => by
    have h0 := h 0 (by simp)
    simp only [nth_zero] at h0
    rw [List.flatMap_cons, List.length_append, h0, length_flatMap es (fun q hq => by have := h (q + 1) (by simpa using hq); simpa using this)]
    simp [Nat.succ_mul]; omega
theorem flatMap_set {k : Nat} {x : V} (hx : x.flat.length = k) : ∀ (es : List V), (∀ i, i < es.length → (nth es i).flat.length = k) → ∀ i, i < es.length → (es.set i x).flatMap V.flat = putCells (es.flatMap V.flat) (i * k) x.flat
  | [], _, i, hi => by simp at hi
  | e :: es, h, 0, _ => by
    have h0 := h 0 (by simp)
    simp only [nth_zero] at h0
    simp only [List.set_cons_zero, List.flatMap_cons, putCells, Nat.zero_mul, List.take_zero, List.nil_append, Nat.zero_add, hx]
    rw [List.drop_append_of_le_length (by omega), List.drop_of_length_le (by omega), List.nil_append]
  | e :: es, h, i + 1, hi => by
    have h0 := h 0 (by simp)
    simp only [nth_zero] at h0
    simp only [List.length_cons, Nat.add_lt_add_iff_right] at hi
    simp only [List.set_cons_succ, List.flatMap_cons]
    rw [flatMap_set hx es (fun q hq => by have := h (q + 1) (by simpa using hq); simpa using this) i hi]
    simp only [putCells, Nat.succ_mul]
    have t1 : e.flat.take (i * k + k) = e.flat := List.take_of_length_le (by omega)
    have t2 : e.flat.drop (i * k + k + x.flat.length) = [] := List.drop_of_length_le (by omega)
    rw [List.take_append, t1, List.drop_append, t2, h0]
    simp only [List.append_assoc, List.nil_append]
    rw [show i * k + k - k = i * k by omega, show i * k + k + x.flat.length - k = i * k + x.flat.length by omega]
theorem bslice_build {τ : X → V} {k : Nat} : ∀ (l : List (Nat × X)) (es es' : List V) (vc : Bool), (∀ i, i < es.length → okE k (nth es i)) → bsliceGo τ k l es vc = (es', true) →
    vc = true ∧ es'.length = es.length ∧ (∀ i, i < es'.length → okE k (nth es' i)) ∧ buildGo τ (l.map fun ix => (ix.1 * k, k, ix.2)) (es.flatMap V.flat) true = (es'.flatMap V.flat, true)
  | [], es, es', vc, h, hb => by
    simp only [bsliceGo, Prod.mk.injEq] at hb
    obtain ⟨rfl, rfl⟩ := hb
    exact ⟨rfl, rfl, h, rfl⟩
  | (i, x) :: l, es, es', vc, h, hb => by
    simp only [bsliceGo] at hb
    have key : ∀ (l : List (Nat × X)) (cs : List V) (b : Bool), (bsliceGo τ k l cs b).2 = true → b = true := by
      intro l
      induction l with
      | nil => intro cs b h; exact h
      | cons a l ih => intro cs b h; obtain ⟨o, x⟩ := a; simp only [bsliceGo] at h; have := ih _ _ h; simp at this; simp [this]
    have hvc := key l _ _ (by rw [hb])
    simp only [Bool.and_eq_true, decide_eq_true_eq] at hvc
    obtain ⟨⟨⟨hv, h1⟩, hx⟩, hi⟩ := hvc
    obtain ⟨_, hl, hok, hbg⟩ := bslice_build l (es.set i (τ x)) es' _ (by
      intro q hq
      rw [List.length_set] at hq
      rw [nth_set _ _ _ _ hi]
      split
      · exact ⟨hx, all_one h1⟩
      · exact h q hq) hb
    rw [List.length_set] at hl
    refine ⟨hv, hl, hok, ?_⟩
    have hfl := fun q hq => (h q hq).1
    rw [flatMap_set hx es hfl i hi] at hbg
    simp only [List.map_cons, buildGo]
    have hle : i * k + k ≤ (es.flatMap V.flat).length := by
      rw [length_flatMap es hfl]
      have : (i + 1) * k ≤ es.length * k := Nat.mul_le_mul_right _ hi
      rw [Nat.succ_mul] at this; omega
    simp only [h1, hx, Bool.and_self, decide_true, hle]
    exact hbg
theorem replicate_rep {z : V} {k n : Nat} (hz : z.flat.length = k) (h1 : z.flat.all one = true) : ∀ i, i < (List.replicate n z).length → okE k (nth (List.replicate n z) i) := by
  intro i hi
  have : nth (List.replicate n z) i = z := by
    simp only [List.length_replicate] at hi
    simp [nth, List.getD, hi]
  rw [this]; exact ⟨hz, all_one h1⟩
theorem zero_cells_rep {zv : Value} {k n : Nat} (hk : 0 < k) (hz : (ofVal zv).flat.length = k) (h1 : (ofVal zv).flat.all one = true) (hs : zv.cells.size = k) :
    CellsRep w F β ((Array.range (n * k)).map (zv.cells[· % zv.cells.size]!)) ((List.replicate n (ofVal zv)).flatMap V.flat) := by
  have hfl : ∀ i, i < (List.replicate n (ofVal zv)).length → (nth (List.replicate n (ofVal zv)) i).flat.length = k := fun i hi => (replicate_rep hz h1 i hi).1
  refine ⟨by rw [length_flatMap _ hfl]; simp, fun q hq => ?_⟩
  rw [length_flatMap _ hfl, List.length_replicate] at hq
  have hq1 : q / k < n := by rw [Nat.div_lt_iff_lt_mul hk]; exact hq
  have hq2 : q % k < k := Nat.mod_lt _ hk
  have hq3 : q = q / k * k + q % k := by have := Nat.div_add_mod q k; rw [Nat.mul_comm] at this; omega
  have e := nth_flatMap (List.replicate n (ofVal zv)) hfl (q / k) (q % k) (by simpa using hq1) hq2
  rw [← hq3] at e
  rw [e]
  have e2 : nth (List.replicate n (ofVal zv)) (q / k) = ofVal zv := by simp [nth, List.getD, hq1]
  rw [e2]
  obtain ⟨_, hcv⟩ := vrep_cells (vrep_ofVal (w := w) (F := F) (β := β) zv) (all_one h1)
  have e3 : ((Array.range (n * k)).map (zv.cells[· % zv.cells.size]!)).getD q Go.undef = zv.cells.getD (q % k) Go.undef := by
    have h7 : q % k < zv.cells.size := by omega
    simp [Array.getD, hq, hs, hq2]
  rw [e3]
  exact hcv _ (by omega)
theorem CellsRep.row {us : Array Value} {es : List V} {k : Nat} (hok : ∀ i, i < es.length → okE k (nth es i)) (h : CellsRep w F β us (es.flatMap V.flat)) :
    us.size = es.length * k ∧ ∀ i j, i < es.length → j < k → VRep w F β (us.getD (i * k + j) Go.undef) (nth (nth es i).flat j) := by
  have hfl := fun q hq => (hok q hq).1
  refine ⟨by rw [h.1, length_flatMap es hfl], fun i j hi hj => ?_⟩
  rw [← nth_flatMap es hfl i j hi hj]
  refine h.2 _ ?_
  rw [length_flatMap es hfl]
  have : (i + 1) * k ≤ es.length * k := Nat.mul_le_mul_right _ hi
  rw [Nat.succ_mul] at this; omega
theorem snd_bslice (hr : Rep w F β σ Av) {nn : Nat} (hnn : Av nn) {t : TypeId} {k by_ : Nat} {z : V} (ht : elemInfo P t = some (k, by_, z)) {n : Nat} (hn : n * k ≤ 2 ^ 24) (h0 : n ≠ 0) {ps : Array (Nat × Operand)}
    {ρ : Operand → Value} {τ : X → V} (hρ : ∀ ix ∈ ps.toList, VRep w F β (ρ ix.2) (τ (toX ix.2))) {es : List V}
    (hb : bsliceGo τ k (ps.toList.map fun ix => (ix.1, toX ix.2)) (List.replicate n z) (z.flat.all one && decide (z.flat.length = k) && decide (0 < k)) = (es, true)) :
    SemOK P (Instr.buildSlice t n (ps.map fun (i, x) => (i, ρ x))) w F β σ (.own nn 0 n) (upd σ nn (some (.row k es))) (fun m => Av m ∧ m ≠ nn) := by
  obtain ⟨e, i, zv, h1, h2, h3, h4, h5, h6, h7, rfl⟩ := elemInfo_spec ht
  subst h3 h4
  have key : ∀ (l : List (Nat × X)) (cs : List V) (b : Bool), (bsliceGo τ i.size l cs b).2 = true → b = true := by
    intro l
    induction l with
    | nil => intro cs b h; exact h
    | cons a l ih => intro cs b h; obtain ⟨o, x⟩ := a; simp only [bsliceGo] at h; have := ih _ _ h; simp at this; simp [this]
  have hvc := key _ _ _ (by rw [hb])
  simp only [Bool.and_eq_true, decide_eq_true_eq] at hvc
  obtain ⟨⟨hz1, hz2⟩, _⟩ := hvc
  obtain ⟨_, hlen, hok, hbg⟩ := bslice_build _ _ es _ (replicate_rep hz2 hz1) hb
  rw [List.length_replicate] at hlen
  have hparts : partsAt (fun q => some (q * i.size, i.size)) ps.toList = some (ps.toList.map fun ix => (ix.1 * i.size, i.size, toX ix.2)) := by
    have : ∀ l : List (Nat × Operand), partsAt (fun q => some (q * i.size, i.size)) l = some (l.map fun ix => (ix.1 * i.size, i.size, toX ix.2)) := by
      intro l
      induction l with
      | nil => rfl
      | cons a l ih => simp only [partsAt, Option.map_some] at ih; simp [partsAt, List.mapM_cons, ih]
    exact this _
  have hbg' : buildGo τ (ps.toList.map fun ix => (ix.1 * i.size, i.size, toX ix.2)) ((List.replicate n (ofVal zv)).flatMap V.flat) true = (es.flatMap V.flat, true) := by
    rw [← hbg, List.map_map]; rfl
  obtain ⟨_, us', hf, hc⟩ := fill_build _ ps.toList _ hparts hρ _ _ _ true (zero_cells_rep (w := w) (F := F) (β := β) (n := n) h7 hz2 hz1 h6) hbg'
  obtain ⟨hus, hcell⟩ := hc.row hok
  have hR := hr.alloc_row hnn us' e i.size es h7 (by omega) hok hcell
  have hzr : (zeroValue e).run P w = .ok zv w := by simp [zeroValue, typeInfo, h2, h5]
  have hsz : (sizeOf e).run P w = .ok i.size w := by simp [sizeOf, typeInfo, h2]
  have hne : ¬ (n * i.size = 0) := by
    intro h; rcases Nat.mul_eq_zero.1 h with h | h <;> omega
  have hpl : ((ps.map fun (x : Nat × Operand) => (x.1, ρ x.2)).toList) = ps.toList.map fun ix => (ix.1, ρ ix.2) := by simp
  refine ⟨.slice (some ⟨w.heap.size, 0, none⟩) n n, w.alloc (.cells us' e), F, _, ?_, hR.1, ?_, hR.2⟩
  · simp only [Instr.buildSlice, Sem.run_bind, run_underlying h1, Result.andThen_ok, hsz]
    rw [if_neg (by omega)]
    simp only [Sem.run_pure, Result.andThen_ok, Sem.run_bind, if_neg hne, hzr, hpl, hf, newRow, run_newObj]
    rfl
  · have := VRep.own (w := w.alloc (.cells us' e)) (F := F) (β := upd β nn (some (.at w.heap.size 0 i.size us'.size))) (n := nn) (off := 0) (len := n) (cap := n) (upd_same _ _ _) (Nat.le_refl _) (by rw [hus, hlen]; simp)
    simpa using this
end
section
open Go
variable {P : Program} {w : World} {F : Nat → Prop} {β : Beta} {σ : Sig} {Av : Nat → Prop}
theorem wrap64_id {a : Int} (h0 : 0 ≤ a) (h1 : a ≤ 9223372036854775807) : IntKind.i64.wrap a = a := by
  have := IntWalk.i64_in a (by omega)
  exact this
theorem snd_mkslice (hr : Rep w F β σ Av) {nn : Nat} (hnn : Av nn) {t : TypeId} {k by_ : Nat} {z : V} (ht : elemInfo P t = some (k, by_, z)) {k1 k2 : IntKind} {a b : Int} (h0 : 0 ≤ a) (hab : a ≤ b) (hb : b ≤ 9223372036854775807)
    (hby : (by_ : Int) * b ≤ 281474976710656) (hz1 : z.flat.all one = true) (hz2 : z.flat.length = k) :
    SemOK P (Instr.makeSlice t (.int k1 a) (.int k2 b)) w F β σ (.own nn 0 a.toNat) (upd σ nn (some (.row k (List.replicate a.toNat z)))) (fun m => Av m ∧ m ≠ nn) := by
  obtain ⟨e, i, zv, h1, h2, h3, h4, h5, h6, h7, rfl⟩ := elemInfo_spec ht
  subst h3 h4
  have hzr : (zeroValue e).run P w = .ok zv w := by simp [zeroValue, typeInfo, h2, h5]
  have hsz : (sizeOf e).run P w = .ok i.size w := by simp [sizeOf, typeInfo, h2]
  let us : Array Value := (Array.range (b.toNat * i.size)).map (zv.cells[· % zv.cells.size]!)
  have hrow : us.size = b.toNat * i.size ∧ ∀ q j, q < a.toNat → j < i.size → VRep w F β (us.getD (q * i.size + j) Go.undef) (nth (nth (List.replicate a.toNat (ofVal zv)) q).flat j) := by
    obtain ⟨_, h9⟩ := (zero_cells_rep (w := w) (F := F) (β := β) (n := b.toNat) h7 hz2 hz1 h6).row (replicate_rep hz2 hz1)
    refine ⟨by simp [us], fun q j hq hj => ?_⟩
    have := h9 q j (by simp; omega) hj
    have e1 : nth (List.replicate a.toNat (ofVal zv)) q = ofVal zv := by simp [nth, List.getD, hq]
    have e2 : nth (List.replicate b.toNat (ofVal zv)) q = ofVal zv := by simp [nth, List.getD, show q < b.toNat by omega]
    rw [e2] at this; rw [e1]; exact this
  have hR := hr.alloc_row hnn us e i.size (List.replicate a.toNat (ofVal zv)) h7 (by rw [hrow.1, List.length_replicate]; exact Nat.mul_le_mul_right _ (by omega)) (replicate_rep hz2 hz1) (fun q j hq hj => hrow.2 q j (by simpa using hq) hj)
  refine ⟨.slice (some ⟨w.heap.size, 0, none⟩) a.toNat b.toNat, w.alloc (.cells us e), F, _, ?_, hR.1, ?_, hR.2⟩
  · have hwa := wrap64_id h0 (by omega : a ≤ 9223372036854775807)
    have hwb := wrap64_id (by omega : 0 ≤ b) hb
    have hc1 : ¬ (b < 0) := by omega
    have hc2 : ¬ ((i.bytes : Int) * b > 2 ^ 48) := by simpa using hby
    have hc3 : ¬ (a < 0) := by omega
    have hc4 : ¬ (a > b) := by omega
    have hti : (typeInfo e).run P w = .ok i w := by simp [typeInfo, h2]
    simp only [Instr.makeSlice, Sem.run_bind, run_underlying h1, Result.andThen_ok, asInt, run_asIntOf, Sem.run_pure, hti, hwa, hwb, hc1, hc2, hc3, hc4, decide_false, Bool.or_self, Bool.false_eq_true, if_false, run_askRoom, hsz]
    by_cases hz : b.toNat * i.size = 0
    · have hus : (Array.range (b.toNat * i.size)).map ((#[] : Array Value)[· % (#[] : Array Value).size]!) = us := by simp [us, hz]
      simp only [hz, if_true, Sem.run_bind, Sem.run_pure, Result.andThen_ok, newRow, run_newObj]
      rw [← hus, hz]
      rfl
    · simp only [hz, if_false, Sem.run_bind, hzr, Sem.run_pure, Result.andThen_ok, newRow, run_newObj]
      rfl
  · have := VRep.own (w := w.alloc (.cells us e)) (F := F) (β := upd β nn (some (.at w.heap.size 0 i.size us.size))) (n := nn) (off := 0) (len := a.toNat) (cap := b.toNat) (upd_same _ _ _) (by omega) (by rw [hrow.1]; simp)
    simpa using this
theorem Rep.alloc_map (hr : Rep w F β σ Av) {nn : Nat} (hnn : Av nn) : Rep (w.alloc (.map #[] 0)) F (upd β nn (some (.mp w.heap.size))) (upd σ nn (some (.mp []))) (fun n => Av n ∧ n ≠ nn) ∧
    Evolve w F β σ (w.alloc (.map #[] 0)) F (upd β nn (some (.mp w.heap.size))) (upd σ nn (some (.mp []))) := by
  refine hr.change nn (.mp []) (.mp w.heap.size) rfl rfl rfl (by simp) ?_ ?_ ?_ (by simp) ?_ ?_ ?_ ?_ (fun b hb _ => heap_alloc_old w (.map #[] 0) hb)
  · intro n l h
    rw [upd_other]; exact h
    rintro rfl; rw [hr.dom n hnn] at h; cases h
  · intro n hn; rw [upd_other _ _ hn.2]; exact hr.dom n hn.1
  · intro m o hm
    by_cases h : m = nn
    · subst h; simp at hm; exact .inl ⟨rfl, hm.symm⟩
    · rw [upd_other _ _ h] at hm; exact .inr ⟨h, hm⟩
  · exact ⟨#[], 0, heap_alloc_new w _, ⟨rfl, by simp [Born]⟩, by simp⟩
  · intro b hb
    simp only [Loc.block, Option.some.injEq] at hb
    subst hb
    exact ⟨fun h => absurd (hr.falloc _ h) (by omega), by simp⟩
  · intro m o l b hm hs hl hb e
    simp only [Loc.block, Option.some.injEq] at e
    rw [upd_other _ _ hm] at hs
    obtain ⟨l', h1, _, h3⟩ := hr.obj m o hs
    rw [hl] at h1; cases h1
    have := (h3 b hb).2
    omega
  · intro b hb hlt
    simp only [Loc.block, Option.some.injEq] at hb
    omega
theorem snd_mkmap (hr : Rep w F β σ Av) {nn : Nat} (hnn : Av nn) (t : TypeId) : SemOK P (Instr.makeMap t none) w F β σ (.map nn) (upd σ nn (some (.mp []))) (fun n => Av n ∧ n ≠ nn) := by
  obtain ⟨h1, h2⟩ := hr.alloc_map hnn
  refine ⟨.map (some w.heap.size), _, F, _, ?_, h1, .map (upd_same _ _ _), h2⟩
  simp [Instr.makeMap]
theorem Rep.write_map (hr : Rep w F β σ Av) {n b : Nat} {ents ents' : List (V × V)} (hn : σ n = some (.mp ents)) (hb : β n = some (.mp b)) (es : Array MapEntry) (clock : Nat) (hlen : es.size = ents'.length ∧ Born es clock)
    (hes : ∀ i, i < ents'.length → ∃ e x, es[i]? = some e ∧ ents'[i]? = some x ∧ VRep w F β e.key x.1 ∧ VRep w F β e.val x.2) :
    Rep { w with heap := w.heap.setIfInBounds b (.map es clock) } F β (upd σ n (some (.mp ents'))) Av ∧ Evolve w F β σ { w with heap := w.heap.setIfInBounds b (.map es clock) } F β (upd σ n (some (.mp ents'))) := by
  obtain ⟨l, hl, _, hblk⟩ := hr.obj n _ hn
  rw [hb] at hl; cases hl
  have hFb := hblk b rfl
  have hheap : ∀ c, c ≠ b → (w.heap.setIfInBounds b (.map es clock))[c]? = w.heap[c]? := fun c hc => Array.getElem?_setIfInBounds_ne (Ne.symm hc)
  have hnew : (w.heap.setIfInBounds b (.map es clock))[b]? = some (.map es clock) := by simp [hFb.2]
  refine hr.change n (.mp ents') (.mp b) rfl rfl rfl (by simp) (fun _ _ h => h) hr.dom ?_ hb ?_ ?_ ?_ ?_ ?_
  · intro m o hm
    by_cases h : m = n
    · subst h; simp at hm; exact .inl ⟨rfl, hm.symm⟩
    · rw [upd_other _ _ h] at hm; exact .inr ⟨h, hm⟩
  · refine ⟨es, clock, hnew, hlen, fun i hi => ?_⟩
    obtain ⟨e, x, g1, g2, g3, g4⟩ := hes i hi
    have hFh : ∀ c, F c → (w.heap.setIfInBounds b (.map es clock))[c]? = w.heap[c]? := fun c hc => hheap c (by rintro rfl; exact hFb.1 hc)
    exact ⟨e, x, g1, g2, g3.mono (fun _ h => h) hFh (fun _ _ h => h), g4.mono (fun _ h => h) hFh (fun _ _ h => h)⟩
  · intro c hc
    simp only [Loc.block, Option.some.injEq] at hc
    subst hc
    exact ⟨hFb.1, by simpa using hFb.2⟩
  · intro m o l c hm hs hl hb' e
    simp only [Loc.block, Option.some.injEq] at e
    subst e
    rw [upd_other _ _ hm] at hs
    exact hm (hr.sep m n o _ l _ _ hs hn hl hb hb' rfl)
  · intro c hc _; exact ⟨n, _, _, hn, hb, hc⟩
  · intro c _ hc; exact hheap c (fun e => hc (by simp [Loc.block, e]))
def fitsD (d : TypeDesc) (kv : Value) : Bool := match d, kv with | .string, .string _ => true | .int _, .int _ _ => true | _, _ => false
theorem beq_bytes (a b : ByteArray) : (a == b) = (strOf a == strOf b) := by
  have h1 : (a == b) = (a.data == b.data) := rfl
  rw [h1, Bool.eq_iff_iff, beq_iff_eq, beq_iff_eq]
  exact ⟨fun h => by simp [strOf, h], fun h => Array.ext' h⟩
theorem sameNow_key {d : TypeDesc} {kv u : Value} {x : V} (hx : VRep w F β u x) {r : Bool} (h : keyEq kv x = some r) (hk : fitsD d kv = true) :
    Instr.sameNow d kv u = some r := by
  cases x with
  | p u' =>
    obtain ⟨rfl, _⟩ := hx.p_inv
    cases kv with
    | int k a =>
      cases u with
      | int k' b =>
        by_cases hkk : k = k'
        · subst hkk
          simp only [keyEq, beq_self_eq_true, Option.some.injEq] at h
          subst h
          cases d <;> first | (cases hk; done) | simp [Instr.sameNow]
        · have : (k == k') = false := by simpa using hkk
          simp [keyEq, this] at h
      | _ => simp [keyEq] at h
    | string a =>
      cases u with
      | string b =>
        simp only [keyEq, Option.some.injEq] at h
        subst h
        cases d <;> first | (cases hk; done) | simp [Instr.sameNow, beq_bytes]
      | _ => simp [keyEq] at h
    | _ => simp [keyEq] at h
  | _ => cases kv <;> simp [keyEq] at h
end
section
open Go
variable {P : Program} {w : World} {F : Nat → Prop} {β : Beta} {σ : Sig} {Av : Nat → Prop}
def EntsRep (w : World) (F : Nat → Prop) (β : Beta) (es : List MapEntry) (ents : List (V × V)) : Prop :=
  es.length = ents.length ∧ ∀ i, i < ents.length → ∃ e x, es[i]? = some e ∧ ents[i]? = some x ∧ VRep w F β e.key x.1 ∧ VRep w F β e.val x.2
theorem EntsRep.cons_inv {es : List MapEntry} {x : V × V} {r : List (V × V)} (h : EntsRep w F β es (x :: r)) : ∃ e es', es = e :: es' ∧ VRep w F β e.key x.1 ∧ VRep w F β e.val x.2 ∧ EntsRep w F β es' r := by
  obtain ⟨hl, h⟩ := h
  cases es with
  | nil => simp at hl
  | cons e es' =>
    obtain ⟨e', x', h1, h2, h3, h4⟩ := h 0 (by simp)
    simp at h1 h2
    subst h1 h2
    refine ⟨_, es', rfl, h3, h4, by simpa using hl, fun i hi => ?_⟩
    obtain ⟨e2, x2, g⟩ := h (i + 1) (by simpa using hi)
    exact ⟨e2, x2, by simpa using g⟩
theorem EntsRep.cons {e : MapEntry} {es : List MapEntry} {x : V × V} {r : List (V × V)} (h1 : VRep w F β e.key x.1) (h2 : VRep w F β e.val x.2) (h : EntsRep w F β es r) : EntsRep w F β (e :: es) (x :: r) := by
  refine ⟨by simp [h.1], fun i hi => ?_⟩
  cases i with
  | zero => exact ⟨e, x, by simp, by simp, h1, h2⟩
  | succ i =>
    obtain ⟨e2, x2, g⟩ := h.2 i (by simpa using hi)
    exact ⟨e2, x2, by simpa using g⟩
theorem findNow_spec {d : TypeDesc} {kv : Value} (hk : fitsD d kv = true) : ∀ (ents : List (V × V)) (es : List MapEntry) (j : Nat) (r : Option V), EntsRep w F β es ents → mfind kv ents = some r →
    (match r with
     | none => Instr.findNow d kv es j = some none
     | some x => ∃ i v, Instr.findNow d kv es j = some (some (i, v)) ∧ VRep w F β v x)
  | [], es, j, r, h, hm => by
    have : es = [] := List.eq_nil_of_length_eq_zero (by simpa using h.1)
    subst this
    simp only [mfind, Option.some.injEq] at hm
    subst hm
    rfl
  | x :: ents, es, j, r, h, hm => by
    obtain ⟨e, es', rfl, h1, h2, h3⟩ := h.cons_inv
    obtain ⟨xk, xv⟩ := x
    simp only [mfind] at hm
    cases hke : keyEq kv xk with
    | none => simp [hke] at hm
    | some b =>
      have hs := sameNow_key (d := d) h1 hke hk
      cases b with
      | true =>
        simp only [hke, Option.some.injEq] at hm
        subst hm
        exact ⟨j, e.val, by simp [Instr.findNow, hs], h2⟩
      | false =>
        simp only [hke] at hm
        have := findNow_spec hk ents es' (j + 1) r h3 hm
        simpa [Instr.findNow, hs] using this
theorem map_obj (hr : Rep w F β σ Av) {v : Value} {n : Nat} (hv : VRep w F β v (.map n)) {ents : List (V × V)} (hn : σ n = some (.mp ents)) :
    ∃ b es clock, v = .map (some b) ∧ β n = some (.mp b) ∧ w.heap[b]? = some (.map es clock) ∧ EntsRep w F β es.toList ents ∧ Born es clock := by
  obtain ⟨b, rfl, hb⟩ := hv.map_inv
  obtain ⟨l, hl, ho, _⟩ := hr.obj n _ hn
  rw [hb] at hl; cases hl
  obtain ⟨es, clock, h1, h2, h3⟩ := ho
  refine ⟨b, es, clock, rfl, hb, h1, ⟨by simpa using h2.1, fun i hi => ?_⟩, h2.2⟩
  obtain ⟨e, x, g⟩ := h3 i hi
  exact ⟨e, x, by simpa using g⟩
theorem born_modify {es : Array MapEntry} {clock i : Nat} {f : MapEntry → MapEntry} (hf : ∀ e, (f e).born = e.born) (h : Born es clock) : Born (es.modify i f) clock := by
  have e1 : (es.modify i f).toList.map (·.born) = es.toList.map (·.born) := by
    rw [Array.toList_modify]
    refine List.ext_getElem? fun j => ?_
    simp only [List.getElem?_map, List.getElem?_modify]
    cases es.toList[j]? with
    | none => rfl
    | some e => by_cases hij : i = j <;> simp [hij, hf]
  refine ⟨fun x hx => ?_, by rw [e1]; exact h.2⟩
  have : x.born ∈ (es.modify i f).toList.map (·.born) := List.mem_map_of_mem hx
  rw [e1, List.mem_map] at this
  obtain ⟨y, hy, e⟩ := this
  rw [← e]; exact h.1 y hy
theorem born_push {es : Array MapEntry} {clock : Nat} {e : MapEntry} (he : e.born = clock) (h : Born es clock) : Born (es.push e) (clock + 1) := by
  refine ⟨fun x hx => ?_, ?_⟩
  · rw [Array.toList_push, List.mem_append, List.mem_singleton] at hx
    rcases hx with hx | rfl
    · have := h.1 x hx; omega
    · omega
  · rw [Array.toList_push, List.map_append, List.nodup_append]
    refine ⟨h.2, by simp, fun a ha b hb => ?_⟩
    rw [List.mem_map] at ha
    obtain ⟨y, hy, rfl⟩ := ha
    have := h.1 y hy
    simp at hb
    omega
theorem run_checkKey {kt : TypeId} {d : TypeDesc} (hd : P.underlying kt = some d) {kv : Value} (hk : fitsD d kv = true) (b : Bool) (n : Nat) : (Instr.checkKey b (n + 1) kt kv).run P w = .ok () w := by
  cases d <;> cases kv <;> first | (cases hk; done) | simp [Instr.checkKey, run_underlying hd]
theorem run_getObj {b : Nat} {es : Array MapEntry} {clock : Nat} (h : w.heap[b]? = some (.map es clock)) : (getObj b).run P w = .ok (.map es clock) w := by
  simp [getObj, Sem.run, h]
theorem snd_lookup (hr : Rep w F β σ Av) {t kt et : TypeId} (ht : P.underlying t = some (.map kt et)) {d : TypeDesc} (hd : P.underlying kt = some d) {z : V} (hz : tZero P et = some z) {m kv : Value} {n : Nat} (hm : VRep w F β m (.map n)) (hk : fitsD d kv = true)
    {ents : List (V × V)} (hn : σ n = some (.mp ents)) {r : Option V} (h : mfind kv ents = some r) (ok : Bool) :
    SemOK P (Instr.lookup t m kv ok) w F β σ (match ok with | true => .tup [r.getD z, .p (.bool r.isSome)] | false => r.getD z) σ Av := by
  obtain ⟨b, es, clock, rfl, hb, hheap, hents, hborn⟩ := map_obj hr hm hn
  have hf := findNow_spec hk ents es.toList 0 r hents h
  have hck : ∀ bb, (Instr.checkKey bb 10000 kt kv).run P w = .ok () w := fun bb => run_checkKey hd hk bb 9999
  have hres : ∃ v, (Instr.lookup t (.map (some b)) kv ok).run P w = .ok (if ok then .tuple #[v, .bool r.isSome] else v) w ∧ VRep w F β v (r.getD z) := by
    cases r with
    | none =>
      simp only at hf
      unfold tZero at hz
      cases hi : P.info? et with
      | none => simp [hi] at hz
      | some i =>
        cases hzv : i.zero with
        | none => simp [hi, hzv] at hz
        | some zv =>
          simp only [hi, hzv, Option.bind_some, Option.map_some, Option.some.injEq] at hz
          subst hz
          refine ⟨zv, ?_, vrep_ofVal zv⟩
          simp only [Instr.lookup, Sem.run_bind, run_underlying ht, Result.andThen_ok, run_getObj hheap, Sem.run_pure, hck, Instr.findKey, run_underlying hd, hf, zeroValue, typeInfo, run_program, hi, hzv]
          rfl
    | some x =>
      obtain ⟨i, v, hf, hv⟩ := hf
      refine ⟨v, ?_, hv⟩
      simp only [Instr.lookup, Sem.run_bind, run_underlying ht, Result.andThen_ok, run_getObj hheap, Sem.run_pure, hck, Instr.findKey, run_underlying hd, hf]
      rfl
  obtain ⟨v, hrun, hv⟩ := hres
  refine .pure hr hrun ?_
  cases ok with
  | false => exact hv
  | true =>
    refine .tup rfl fun j hj => ?_
    match j, hj with
    | 0, _ => exact hv
    | 1, _ => exact .of_p rfl
theorem sameBits_refl {a b : Value} {x : V} {d : TypeDesc} (hx : VRep w F β a x) (hk : fitsD d b = true) (h : keyEq b x = some true) : Instr.sameBits 10000 a b = true := by
  cases x with
  | p u =>
    obtain ⟨rfl, _⟩ := hx.p_inv
    cases b with
    | int k q =>
      cases a with
      | int k' q' =>
        by_cases hkk : k = k'
        · subst hkk
          simp only [keyEq, beq_self_eq_true, Option.some.injEq, beq_iff_eq] at h
          subst h
          simp [Instr.sameBits]
        · have : (k == k') = false := by simpa using hkk
          simp [keyEq, this] at h
      | _ => simp [keyEq] at h
    | string s =>
      cases a with
      | string s' =>
        simp only [keyEq, Option.some.injEq, beq_iff_eq] at h
        simp [Instr.sameBits, beq_bytes, h]
      | _ => simp [keyEq] at h
    | _ => simp [keyEq] at h
  | _ => cases b <;> simp [keyEq] at h
theorem mset_spec {d : TypeDesc} {kv u : Value} {x : V} (hk : fitsD d kv = true) (hpl : pl kv = true) (hu : VRep w F β u x) (clock : Nat) : ∀ (ents ents' : List (V × V)) (es : List MapEntry) (j : Nat), EntsRep w F β es ents → mset kv x ents = some ents' →
    (∃ i v, Instr.findNow d kv es j = some (some (j + i, v)) ∧ i < es.length ∧ (∃ e, es[i]? = some e ∧ Instr.sameBits 10000 e.key kv = true) ∧ EntsRep w F β (es.modify i fun e => { e with key := kv, val := u }) ents') ∨
    (Instr.findNow d kv es j = some none ∧ EntsRep w F β (es ++ [{ key := kv, val := u, born := clock }]) ents')
  | [], ents', es, j, h, hm => by
    have : es = [] := List.eq_nil_of_length_eq_zero (by simpa using h.1)
    subst this
    simp only [mset, Option.some.injEq] at hm
    subst hm
    exact .inr ⟨rfl, EntsRep.cons (.of_p hpl) hu ⟨rfl, by simp⟩⟩
  | (xk, xv) :: ents, ents', es, j, h, hm => by
    obtain ⟨e, es', rfl, h1, h2, h3⟩ := h.cons_inv
    simp only [mset] at hm
    cases hke : keyEq kv xk with
    | none => simp [hke] at hm
    | some b =>
      have hs := sameNow_key (d := d) h1 hke hk
      cases b with
      | true =>
        simp only [hke, Option.some.injEq] at hm
        subst hm
        refine .inl ⟨0, e.val, by simp [Instr.findNow, hs], by simp, ⟨e, rfl, sameBits_refl h1 hk hke⟩, ?_⟩
        exact EntsRep.cons (.of_p hpl) hu h3
      | false =>
        simp only [hke] at hm
        cases hms : mset kv x ents with
        | none => simp [hms] at hm
        | some r =>
          simp only [hms, Option.map_some, Option.some.injEq] at hm
          subst hm
          rcases mset_spec hk hpl hu clock ents r es' (j + 1) h3 hms with ⟨i, v, g1, g2, g3, g4⟩ | ⟨g1, g2⟩
          · refine .inl ⟨i + 1, v, ?_, by simpa using g2, by simpa using g3, ?_⟩
            · simp only [Instr.findNow, hs, g1]; congr 3; omega
            · exact EntsRep.cons h1 h2 g4
          · exact .inr ⟨by simp [Instr.findNow, hs, g1], EntsRep.cons h1 h2 g2⟩
theorem snd_mapset (hr : Rep w F β σ Av) {t kt et : TypeId} (ht : P.underlying t = some (.map kt et)) {d : TypeDesc} (hd : P.underlying kt = some d) {m kv u : Value} {x : V} {n : Nat} (hm : VRep w F β m (.map n)) (hk : fitsD d kv = true) (hu : VRep w F β u x)
    {ents ents' : List (V × V)} (hn : σ n = some (.mp ents)) (h : mset kv x ents = some ents') :
    ∃ w', (Instr.mapUpdate t m kv u).run P w = .ok () w' ∧ Rep w' F β (upd σ n (some (.mp ents'))) Av ∧ Evolve w F β σ w' F β (upd σ n (some (.mp ents'))) := by
  obtain ⟨b, es, clock, rfl, hb, hheap, hents, hborn⟩ := map_obj hr hm hn
  have hpl : pl kv = true := by cases d <;> cases kv <;> first | rfl | cases hk
  have hck : ∀ bb, (Instr.checkKey bb 10000 kt kv).run P w = .ok () w := fun bb => run_checkKey hd hk bb 9999
  have hset : ∀ o, (setObj b o).run P w = .ok () { w with heap := w.heap.setIfInBounds b o } := by
    intro o; simp [setObj, Sem.run, hheap]
  rcases mset_spec hk hpl hu clock ents ents' es.toList 0 hents h with ⟨i, v, g1, g2, ⟨e, g3, g5⟩, g4⟩ | ⟨g1, g2⟩
  · rw [Nat.zero_add] at g1
    have hrun : (Instr.mapUpdate t (.map (some b)) kv u).run P w = .ok () { w with heap := w.heap.setIfInBounds b (.map (es.modify i fun e => { e with key := kv, val := u }) clock) } := by
      have g3' : es[i]? = some e := by simpa using g3
      simp only [Instr.mapUpdate, Sem.run_bind, run_underlying ht, Result.andThen_ok, run_getObj hheap, hck, Instr.findKey, run_underlying hd, g1, Sem.run_pure, Instr.keyThatStays, g3', Option.map_some, Option.getD_some, g5, if_true]
      exact hset _
    refine ⟨_, hrun, ?_⟩
    refine hr.write_map hn hb _ clock ⟨by have := g4.1; simpa using this, born_modify (fun _ => rfl) hborn⟩ fun q hq => ?_
    obtain ⟨e2, x2, k1, k2, k3⟩ := g4.2 q hq
    refine ⟨e2, x2, ?_, k2, k3⟩
    rw [← Array.getElem?_toList, Array.toList_modify]
    exact k1
  · have hrun : (Instr.mapUpdate t (.map (some b)) kv u).run P w = .ok () { w with heap := w.heap.setIfInBounds b (.map (es.push { key := kv, val := u, born := clock }) (clock + 1)) } := by
      simp only [Instr.mapUpdate, Sem.run_bind, run_underlying ht, Result.andThen_ok, run_getObj hheap, hck, Instr.findKey, run_underlying hd, g1, Sem.run_pure]
      exact hset _
    refine ⟨_, hrun, ?_⟩
    refine hr.write_map hn hb _ (clock + 1) ⟨by have := g2.1; simpa using this, born_push rfl hborn⟩ fun q hq => ?_
    obtain ⟨e2, x2, k1, k2, k3⟩ := g2.2 q hq
    refine ⟨e2, x2, ?_, k2, k3⟩
    rw [← Array.getElem?_toList, Array.toList_push]
    exact k1
end
section
open Go
variable {P : Program} {w : World} {F : Nat → Prop} {β : Beta} {σ : Sig} {Av : Nat → Prop}
theorem strs2_inv {v : Value} {x : V} {k : ByteArray × ByteArray} (hx : VRep w F β v x) (h : strs2 x = some k) : v = .agg #[.string k.1, .string k.2] ∧ x = .agg [.p (.string k.1), .p (.string k.2)] := by
  unfold strs2 at h
  split at h
  · rename_i a b
    simp only [Option.some.injEq] at h
    subst h
    refine ⟨?_, rfl⟩
    obtain ⟨us, rfl, hl, hh⟩ := hx.agg_inv
    have h0 := (hh 0 (by simp)).p_inv.1
    have h1 := (hh 1 (by simp)).p_inv.1
    have hs : us.size = 2 := hl
    congr 1
    apply Array.ext
    · simpa using hs
    · intro i hi1 hi2
      have hi : i < 2 := by simpa using hi2
      match i, hi with
      | 0, _ => simpa [Array.getD, hs] using h0
      | 1, _ => simpa [Array.getD, hs] using h1
  · cases h
structure Key2 (P : Program) (kt e : TypeId) : Prop where
  key : P.underlying kt = some (.array 2 e)
  el : P.underlying e = some .string
  size : P.cellsOf e = 1
theorem Key2.info {kt e : TypeId} (h : Key2 P kt e) : ∃ i, P.info? e = some i := info_of_underlying h.el
theorem Key2.plain {kt e : TypeId} (h : Key2 P kt e) : P.plainKey e = true := by simp [Program.plainKey, h.el]
theorem run_equal2 {kt e : TypeId} (h : Key2 P kt e) (a b c d : ByteArray) (w : World) :
    (Op.equal kt (.agg #[.string a, .string b]) (.agg #[.string c, .string d])).run P w = .ok ((strOf a == strOf c) && (strOf b == strOf d)) w := by
  obtain ⟨i, hi⟩ := h.info
  have e0 : Op.equal kt (.agg #[.string a, .string b]) (.agg #[.string c, .string d]) = Op.equalIn (9999 + 1) kt (.agg #[.string a, .string b]) (.agg #[.string c, .string d]) := rfl
  rw [e0, run_equalIn_array w 9999 _ _ h.key hi]
  have r2 : List.range 2 = [0, 1] := rfl
  have p := h.plain
  have p0 : (part e #[.string a, .string b] 0).run P w = .ok (.string a) w := run_part_plain w p rfl
  have p1 : (part e #[.string a, .string b] 1).run P w = .ok (.string b) w := run_part_plain w p rfl
  have q0 : (part e #[.string c, .string d] 0).run P w = .ok (.string c) w := run_part_plain w p rfl
  have q1 : (part e #[.string c, .string d] 1).run P w = .ok (.string d) w := run_part_plain w p rfl
  have s : ∀ x y : ByteArray, (Op.equalIn 9999 e (.string x) (.string y)).run P w = .ok (strOf x == strOf y) w := by
    intro x y
    have s0 : ∀ dd, (Op.equalIn (dd + 1) e (.string x) (.string y)).run P w = .ok (strOf x == strOf y) w := by
      intro dd
      simp [Op.equalIn, run_underlying h.el, beq_bytes]
    exact s0 9998
  simp only [r2, Op.eqItems, h.size, Nat.zero_mul, Nat.one_mul, Sem.run_bind, p0, q0, Result.andThen_ok, s]
  cases strOf a == strOf c
  · simp
  · simp only [Bool.not_true, Bool.false_eq_true, if_false, Sem.run_bind, p1, q1, Result.andThen_ok, s, Bool.true_and]
    cases strOf b == strOf d <;> simp
theorem run_checkKey2 {kt e : TypeId} (h : Key2 P kt e) (a b : ByteArray) (bb : Bool) (w : World) : (Instr.checkKey bb 10000 kt (.agg #[.string a, .string b])).run P w = .ok () w := by
  obtain ⟨i, hi⟩ := h.info
  have e0 : Instr.checkKey bb 10000 kt (.agg #[.string a, .string b]) = Instr.checkKey bb (9999 + 1) kt (.agg #[.string a, .string b]) := rfl
  have p := h.plain
  have p0 : (part e #[.string a, .string b] 0).run P w = .ok (.string a) w := run_part_plain w p rfl
  have p1 : (part e #[.string a, .string b] 1).run P w = .ok (.string b) w := run_part_plain w p rfl
  have s : ∀ x : ByteArray, (Instr.checkKey bb 9999 e (.string x)).run P w = .ok () w := by
    intro x
    have s0 : ∀ dd, (Instr.checkKey bb (dd + 1) e (.string x)).run P w = .ok () w := by
      intro dd
      simp [Instr.checkKey, run_underlying h.el]
    exact s0 9998
  rw [e0, Instr.checkKey]
  simp only [Sem.run_bind, run_underlying h.key, Result.andThen_ok]
  simp only [Std.Legacy.Range.forIn_eq_forIn_range', Std.Legacy.Range.size, Nat.sub_zero, Nat.add_one_sub_one, Nat.div_one]
  have r2 : List.range' 0 2 = [0, 1] := rfl
  have hs : (sizeOf e).run P w = .ok 1 w := by rw [Go.run_sizeOf w hi, h.size]
  simp only [r2, List.forIn_cons, List.forIn_nil, Sem.run_bind, hs, Nat.zero_mul, Nat.one_mul, p0, p1, s, Result.andThen_ok, Sem.run_pure]
theorem findKey2_spec {kt e : TypeId} (ht : Key2 P kt e) {k : ByteArray × ByteArray} : ∀ (ents : List (V × V)) (es : List MapEntry) (j : Nat) (r : Option V), EntsRep w F β es ents → amfind k ents = some r →
    (match r with
     | none => (Instr.findAsking kt (.agg #[.string k.1, .string k.2]) es j).run P w = .ok none w
     | some x => ∃ i v, (Instr.findAsking kt (.agg #[.string k.1, .string k.2]) es j).run P w = .ok (some (i, v)) w ∧ VRep w F β v x)
  | [], es, j, r, h, hm => by
    have : es = [] := List.eq_nil_of_length_eq_zero (by simpa using h.1)
    subst this
    simp only [amfind, Option.some.injEq] at hm
    subst hm
    simp [Instr.findAsking]
  | x :: ents, es, j, r, h, hm => by
    obtain ⟨e, es', rfl, h1, h2, h3⟩ := h.cons_inv
    obtain ⟨xk, xv⟩ := x
    simp only [amfind] at hm
    cases hke : akeyEq k xk with
    | none => simp [hke] at hm
    | some b =>
      have hs : (Op.equal kt (.agg #[.string k.1, .string k.2]) e.key).run P w = .ok b w := by
        unfold akeyEq at hke
        cases hy : strs2 xk with
        | none => simp [hy] at hke
        | some y =>
          simp only [hy, Option.some.injEq] at hke
          rw [(strs2_inv h1 hy).1, run_equal2 ht, hke]
      cases b with
      | true =>
        simp only [hke, Option.some.injEq] at hm
        subst hm
        exact ⟨j, e.val, by simp [Instr.findAsking, hs], h2⟩
      | false =>
        simp only [hke] at hm
        have := findKey2_spec ht ents es' (j + 1) r h3 hm
        simpa [Instr.findAsking, hs] using this
theorem run_findKey2 {kt e : TypeId} (ht : Key2 P kt e) (x : Value) (es : List MapEntry) (w : World) : (Instr.findKey kt x es).run P w = (Instr.findAsking kt x es).run P w :=
  run_findKey_eq w (by rw [ht.key]) x es
theorem snd_lookup2 (hr : Rep w F β σ Av) {t kt et e : TypeId} (ht : P.underlying t = some (.map kt et)) (hd : Key2 P kt e) {z : V} (hz : tZero P et = some z) {k : ByteArray × ByteArray}
    {b : Nat} {es : Array MapEntry} {clock : Nat} (hheap : w.heap[b]? = some (.map es clock)) {ents : List (V × V)} (hents : EntsRep w F β es.toList ents) {r : Option V} (h : amfind k ents = some r) (ok : Bool) :
    SemOK P (Instr.lookup t (.map (some b)) (.agg #[.string k.1, .string k.2]) ok) w F β σ (match ok with | true => .tup [r.getD z, .p (.bool r.isSome)] | false => r.getD z) σ Av := by
  have hf := findKey2_spec hd ents es.toList 0 r hents h
  have hck : ∀ bb, (Instr.checkKey bb 10000 kt (.agg #[.string k.1, .string k.2])).run P w = .ok () w := fun bb => run_checkKey2 hd _ _ bb w
  have hres : ∃ v, (Instr.lookup t (.map (some b)) (.agg #[.string k.1, .string k.2]) ok).run P w = .ok (if ok then .tuple #[v, .bool r.isSome] else v) w ∧ VRep w F β v (r.getD z) := by
    cases r with
    | none =>
      simp only at hf
      unfold tZero at hz
      cases hi : P.info? et with
      | none => simp [hi] at hz
      | some i =>
        cases hzv : i.zero with
        | none => simp [hi, hzv] at hz
        | some zv =>
          simp only [hi, hzv, Option.bind_some, Option.map_some, Option.some.injEq] at hz
          subst hz
          refine ⟨zv, ?_, vrep_ofVal zv⟩
          simp only [Instr.lookup, Sem.run_bind, run_underlying ht, Result.andThen_ok, run_getObj hheap, Sem.run_pure, hck, run_findKey2 hd, hf, zeroValue, typeInfo, run_program, hi, hzv]
          rfl
    | some x =>
      obtain ⟨i, v, hf, hv⟩ := hf
      refine ⟨v, ?_, hv⟩
      simp only [Instr.lookup, Sem.run_bind, run_underlying ht, Result.andThen_ok, run_getObj hheap, Sem.run_pure, hck, run_findKey2 hd, hf]
      rfl
  obtain ⟨v, hrun, hv⟩ := hres
  refine .pure hr hrun ?_
  cases ok with
  | false => exact hv
  | true =>
    refine .tup rfl fun j hj => ?_
    match j, hj with
    | 0, _ => exact hv
    | 1, _ => exact .of_p rfl
theorem sameBits2 {k y : ByteArray × ByteArray} (h : ((strOf k.1 == strOf y.1) && (strOf k.2 == strOf y.2)) = true) : Instr.sameBits 10000 (.agg #[.string y.1, .string y.2]) (.agg #[.string k.1, .string k.2]) = true := by
  simp only [Bool.and_eq_true, beq_iff_eq] at h
  have s0 : ∀ dd, Instr.sameBits (dd + 2) (.agg #[.string y.1, .string y.2]) (.agg #[.string k.1, .string k.2]) = true := by
    intro dd
    simp [Instr.sameBits, beq_bytes, h.1, h.2]
  exact s0 9998
theorem mset2_spec {kt e0 : TypeId} (ht : Key2 P kt e0) {k : ByteArray × ByteArray} {u : Value} {x kx : V} (hk : VRep w F β (.agg #[.string k.1, .string k.2]) kx) (hu : VRep w F β u x) (clock : Nat) : ∀ (ents ents' : List (V × V)) (es : List MapEntry) (j : Nat), EntsRep w F β es ents → amset kx k x ents = some ents' →
    (∃ i v, (Instr.findAsking kt (.agg #[.string k.1, .string k.2]) es j).run P w = .ok (some (j + i, v)) w ∧ i < es.length ∧ (∃ e, es[i]? = some e ∧ Instr.sameBits 10000 e.key (.agg #[.string k.1, .string k.2]) = true) ∧ EntsRep w F β (es.modify i fun e => { e with key := .agg #[.string k.1, .string k.2], val := u }) ents') ∨
    ((Instr.findAsking kt (.agg #[.string k.1, .string k.2]) es j).run P w = .ok none w ∧ EntsRep w F β (es ++ [{ key := .agg #[.string k.1, .string k.2], val := u, born := clock }]) ents')
  | [], ents', es, j, h, hm => by
    have : es = [] := List.eq_nil_of_length_eq_zero (by simpa using h.1)
    subst this
    simp only [amset, Option.some.injEq] at hm
    subst hm
    exact .inr ⟨by simp [Instr.findAsking], EntsRep.cons hk hu ⟨rfl, by simp⟩⟩
  | (xk, xv) :: ents, ents', es, j, h, hm => by
    obtain ⟨e, es', rfl, h1, h2, h3⟩ := h.cons_inv
    simp only [amset] at hm
    cases hke : akeyEq k xk with
    | none => simp [hke] at hm
    | some b =>
      unfold akeyEq at hke
      cases hy : strs2 xk with
      | none => simp [hy] at hke
      | some y =>
        have hke0 : akeyEq k xk = some b := by unfold akeyEq; exact hke
        simp only [hy, Option.some.injEq] at hke
        have hkey := (strs2_inv h1 hy).1
        have hs : (Op.equal kt (.agg #[.string k.1, .string k.2]) e.key).run P w = .ok b w := by rw [hkey, run_equal2 ht, hke]
        cases b with
        | true =>
          simp only [hke0, Option.some.injEq] at hm
          subst hm
          refine .inl ⟨0, e.val, by simp [Instr.findAsking, hs], by simp, ⟨e, rfl, by rw [hkey]; exact sameBits2 hke⟩, ?_⟩
          exact EntsRep.cons hk hu h3
        | false =>
          simp only [hke0] at hm
          cases hms : amset kx k x ents with
          | none => simp [hms] at hm
          | some r =>
            simp only [hms, Option.map_some, Option.some.injEq] at hm
            subst hm
            rcases mset2_spec ht hk hu clock ents r es' (j + 1) h3 hms with ⟨i, v, g1, g2, g3, g4⟩ | ⟨g1, g2⟩
            · refine .inl ⟨i + 1, v, ?_, by simpa using g2, by simpa using g3, ?_⟩
              · simp only [Instr.findAsking, Sem.run_bind, hs, Result.andThen_ok, Bool.false_eq_true, if_false, g1]
                rw [show j + 1 + i = j + (i + 1) by omega]
              · exact EntsRep.cons h1 h2 g4
            · exact .inr ⟨by simp only [Instr.findAsking, Sem.run_bind, hs, Result.andThen_ok, Bool.false_eq_true, if_false, g1], EntsRep.cons h1 h2 g2⟩
theorem snd_mapset2 (hr : Rep w F β σ Av) {t kt et e : TypeId} (ht : P.underlying t = some (.map kt et)) (hd : Key2 P kt e) {m u : Value} {k : ByteArray × ByteArray} {kx x : V} {n : Nat} (hm : VRep w F β m (.map n)) (hk : VRep w F β (.agg #[.string k.1, .string k.2]) kx) (hu : VRep w F β u x)
    {ents ents' : List (V × V)} (hn : σ n = some (.mp ents)) (h : amset kx k x ents = some ents') :
    ∃ w', (Instr.mapUpdate t m (.agg #[.string k.1, .string k.2]) u).run P w = .ok () w' ∧ Rep w' F β (upd σ n (some (.mp ents'))) Av ∧ Evolve w F β σ w' F β (upd σ n (some (.mp ents'))) := by
  obtain ⟨b, es, clock, rfl, hb, hheap, hents, hborn⟩ := map_obj hr hm hn
  have hck : ∀ bb, (Instr.checkKey bb 10000 kt (.agg #[.string k.1, .string k.2])).run P w = .ok () w := fun bb => run_checkKey2 hd _ _ bb w
  have hset : ∀ o, (setObj b o).run P w = .ok () { w with heap := w.heap.setIfInBounds b o } := by
    intro o; simp [setObj, Sem.run, hheap]
  rcases mset2_spec hd hk hu clock ents ents' es.toList 0 hents h with ⟨i, v, g1, g2, ⟨e, g3, g5⟩, g4⟩ | ⟨g1, g2⟩
  · rw [Nat.zero_add] at g1
    have hrun : (Instr.mapUpdate t (.map (some b)) (.agg #[.string k.1, .string k.2]) u).run P w = .ok () { w with heap := w.heap.setIfInBounds b (.map (es.modify i fun e => { e with key := .agg #[.string k.1, .string k.2], val := u }) clock) } := by
      have g3' : es[i]? = some e := by simpa using g3
      simp only [Instr.mapUpdate, Sem.run_bind, run_underlying ht, Result.andThen_ok, run_getObj hheap, hck, run_findKey2 hd, g1, Sem.run_pure, Instr.keyThatStays, g3', Option.map_some, Option.getD_some, g5, if_true]
      exact hset _
    refine ⟨_, hrun, ?_⟩
    refine hr.write_map hn hb _ clock ⟨by have := g4.1; simpa using this, born_modify (fun _ => rfl) hborn⟩ fun q hq => ?_
    obtain ⟨e2, x2, k1, k2, k3⟩ := g4.2 q hq
    refine ⟨e2, x2, ?_, k2, k3⟩
    rw [← Array.getElem?_toList, Array.toList_modify]
    exact k1
  · have hrun : (Instr.mapUpdate t (.map (some b)) (.agg #[.string k.1, .string k.2]) u).run P w = .ok () { w with heap := w.heap.setIfInBounds b (.map (es.push { key := .agg #[.string k.1, .string k.2], val := u, born := clock }) (clock + 1)) } := by
      simp only [Instr.mapUpdate, Sem.run_bind, run_underlying ht, Result.andThen_ok, run_getObj hheap, hck, run_findKey2 hd, g1, Sem.run_pure]
      exact hset _
    refine ⟨_, hrun, ?_⟩
    refine hr.write_map hn hb _ (clock + 1) ⟨by have := g2.1; simpa using this, born_push rfl hborn⟩ fun q hq => ?_
    obtain ⟨e2, x2, k1, k2, k3⟩ := g2.2 q hq
    refine ⟨e2, x2, ?_, k2, k3⟩
    rw [← Array.getElem?_toList, Array.toList_push]
    exact k1
theorem fmap_obj {v : Value} {ks vs : List V} (hv : FRep w F v (.fmap ks vs)) : ∃ b es clock, v = .map (some b) ∧ w.heap[b]? = some (.map es clock) ∧ EntsRep w F β es.toList (ks.zip vs) := by
  cases hv with
  | fmap us ws hF hb hl hl2 hc hk hvv =>
    refine ⟨_, _, _, rfl, hb, by simp [hl.1, hl2], fun i hi => ?_⟩
    simp only [List.length_zip, hl2, Nat.min_self] at hi
    obtain ⟨e, e1, e2, e3⟩ := hc i hi
    refine ⟨e, (nth ks i, nth vs i), by simpa using e1, ?_, by rw [e2]; exact .fr (hk i hi), by rw [e3]; exact .fr (hvv i hi)⟩
    rw [List.getElem?_zip_eq_some]
    constructor
    · simp [nth, List.getD, hi]
    · have : i < vs.length := by omega
      simp [nth, List.getD, this]
end
section
open Go
variable {P : Program} {w : World} {F : Nat → Prop} {β : Beta} {σ : Sig} {Av : Nat → Prop}
theorem OpOK.of_unit {s : Sem Unit} {σ' : Sig} {Av' : Nat → Prop} {w' : World} {β' : Beta} (h : s.run P w = .ok () w') (hr : Rep w' F β' σ' Av') (he : Evolve w F β σ w' F β' σ') :
    OpOK P (do s; pure .skip) w F β σ .undef σ' Av' := ⟨.skip, w', F, β', by simp [h], .inr ⟨rfl, rfl⟩, hr, he⟩
theorem vrep_list {a : Operand → Value} {τ : X → V} {l : List Operand} (h : ∀ x ∈ l, VRep w F β (a x) (τ (toX x))) :
    ((l.map a).toArray).size = (l.map (τ ∘ toX)).length ∧ ∀ j, j < (l.map (τ ∘ toX)).length → VRep w F β (((l.map a).toArray).getD j Go.undef) (nth (l.map (τ ∘ toX)) j) := by
  refine ⟨by simp, fun j hj => ?_⟩
  simp only [List.length_map] at hj
  have e1 : ((l.map a).toArray).getD j Go.undef = a l[j] := by simp [Array.getD, hj]
  have e2 : nth (l.map (τ ∘ toX)) j = τ (toX l[j]) := by simp [nth, List.getD, hj]
  rw [e1, e2]
  exact h _ (List.getElem_mem hj)
section
variable {o : Oper} {iop : IOp} {a : Operand → Value} {τ : X → V} {nn : Nat} {r : Res}
def Snd (P : Program) (op : Op) : Prop := ∀ (w : World) (F : Nat → Prop) (β : Beta) (σ : Sig) (Av : Nat → Prop) (o : Oper) (iop : IOp) (a : Operand → Value) (τ : X → V) (nn : Nat) (r : Res), o.op = op →
  compileOp? P op = some iop → Rep w F β σ Av → Av nn → (∀ x ∈ op.operands, VRep w F β (a x) (τ (toX x))) → isem iop τ σ nn = some r → r.vc = true →
  OpOK P (execOp a o) w F β σ r.val (r.eff.sig σ nn) (r.eff.av Av nn)
theorem snd_move (x : Operand) : Snd P (.move x) := by
  intro w F β σ Av o iop a τ nn r ho hc hr _ hτ h _
  simp only [compileOp?, Option.some.injEq] at hc; subst hc
  simp only [isem, Option.some.injEq] at h; subst h
  refine .val hr (v := a x) ?_ (hτ x (by simp [Op.operands]))
  simp [execOp, ho]
theorem snd_assign (x : Operand) : Snd P (.assign x) := by
  intro w F β σ Av o iop a τ nn r ho hc hr _ hτ h _
  simp only [compileOp?, Option.some.injEq] at hc; subst hc
  simp only [isem, Option.some.injEq] at h; subst h
  refine .val hr (v := a x) ?_ (hτ x (by simp [Op.operands]))
  simp [execOp, ho]
theorem snd_pick (c x y : Operand) : Snd P (.pick c x y) := by
  intro w F β σ Av o iop a τ nn r ho hc hr _ hτ h _
  simp only [compileOp?, Option.some.injEq] at hc; subst hc
  have h1 := hτ c (by simp [Op.operands]); have h2 := hτ x (by simp [Op.operands]); have h3 := hτ y (by simp [Op.operands])
  simp only [isem] at h
  split at h
  · rename_i c' a' b' e1 e2 e3
    simp only [Option.some.injEq] at h; subst h
    have g1 := (e1 ▸ h1).p_inv.1; have g2 := (e2 ▸ h2).p_inv.1; have g3 := (e3 ▸ h3).p_inv.1
    refine .val hr (v := .bool (pickB c' a' b')) ?_ (.of_p rfl)
    cases c' <;> cases a' <;> cases b' <;> simp [execOp, ho, g1, g2, g3, asBool, pickB]
  · cases h
theorem snd_bin (op : BinOp) (t u : TypeId) (x y : Operand) : Snd P (.binOp op t x y u) := by
  intro w F β σ Av o iop a τ nn r ho hc hr _ hτ h hvc
  simp only [compileOp?, Option.some.injEq] at hc; subst hc
  have h1 := hτ x (by simp [Op.operands]); have h2 := hτ y (by simp [Op.operands])
  simp only [isem] at h
  split at h
  · rename_i p q e1 e2
    split at h
    · rename_i v vc e3
      simp only [Option.some.injEq] at h; subst h
      simp only [Res.of] at hvc
      subst hvc
      have g1 := (e1 ▸ h1).p_inv.1; have g2 := (e2 ▸ h2).p_inv.1
      obtain ⟨hrun, hp⟩ := run_binV (P := P) (t := t) op x y p q w (by
        intro hb
        split at hb
        · assumption
        · cases hb) e3
      refine .val hr (v := v) ?_ (.of_p hp)
      simp only [execOp, ho, g1, g2, Sem.run_bind] at hrun ⊢
      rw [hrun]; rfl
    · cases h
  · cases h
theorem snd_un (op : UnOp) (t : TypeId) (x : Operand) : Snd P (.unOp op t x) := by
  intro w F β σ Av o iop a τ nn r ho hc hr _ hτ h _
  simp only [compileOp?, Option.some.injEq] at hc; subst hc
  have h1 := hτ x (by simp [Op.operands])
  cases op <;> simp only [isem] at h <;> try (cases h; done)
  · split at h
    · rename_i k n e1
      simp only [Option.some.injEq] at h; subst h
      have g1 := (e1 ▸ h1).p_inv.1
      refine .val hr (v := .int k (k.wrap (0 - n))) ?_ (.of_p rfl)
      simp [execOp, ho, g1, Op.unary, Op.intArith]
    · cases h
  · split at h
    · rename_i b e1
      simp only [Option.some.injEq] at h; subst h
      have g1 := (e1 ▸ h1).p_inv.1
      refine .val hr (v := .bool (!b)) ?_ (.of_p rfl)
      simp [execOp, ho, g1, Op.unary]
    · cases h
theorem snd_conv (s d : TypeId) (x : Operand) : Snd P (.convert s d x) := by
  intro w F β σ Av o iop a τ nn r ho hc hr _ hτ h hvc
  have h1 := hτ x (by simp [Op.operands])
  simp only [compileOp?] at hc
  cases hs : P.underlying s with
  | none => simp [hs] at hc
  | some us =>
    cases hd : P.underlying d with
    | none => simp [hs, hd] at hc
    | some ud =>
      simp only [hs, hd, Option.bind_eq_bind, Option.bind_some] at hc
      split at hc
      · rename_i k' k
        simp only [Option.pure_def, Option.some.injEq] at hc; subst hc
        simp only [isem] at h
        split at h
        · rename_i k0 n e1
          simp only [Option.some.injEq] at h; subst h
          have g1 := (e1 ▸ h1).p_inv.1
          refine .val hr (v := .int k (k.wrap n)) ?_ (.of_p rfl)
          simp [execOp, ho, g1, convert, run_underlying hs, run_underlying hd, Conv.intToInt]
        · cases h
      · split at hc
        · simp only [Option.pure_def, Option.some.injEq] at hc; subst hc
          simp [isem] at h
        · cases hc
      · rename_i e
        split at hc
        · rename_i he
          simp only [Option.pure_def, Option.some.injEq] at hc; subst hc
          simp only [isem] at h
          split at h
          · rename_i hsl
            split at h
            · rename_i es rd vc hel
              split at h
              · rename_i l hl
                simp only [Option.some.injEq] at h; subst h
                simp only at hvc
                subst hvc
                have hat : SlAt w F β 1 (a x) es := elems_sl hr h1 hel hsl
                refine .val hr (v := .string ⟨⟨l⟩⟩) ?_ (.of_p rfl)
                have hrun := run_strb (P := P) hat hl
                obtain ⟨ad, cap, ev, _⟩ := hat
                rw [ev] at hrun
                have hcv := run_convert_bytes_string (P := P) w s d e ad es.length cap hs he hd
                simp only [execOp, ho, ev, Sem.run_bind, hcv, hrun, Result.andThen_ok, Sem.run_pure]
              · cases h
            · cases h
          · cases h
        · cases hc
      · cases hc
theorem snd_alloc' (e : TypeId) : Snd P (.alloc e) := by
  intro w F β σ Av o iop a τ nn r ho hc hr hnn hτ h hvc
  simp only [compileOp?] at hc
  cases hz : tZero P e with
  | none => simp [hz] at hc
  | some z =>
    simp [hz] at hc; subst hc
    simp only [isem] at h
    have h' : z ≠ .undef ∧ r = ⟨.ptr nn 0 0, .new (.row z.flat.length [z]), z.flat.all one && decide (0 < z.flat.length), []⟩ := by
      split at h
      · cases h
      · rename_i hne; simp only [Option.some.injEq] at h; exact ⟨hne, h.symm⟩
    obtain ⟨_, rfl⟩ := h'
    simp only [Bool.and_eq_true, decide_eq_true_eq] at hvc
    have := OpOK.of_sem (snd_alloc hr hnn hz hvc.1 hvc.2)
    simpa [execOp, ho, Eff.sig, Eff.av] using this
theorem snd_box' (e : TypeId) (x : Operand) : Snd P (.box e x) := by
  intro w F β σ Av o iop a τ nn r ho hc hr hnn hτ h hvc
  simp only [compileOp?, Option.some.injEq] at hc; subst hc
  simp only [isem, Option.some.injEq] at h; subst h
  simp only [Bool.and_eq_true, decide_eq_true_eq] at hvc
  have := OpOK.of_sem (snd_box (P := P) (e := e) hr hnn (hτ x (by simp [Op.operands])) hvc.1 hvc.2)
  simpa [execOp, ho, Eff.sig, Eff.av] using this
theorem snd_load' (t : TypeId) (x : Operand) : Snd P (.load t x) := by
  intro w F β σ Av o iop a τ nn r ho hc hr hnn hτ h hvc
  have h1 := hτ x (by simp [Op.operands])
  simp only [compileOp?] at hc
  cases hag : tAgg P t with
  | none => simp [hag] at hc
  | some ag =>
    cases hm : tSize P t with
    | none => simp [hag, hm] at hc
    | some m =>
      simp [hag, hm] at hc; subst hc
      simp only [isem] at h
      split at h
      · rename_i n i off e1
        split at h
        · rename_i k es hn
          split at h
          · rename_i y hy
            simp only [Option.some.injEq] at h; subst h
            simp only [decide_eq_true_eq] at hvc
            have := OpOK.of_sem (load_ptr (P := P) hr hag hm (e1 ▸ h1) hn hvc hy)
            simpa [execOp, ho, Eff.sig, Eff.av] using this
          · cases h
        · cases h
      · rename_i k es i off e1
        split at h
        · rename_i y hy
          simp only [Option.some.injEq] at h; subst h
          have := OpOK.of_sem (load_fptr (P := P) hr hag hm (e1 ▸ h1) hy)
          simpa [execOp, ho, Eff.sig, Eff.av, Res.of] using this
        · cases h
      · cases h
theorem snd_store' (t : TypeId) (x y : Operand) : Snd P (.store t x y) := by
  intro w F β σ Av o iop a τ nn r ho hc hr hnn hτ h hvc
  have h1 := hτ x (by simp [Op.operands]); have h2 := hτ y (by simp [Op.operands])
  simp only [compileOp?] at hc
  cases hm : tSize P t with
  | none => simp [hm] at hc
  | some m =>
    simp [hm] at hc; subst hc
    simp only [isem] at h
    split at h
    · rename_i n i off e1
      split at h
      · rename_i k es hn
        simp only [Option.some.injEq] at h; subst h
        simp only [Bool.and_eq_true, decide_eq_true_eq] at hvc
        obtain ⟨⟨⟨⟨v1, v2⟩, v3⟩, v4⟩, v5⟩ := hvc
        obtain ⟨w', g1, g2, g3⟩ := store_ptr (P := P) hr hm (e1 ▸ h1) hn v1 h2 (all_one v2) v3 v4 v5
        have := OpOK.of_unit (σ := σ) g1 g2 g3
        simpa [execOp, ho, Eff.sig, Eff.av] using this
      · cases h
    · cases h
end
end
section
open Go
variable {P : Program}
theorem pickB_false (c a : Bool) : pickB c a false = (c && a) := by cases c <;> cases a <;> rfl
theorem pickB_true (c b : Bool) : pickB c true b = (c || b) := by cases c <;> cases b <;> rfl
theorem snd_build' (t : TypeId) (ps : Array (Nat × Operand)) : Snd P (.build t ps) := by
  intro w F β σ Av o iop a τ nn r ho hc hr hnn hτ h hvc
  simp only [compileOp?] at hc
  cases hi : P.info? t with
  | none => simp [hi] at hc
  | some i =>
    cases hz : i.zero with
    | none => simp [hi, hz] at hc
    | some z =>
      cases hl : partsOf P t ps with
      | none => simp [hi, hl] at hc
      | some l =>
        simp only [hi, hz, hl, Option.bind_eq_bind, Option.bind_some] at hc
        split at hc
        · rename_i cs
          simp only [Option.pure_def, Option.some.injEq] at hc; subst hc
          simp only [isem, Option.some.injEq] at h
          subst h
          cases hb : buildGo τ l (cs.toList.map ofVal1) true with
          | mk cs' vc =>
            simp only [hb, Res.of] at hvc ⊢
            subst hvc
            have := OpOK.of_sem (snd_build (P := P) hr hi hz hl (ρ := a) (τ := τ) (fun ix hix => hτ ix.2 (by
              simp only [Op.operands, List.mem_toArray, List.mem_map]
              exact ⟨ix, hix, rfl⟩)) hb)
            simpa [execOp, ho, Eff.sig, Eff.av] using this
        · cases hc
theorem snd_bslice' (t : TypeId) (n : Nat) (ps : Array (Nat × Operand)) : Snd P (.buildSlice t n ps) := by
  intro w F β σ Av o iop a τ nn r ho hc hr hnn hτ h hvc
  simp only [compileOp?] at hc
  cases he : elemInfo P t with
  | none => simp [he] at hc
  | some x =>
    obtain ⟨k, by_, z⟩ := x
    simp only [he, Option.bind_eq_bind, Option.bind_some] at hc
    split at hc
    · rename_i hle
      simp only [Option.pure_def, Option.some.injEq] at hc; subst hc
      simp only [isem] at h
      split at h
      · split at h
        · rename_i hps
          simp only [Option.some.injEq] at h; subst h
          obtain ⟨e, i, zv, h1, h2, h3, h4, h5, h6, h7, _⟩ := elemInfo_spec he
          have hps0 : ps = #[] := by
            have : ps.toList = [] := by simpa using hps
            exact Array.ext' (by simpa using this)
          subst hps0
          have hsz : (sizeOf e).run P w = .ok i.size w := by simp [sizeOf, typeInfo, h2]
          have hheap : ∀ b, b < w.heap.size → (w.alloc (.cells #[] e)).heap[b]? = w.heap[b]? := fun b hb => heap_alloc_old w (.cells #[] e) hb
          have hR : Rep (w.alloc (.cells #[] e)) F β σ Av ∧ Evolve w F β σ (w.alloc (.cells #[] e)) F β σ := by
            refine ⟨⟨fun b hb => by have := hr.falloc b hb; simp; omega, hr.dom, fun m ob hm => ?_, hr.sep, hr.gl.mono (fun _ h => h) fun b hb => hheap b (hr.falloc b hb)⟩, ⟨rfl, rfl, rfl, by simp, fun _ _ h => h, fun _ h => h, fun b hb _ => hheap b hb, fun _ _ h => .inl h, fun _ _ h => h⟩⟩
            obtain ⟨l, g1, g2, g3⟩ := hr.obj m ob hm
            exact ⟨l, g1, g2.mono (fun _ h => h) (fun b hb => hheap b (hr.falloc b hb)) (fun _ _ h => h) (fun b hb => hheap b (g3 b hb).2), fun b hb => ⟨(g3 b hb).1, by have := (g3 b hb).2; simp; omega⟩⟩
          refine ⟨.value (.slice (some ⟨w.heap.size, 0, none⟩) 0 0), w.alloc (.cells #[] e), F, β, ?_, .inl ⟨_, rfl, .fr .emp⟩, hR.1, hR.2⟩
          have hr0 : Array.range 0 = #[] := rfl
          simp [execOp, ho, Instr.buildSlice, run_underlying h1, hsz, Instr.fill, newRow, hr0]
        · cases h
      · rename_i hn0
        simp only [Option.some.injEq] at h; subst h
        cases hb : bsliceGo τ k (ps.toList.map fun ix => (ix.1, toX ix.2)) (List.replicate n z) (z.flat.all one && decide (z.flat.length = k) && decide (0 < k)) with
        | mk es vc =>
          simp only [hb] at hvc ⊢
          subst hvc
          have := OpOK.of_sem (snd_bslice (P := P) hr hnn he hle (fun e => hn0 e) (ρ := a) (τ := τ) (fun ix hix => hτ ix.2 (by
            simp only [Op.operands, List.mem_toArray, List.mem_map]
            exact ⟨ix, hix, rfl⟩)) hb)
          simpa [execOp, ho, Eff.sig, Eff.av] using this
    · cases hc
end
section
open Go
variable {P : Program}
theorem snd_nilchk' (x : Operand) : Snd P (.nilCheck x) := by
  intro w F β σ Av o iop a τ nn r ho hc hr hnn hτ h hvc
  have h1 := hτ x (by simp [Op.operands])
  simp only [compileOp?, Option.some.injEq] at hc; subst hc
  simp only [isem] at h
  split at h
  · rename_i n i off e1
    simp only [Option.some.injEq] at h; subst h
    have hv := e1 ▸ h1
    obtain ⟨b, s, k, sz, hb, g⟩ := hv.ptr_inv
    refine .val hr (v := a x) ?_ hv
    simp [execOp, ho, g]
  · rename_i k es i off e1
    simp only [Option.some.injEq] at h; subst h
    have hv := e1 ▸ h1
    obtain ⟨b, s, g, _⟩ := hv.fptr_inv
    refine .val hr (v := a x) ?_ hv
    simp [execOp, ho, g]
  · rename_i f l m e1
    split at h
    · simp only [Option.some.injEq] at h; subst h
      have hv := e1 ▸ h1
      obtain ⟨us, vs, g, _⟩ := hv.fn_inv
      refine .val hr (v := a x) ?_ hv
      simp [execOp, ho, g]
    · cases h
  · cases h
theorem snd_faddr' (t : TypeId) (x : Operand) (f : Nat) : Snd P (.fieldAddr t x f) := by
  intro w F β σ Av o iop a τ nn r ho hc hr hnn hτ h hvc
  have h1 := hτ x (by simp [Op.operands])
  simp only [compileOp?] at hc
  split at hc
  · rename_i fields hu
    cases hf : fields[f]? with
    | none => simp [hf] at hc
    | some fl =>
      cases hm : tSize P fl.type with
      | none => simp [hf, hm] at hc
      | some m =>
        simp only [hf, hm, Option.bind_eq_bind, Option.bind_some] at hc
        split at hc
        · cases hc
        · rename_i h0
          simp only [Option.pure_def, Option.some.injEq] at hc; subst hc
          simp only [isem] at h
          split at h
          · rename_i n i off e1
            simp only [Option.some.injEq] at h; subst h
            have := OpOK.of_sem (snd_faddr_ptr (P := P) hr hu hf hm h0 (e1 ▸ h1))
            simpa [execOp, ho, Eff.sig, Eff.av, Res.of] using this
          · rename_i k es i off e1
            simp only [Option.some.injEq] at h; subst h
            simp only [Res.of, decide_eq_true_eq] at hvc
            have := OpOK.of_sem (snd_faddr_fptr (P := P) hr hu hf hm h0 (e1 ▸ h1) hvc)
            simpa [execOp, ho, Eff.sig, Eff.av, Res.of] using this
          · cases h
  · cases hc
theorem snd_fld' (t : TypeId) (x : Operand) (f : Nat) : Snd P (.field t x f) := by
  intro w F β σ Av o iop a τ nn r ho hc hr hnn hτ h hvc
  have h1 := hτ x (by simp [Op.operands])
  simp only [compileOp?] at hc
  split at hc
  · rename_i fields hu
    cases hf : fields[f]? with
    | none => simp [hf] at hc
    | some fl =>
      cases hag : tAgg P fl.type with
      | none => simp [hf, hag] at hc
      | some ag =>
        cases hm : tSize P fl.type with
        | none => simp [hf, hm] at hc
        | some m =>
          simp [hf, hag, hm] at hc; subst hc
          simp only [isem] at h
          split at h
          · rename_i cs e1
            split at h
            · rename_i y hy
              simp only [Option.some.injEq] at h; subst h
              have := OpOK.of_sem (snd_fld (P := P) hr hu hf hag hm (e1 ▸ h1) hy)
              simpa [execOp, ho, Eff.sig, Eff.av, Res.of] using this
            · cases h
          · cases h
  · cases hc
theorem snd_iaddr' (t : TypeId) (x i : Operand) : Snd P (.indexAddr t x i) := by
  intro w F β σ Av o iop a τ nn r ho hc hr hnn hτ h hvc
  have h1 := hτ x (by simp [Op.operands]); have h2 := hτ i (by simp [Op.operands])
  simp only [compileOp?] at hc
  split at hc
  · rename_i e hu
    cases hk : tSize P e with
    | none => simp [hk] at hc
    | some k =>
      simp [hk] at hc; subst hc
      simp only [isem] at h
      split at h
      · rename_i k' es ik q e1 e2
        split at h
        · rename_i hkk _; subst hkk
          simp only [Option.some.injEq] at h; subst h
          simp only [Res.of, decide_eq_true_eq] at hvc
          have g2 := (e2 ▸ h2).p_inv.1
          have := OpOK.of_sem (snd_iaddr_sl (P := P) hr hu hk (e1 ▸ h1) (ik := ik) hvc.1 hvc.2)
          simpa [execOp, ho, g2, Eff.sig, Eff.av, Res.of] using this
        · cases h
      · rename_i n off len ik q e1 e2
        split at h
        · rename_i k' es hn
          split at h
          · rename_i hkk _; subst hkk
            simp only [Option.some.injEq] at h; subst h
            simp only [decide_eq_true_eq] at hvc
            have g2 := (e2 ▸ h2).p_inv.1
            have := OpOK.of_sem (snd_iaddr_own (P := P) hr hu hk hn (e1 ▸ h1) (ik := ik) hvc.1 hvc.2)
            simpa [execOp, ho, g2, Eff.sig, Eff.av] using this
          · cases h
        · cases h
      · cases h
  · rename_i n0 e hu
    cases hk : tSize P e with
    | none => simp [hk] at hc
    | some k =>
      simp [hk] at hc; subst hc
      simp only [isem] at h
      split at h
      · rename_i n j off ik q e1 e2
        simp only [Option.some.injEq] at h; subst h
        simp only [Res.of, decide_eq_true_eq] at hvc
        have g2 := (e2 ▸ h2).p_inv.1
        have := OpOK.of_sem (snd_aaddr_ptr (P := P) hr hu hk (e1 ▸ h1) (ik := ik) hvc.1 hvc.2)
        simpa [execOp, ho, g2, Eff.sig, Eff.av, Res.of] using this
      · rename_i k' es j off ik q e1 e2
        simp only [Option.some.injEq] at h; subst h
        simp only [Res.of, Bool.and_eq_true, decide_eq_true_eq] at hvc
        have g2 := (e2 ▸ h2).p_inv.1
        have := OpOK.of_sem (snd_aaddr_fptr (P := P) hr hu hk (e1 ▸ h1) (ik := ik) hvc.1.1 hvc.1.2 hvc.2)
        simpa [execOp, ho, g2, Eff.sig, Eff.av, Res.of] using this
      · cases h
  · cases hc
theorem snd_idx' (t : TypeId) (x i : Operand) : Snd P (.index t x i) := by
  intro w F β σ Av o iop a τ nn r ho hc hr hnn hτ h hvc
  have h1 := hτ x (by simp [Op.operands]); have h2 := hτ i (by simp [Op.operands])
  simp only [compileOp?] at hc
  split at hc
  · rename_i n0 e hu
    cases hag : tAgg P e with
    | none => simp [hag] at hc
    | some ag =>
      cases hk : tSize P e with
      | none => simp [hag, hk] at hc
      | some k =>
        simp [hag, hk] at hc; subst hc
        simp only [isem] at h
        split at h
        · rename_i cs ik q e1 e2
          split at h
          · rename_i y hy
            simp only [Option.some.injEq] at h; subst h
            simp only [Res.of, decide_eq_true_eq] at hvc
            have g2 := (e2 ▸ h2).p_inv.1
            have := OpOK.of_sem (snd_aidx (P := P) hr hu hag hk (e1 ▸ h1) (ik := ik) hvc.1 hvc.2 hy)
            simpa [execOp, ho, g2, Eff.sig, Eff.av, Res.of] using this
          · cases h
        · cases h
  · rename_i hu
    simp only [Option.pure_def, Option.some.injEq] at hc; subst hc
    simp only [isem] at h
    split at h
    · rename_i s ik q e1 e2
      simp only [Option.some.injEq] at h; subst h
      simp only [Res.of, decide_eq_true_eq] at hvc
      have g1 := (e1 ▸ h1).p_inv.1
      have g2 := (e2 ▸ h2).p_inv.1
      have := OpOK.of_sem (snd_sidx (P := P) hr hu s (ik := ik) hvc.1 hvc.2)
      simpa [execOp, ho, g1, g2, Eff.sig, Eff.av, Res.of] using this
    · cases h
  · cases hc
theorem snd_ext' (x : Operand) (i : Nat) : Snd P (.extract x i) := by
  intro w F β σ Av o iop a τ nn r ho hc hr hnn hτ h hvc
  have h1 := hτ x (by simp [Op.operands])
  simp only [compileOp?, Option.some.injEq] at hc; subst hc
  simp only [isem] at h
  split at h
  · rename_i vs e1
    simp only [Option.some.injEq] at h; subst h
    simp only [Res.of, decide_eq_true_eq] at hvc
    obtain ⟨us, g, hl, hh⟩ := (e1 ▸ h1).tup_inv
    refine .val hr (v := us.getD i Go.undef) ?_ (hh i hvc)
    have : us[i]? = some (us.getD i Go.undef) := by
      have hlt : i < us.size := by omega
      simp [Array.getD, hlt]
    simp only [execOp, ho, g, Instr.extract, Sem.run_bind]
    rw [this]
    rfl
  · cases h
theorem snd_mkfn' (f : Fn) (l m : Array Operand) : Snd P (.makeFunc f l m) := by
  intro w F β σ Av o iop a τ nn r ho hc hr hnn hτ h hvc
  simp only [compileOp?, Option.some.injEq] at hc; subst hc
  simp only [isem, Option.some.injEq] at h; subst h
  have e1 : l.map a = (l.toList.map a).toArray := by apply Array.ext'; simp
  have e2 : m.map a = (m.toList.map a).toArray := by apply Array.ext'; simp
  obtain ⟨h1, h2⟩ := vrep_list (w := w) (F := F) (β := β) (a := a) (τ := τ) (l := l.toList) (fun x hx => hτ x (by simp [Op.operands]; exact .inl (by simpa using hx)))
  obtain ⟨h3, h4⟩ := vrep_list (w := w) (F := F) (β := β) (a := a) (τ := τ) (l := m.toList) (fun x hx => hτ x (by simp [Op.operands]; exact .inr (by simpa using hx)))
  refine .val hr (v := .func f (l.map a) (m.map a)) ?_ ?_
  · simp only [execOp, ho, Instr.makeFunc, Sem.run_bind, Sem.run_pure, Result.andThen_ok]
  · rw [e1, e2]
    simp only [Res.of, List.map_map]
    exact .fn h1 h3 h2 h4
theorem snd_miface' (t : TypeId) (x : Operand) : Snd P (.makeInterface t x) := by
  intro w F β σ Av o iop a τ nn r ho hc hr hnn hτ h hvc
  have h1 := hτ x (by simp [Op.operands])
  simp only [compileOp?] at hc
  split at hc
  · cases hc
  · cases hc
  · rename_i hne1 hne2
    simp only [Option.some.injEq] at hc; subst hc
    simp only [isem, Option.some.injEq] at h; subst h
    have hcon : P.concrete t = true := by
      unfold Program.concrete
      split
      · rename_i ms hu; exact absurd hu (hne1 ms)
      · rename_i hu; exact absurd hu hne2
      · rfl
    refine .val hr (v := .iface t (a x)) ?_ (.iface h1)
    simp [execOp, ho, run_makeInterface w t (a x) hcon]
theorem snd_mkslice' (t : TypeId) (l c : Operand) : Snd P (.makeSlice t l c) := by
  intro w F β σ Av o iop a τ nn r ho hc hr hnn hτ h hvc
  have h1 := hτ l (by simp [Op.operands]); have h2 := hτ c (by simp [Op.operands])
  simp only [compileOp?] at hc
  cases he : elemInfo P t with
  | none => simp [he] at hc
  | some x =>
    obtain ⟨k, by_, z⟩ := x
    simp [he] at hc; subst hc
    simp only [isem] at h
    split at h
    · rename_i k1 p k2 q e1 e2
      simp only [Option.some.injEq] at h; subst h
      simp only [Bool.and_eq_true, decide_eq_true_eq] at hvc
      obtain ⟨⟨⟨⟨v1, v2, v3, v4⟩, v5⟩, v6⟩, v7⟩ := hvc
      have g1 := (e1 ▸ h1).p_inv.1
      have g2 := (e2 ▸ h2).p_inv.1
      have := OpOK.of_sem (snd_mkslice (P := P) hr hnn he (k1 := k1) (k2 := k2) v1 v2 v3 v4 v5 v6)
      simpa [execOp, ho, g1, g2, Eff.sig, Eff.av] using this
    · cases h
theorem snd_mkmap' (t : TypeId) (x : Option Operand) : Snd P (.makeMap t x) := by
  intro w F β σ Av o iop a τ nn r ho hc hr hnn hτ h hvc
  cases x with
  | some x => simp [compileOp?] at hc
  | none =>
    simp only [compileOp?] at hc
    split at hc
    · simp only [Option.some.injEq] at hc; subst hc
      simp only [isem, Option.some.injEq] at h; subst h
      have := OpOK.of_sem (snd_mkmap (P := P) hr hnn t)
      simpa [execOp, ho, Eff.sig, Eff.av] using this
    · cases hc
theorem fits_of_keyFits {d : TypeDesc} {ks : Bool} {kv : Value} (h : keyFits ks kv = true) (hd : (ks = true ∧ d = .string) ∨ (ks = false ∧ ∃ k, d = .int k)) : fitsD d kv = true := by
  rcases hd with ⟨rfl, rfl⟩ | ⟨rfl, k, rfl⟩ <;> cases kv <;> first | rfl | (cases h; done)
theorem key2_of {kt e : TypeId} (hd : P.underlying kt = some (.array 2 e)) (he : P.underlying e = some .string) (hs : tSize P e = some 1) : Key2 P kt e := by
  refine ⟨hd, he, ?_⟩
  unfold tSize at hs
  unfold Program.cellsOf
  cases hi : P.info? e with
  | none => simp [hi] at hs
  | some i => simpa [hi] using hs
theorem snd_mapset' (t : TypeId) (m key x : Operand) : Snd P (.mapUpdate t m key x) := by
  intro w F β σ Av o iop a τ nn r ho hc hr hnn hτ h hvc
  have h1 := hτ m (by simp [Op.operands]); have h2 := hτ key (by simp [Op.operands]); have h3 := hτ x (by simp [Op.operands])
  simp only [compileOp?] at hc
  have key' : ∀ kt et d ks, P.underlying t = some (.map kt et) → P.underlying kt = some d → ((ks = true ∧ d = TypeDesc.string) ∨ (ks = false ∧ ∃ k, d = .int k)) → iop = .mapset ks (toX m) (toX key) (toX x) →
      OpOK P (execOp a o) w F β σ r.val (r.eff.sig σ nn) (r.eff.av Av nn) := by
    intro kt et d ks ht hd hks hiop
    subst hiop
    simp only [isem] at h
    split at h
    · rename_i n kv e1 e2
      split at h
      · rename_i ents hn hfit
        split at h
        · rename_i ents' hms
          simp only [Option.some.injEq] at h; subst h
          have g2 := (e2 ▸ h2).p_inv.1
          obtain ⟨w', k1, k2, k3⟩ := snd_mapset (P := P) hr ht hd (e1 ▸ h1) (fits_of_keyFits hfit hks) h3 hn hms
          have := OpOK.of_unit (σ := σ) k1 k2 k3
          simpa [execOp, ho, g2, Eff.sig, Eff.av] using this
        · cases h
      · cases h
    · cases h
  split at hc
  · rename_i kt et ht
    split at hc
    · rename_i hd
      simp only [Option.some.injEq] at hc
      exact key' kt et _ true ht hd (.inl ⟨rfl, rfl⟩) hc.symm
    · rename_i k hd
      simp only [Option.some.injEq] at hc
      exact key' kt et _ false ht hd (.inr ⟨rfl, k, rfl⟩) hc.symm
    · rename_i nn2 e hd
      split at hc
      · rename_i hn2 he hsz
        simp only [Option.some.injEq] at hc
        subst hc
        have hn2 : nn2 = 2 := by simpa using hn2
        subst hn2
        have k2 := key2_of hd he hsz
        simp only [isem] at h
        split at h
        · rename_i q k e1 e2
          split at h
          · rename_i ents hq
            split at h
            · rename_i ents' hms
              simp only [Option.some.injEq] at h; subst h
              obtain ⟨gk, _⟩ := strs2_inv h2 e2
              obtain ⟨w', g1, g2, g3⟩ := snd_mapset2 (P := P) hr ht k2 (e1 ▸ h1) (gk ▸ h2) h3 hq hms
              have := OpOK.of_unit (σ := σ) g1 g2 g3
              simpa [execOp, ho, gk, Eff.sig, Eff.av] using this
            · cases h
          · cases h
        · cases h
      · cases hc
    · cases hc
  · cases hc
theorem snd_lookup' (t : TypeId) (m key : Operand) (ok : Bool) : Snd P (.lookup t m key ok) := by
  intro w F β σ Av o iop a τ nn r ho hc hr hnn hτ h hvc
  have h1 := hτ m (by simp [Op.operands]); have h2 := hτ key (by simp [Op.operands])
  simp only [compileOp?] at hc
  have key' : ∀ kt et d ks z, P.underlying t = some (.map kt et) → P.underlying kt = some d → ((ks = true ∧ d = TypeDesc.string) ∨ (ks = false ∧ ∃ k, d = .int k)) → tZero P et = some z → iop = .lookup ks z ok (toX m) (toX key) →
      OpOK P (execOp a o) w F β σ r.val (r.eff.sig σ nn) (r.eff.av Av nn) := by
    intro kt et d ks z ht hd hks hz hiop
    subst hiop
    simp only [isem] at h
    split at h
    · rename_i n kv e1 e2
      split at h
      · rename_i ents hn hfit
        have g2 := (e2 ▸ h2).p_inv.1
        split at h
        · rename_i v hmf
          simp only [Option.some.injEq] at h; subst h
          have := OpOK.of_sem (snd_lookup (P := P) hr ht hd hz (e1 ▸ h1) (fits_of_keyFits hfit hks) hn hmf ok)
          cases ok <;> simpa [execOp, ho, g2, Eff.sig, Eff.av] using this
        · rename_i hmf
          simp only [Option.some.injEq] at h; subst h
          have := OpOK.of_sem (snd_lookup (P := P) hr ht hd hz (e1 ▸ h1) (fits_of_keyFits hfit hks) hn hmf ok)
          cases ok <;> simpa [execOp, ho, g2, Eff.sig, Eff.av] using this
        · cases h
      · cases h
    · cases h
  split at hc
  · rename_i kt et ht
    split at hc
    · rename_i hd
      cases hz : tZero P et with
      | none => simp [hz] at hc
      | some z =>
        simp only [hz, Option.map_some, Option.some.injEq] at hc
        exact key' kt et _ true z ht hd (.inl ⟨rfl, rfl⟩) hz hc.symm
    · rename_i k hd
      cases hz : tZero P et with
      | none => simp [hz] at hc
      | some z =>
        simp only [hz, Option.map_some, Option.some.injEq] at hc
        exact key' kt et _ false z ht hd (.inr ⟨rfl, k, rfl⟩) hz hc.symm
    · rename_i nn2 e hd
      split at hc
      · rename_i hn2 he hsz
        have hn2 : nn2 = 2 := by simpa using hn2
        subst hn2
        have k2 := key2_of hd he hsz
        cases hz : tZero P et with
        | none => simp [hz] at hc
        | some z =>
          simp only [hz, Option.map_some, Option.some.injEq] at hc
          subst hc
          simp only [isem] at h
          split at h
          · cases h
          · rename_i k e2
            obtain ⟨gk, _⟩ := strs2_inv h2 e2
            split at h
            · rename_i q e1
              split at h
              · rename_i ents hq
                obtain ⟨b, es, clock, gm, _, hheap, hents, _⟩ := map_obj hr (e1 ▸ h1) hq
                split at h
                · rename_i v hmf
                  simp only [Option.some.injEq] at h; subst h
                  have := OpOK.of_sem (snd_lookup2 (P := P) hr ht k2 hz hheap hents hmf ok)
                  cases ok <;> simpa [execOp, ho, gk, gm, Eff.sig, Eff.av] using this
                · rename_i hmf
                  simp only [Option.some.injEq] at h; subst h
                  have := OpOK.of_sem (snd_lookup2 (P := P) hr ht k2 hz hheap hents hmf ok)
                  cases ok <;> simpa [execOp, ho, gk, gm, Eff.sig, Eff.av] using this
                · cases h
              · cases h
            · rename_i ks vs e1
              obtain ⟨b, es, clock, gm, hheap, hents⟩ := fmap_obj (e1 ▸ h1).fmap_inv
              split at h
              · rename_i v hmf
                simp only [Option.some.injEq] at h; subst h
                have := OpOK.of_sem (snd_lookup2 (P := P) hr ht k2 hz hheap hents hmf ok)
                cases ok <;> simpa [execOp, ho, gk, gm, Res.of, Eff.sig, Eff.av] using this
              · rename_i hmf
                simp only [Option.some.injEq] at h; subst h
                have := OpOK.of_sem (snd_lookup2 (P := P) hr ht k2 hz hheap hents hmf ok)
                cases ok <;> simpa [execOp, ho, gk, gm, Res.of, Eff.sig, Eff.av] using this
              · cases h
            · cases h
      · cases hc
    · cases hc
  · cases hc
end
section
open Go
variable {P : Program}
theorem snd_slc' (t : TypeId) (x : Operand) (lo hi mx : Option Operand) : Snd P (.slice t x lo hi mx) := by
  intro w F β σ Av o iop a τ nn r ho hc hr hnn hτ h hvc
  have h1 := hτ x (by simp [Op.operands])
  have hlo : ∀ y, lo = some y → VRep w F β (a y) (τ (toX y)) := fun y e => hτ y (by subst e; simp [Op.operands])
  have hhi : ∀ y, hi = some y → VRep w F β (a y) (τ (toX y)) := fun y e => hτ y (by subst e; simp [Op.operands])
  have hmx : ∀ y, mx = some y → VRep w F β (a y) (τ (toX y)) := fun y e => hτ y (by subst e; simp [Op.operands])
  simp only [compileOp?] at hc
  split at hc
  · rename_i e hu
    cases hk : tSize P e with
    | none => simp [hk] at hc
    | some k =>
      simp [hk] at hc; subst hc
      simp only [isem] at h
      cases mx with
      | some m =>
        simp only [Option.map_some] at h
        split at h
        · rename_i k1 hx e1 e2
          cases hi with
          | none => simp at e2
          | some hh =>
            simp only [Option.map_some, Option.some.injEq] at e2
            subst e2
            split at h
            · rename_i k2 e3 e4
              cases lo with
              | some l => simp at e4
              | none =>
                have g1 := (e1 ▸ hmx m rfl).p_inv.1
                have g3 := (e3 ▸ hhi hh rfl).p_inv.1
                have hsl : ∃ b n c, a x = .slice b n c ∧ r = .of .emp := by
                  split at h
                  · rename_i k' es ex
                    simp only [Option.some.injEq] at h
                    obtain ⟨b, c, g, _⟩ := (ex ▸ h1).sl_at (k := k')
                    exact ⟨_, _, _, g, h.symm⟩
                  · rename_i ex
                    simp only [Option.some.injEq] at h
                    obtain ⟨b, g⟩ := (ex ▸ h1).emp_inv
                    exact ⟨_, _, _, g, h.symm⟩
                  · rename_i n off len ex
                    simp only [Option.some.injEq] at h
                    rcases (ex ▸ h1).own_inv with ⟨b, s, k', sz, cap, _, _, _, g⟩ | ⟨_, _, _, b, g⟩
                    · exact ⟨_, _, _, g, h.symm⟩
                    · exact ⟨_, _, _, g, h.symm⟩
                  · cases h
                obtain ⟨b, n, c, g, rfl⟩ := hsl
                have := OpOK.of_sem (snd_slc_zero (P := P) hr hu hk (a := b) (len := n) (cap := c) (k1 := k2) (k2 := k1))
                simpa [execOp, ho, g, g1, g3, Eff.sig, Eff.av, Res.of] using this
            · cases h
        · cases h
      | none =>
        simp only [Option.map_none] at h
        split at h
        · rename_i k' es ex
          split at h
          · rename_i hkk _; subst hkk
            split at h
            · rename_i l hh vc eb
              simp only [Option.some.injEq] at h; subst h
              simp only [Res.of] at hvc; subst hvc
              have hbb : ∀ cap, es.length ≤ cap → _ := fun cap hcap => snd_bounds (P := P) (ρ := a) (τ := τ) hlo hhi true eb hcap
              have hb0 := hbb _ (Nat.le_refl _)
              have := OpOK.of_sem (snd_slc_sl (P := P) hr hu hk (ex ▸ h1) (fun cap hcap => (hbb cap hcap).1) hb0.2.1 hb0.2.2)
              simpa [execOp, ho, Eff.sig, Eff.av, Res.of] using this
            · cases h
          · cases h
        · rename_i ex
          split at h
          · rename_i l hh vc eb
            simp only [Option.some.injEq] at h; subst h
            simp only [Res.of] at hvc; subst hvc
            have hbb : ∀ cap, 0 ≤ cap → _ := fun cap hcap => snd_bounds (P := P) (ρ := a) (τ := τ) hlo hhi true eb hcap
            have hb0 := hbb _ (Nat.le_refl _)
            have := OpOK.of_sem (snd_slc_emp (P := P) hr hu hk (ex ▸ h1) (fun cap hcap => (hbb cap hcap).1) hb0.2.1 hb0.2.2)
            simpa [execOp, ho, Eff.sig, Eff.av, Res.of] using this
          · cases h
        · rename_i n off len ex
          split at h
          · rename_i k' es hn
            split at h
            · rename_i hkk _; subst hkk
              split at h
              · rename_i l hh vc eb
                simp only [Option.some.injEq] at h; subst h
                simp only [Bool.and_eq_true, Bool.or_eq_true, decide_eq_true_eq] at hvc
                obtain ⟨rfl, v2⟩ := hvc
                have hbb : ∀ cap, len ≤ cap → _ := fun cap hcap => snd_bounds (P := P) (ρ := a) (τ := τ) hlo hhi true eb hcap
                have hb0 := hbb _ (Nat.le_refl _)
                have := OpOK.of_sem (snd_slc_own (P := P) hr hu hk hn (ex ▸ h1) (fun cap hcap => (hbb cap hcap).1) hb0.2.1 hb0.2.2 v2)
                simpa [execOp, ho, Eff.sig, Eff.av] using this
              · cases h
            · cases h
          · cases h
        · cases h
  · rename_i hu
    split at hc
    · cases hc
    · rename_i hmn
      simp only [Option.some.injEq] at hc; subst hc
      have hmx0 : mx = none := by cases mx <;> simp_all
      subst hmx0
      simp only [isem] at h
      split at h
      · rename_i s ex
        split at h
        · rename_i l hh vc eb
          simp only [Option.some.injEq] at h; subst h
          simp only [Res.of] at hvc; subst hvc
          have hb0 := snd_bounds (P := P) (ρ := a) (τ := τ) hlo hhi false eb (Nat.le_refl _)
          have g1 := (ex ▸ h1).p_inv.1
          have := OpOK.of_sem (snd_sslc (P := P) hr hu (s := s) hb0.1)
          simpa [execOp, ho, g1, Eff.sig, Eff.av, Res.of] using this
        · cases h
      · cases h
  · rename_i n e hu
    split at hc
    · rename_i hk
      simp only [Option.some.injEq] at hc; subst hc
      simp only [isem] at h
      split at h
      · rename_i k es i o ex
        split at h
        · rename_i hkn l hh vc e1 eb
          subst hkn
          simp only [Option.some.injEq] at h; subst h
          simp only [Res.of, Bool.and_eq_true, decide_eq_true_eq] at hvc
          obtain ⟨rfl, rfl⟩ := hvc
          have hb0 := snd_bounds (P := P) (ρ := a) (τ := τ) hlo hhi false eb (Nat.le_refl _)
          have := OpOK.of_sem (snd_sla (P := P) hr hu hk (ex ▸ h1) hb0.1 hb0.2.1 hb0.2.2)
          simpa [execOp, ho, Eff.sig, Eff.av, Res.of] using this
        · cases h
      · cases h
    · cases hc
  · cases hc
theorem exec_builtin {b : Builtin} {w w' : World} {f : Array TypeId → TypeId → Array Value → Sem Value} {o : Oper} {c : Call} (ho : o.op = .call c) (hc : c.callee = .builtin b) {a : Operand → Value} {v : Value}
    (hbi : ∀ ts t cs args, builtin b ts t cs args = (do pure (.value (← f ts t args)) : Sem Next)) (h : (f c.argTypes o.type (c.args.map a)).run P w = .ok v w') :
    (execOp a o).run P w = .ok (.value v) w' := by
  simp only [execOp, ho, resolve, hc, Sem.run_bind, Sem.run_pure, Result.andThen_ok, invoke, hbi, h]
theorem arr1 {α : Type} {l : Array α} {x : α} (h : l.toList = [x]) : l = #[x] := Array.ext' (by simpa using h)
theorem arr2 {α : Type} {l : Array α} {x y : α} (h : l.toList = [x, y]) : l = #[x, y] := Array.ext' (by simpa using h)
theorem map1 {a : Operand → Value} (x : Operand) : (#[x] : Array Operand).map a = #[a x] := by simp
theorem map2 {a : Operand → Value} (x y : Operand) : (#[x, y] : Array Operand).map a = #[a x, a y] := by simp
theorem snd_append' {c : Call} (hcal : c.callee = .builtin .append) : Snd P (.call c) := by
  intro w F β σ Av o iop a τ nn r ho hc hr hnn hτ h hvc
  simp only [compileOp?, hcal] at hc
  split at hc
  · rename_i x y t u hargs htys
    have ea := arr2 hargs
    have et := arr2 htys
    have h1 := hτ x (by simp [Op.operands, Call.operands, hcal, ea]); have h2 := hτ y (by simp [Op.operands, Call.operands, hcal, ea])
    have key' : ((∃ e', P.underlying u = some (.slice e')) ∨ P.underlying u = some .string) → (do let (k, by_, _) ← elemInfo P t; pure (IOp.app k by_ (toX x) (toX y)) : Option IOp) = some iop →
        OpOK P (execOp a o) w F β σ r.val (r.eff.sig σ nn) (r.eff.av Av nn) := by
      intro hu hc
      cases he : elemInfo P t with
      | none => simp [he] at hc
      | some q =>
        obtain ⟨k, by_, z⟩ := q
        simp [he] at hc; subst hc
        simp only [isem] at h
        have fin : ∀ {x' : V} {σ' : Sig} {Av' : Nat → Prop}, SemOK P (Builtin.append_ #[t, u] o.type #[a x, a y]) w F β σ x' σ' Av' → OpOK P (execOp a o) w F β σ x' σ' Av' := by
          rintro x' σ' Av' ⟨v, w', F', β', g1, g2, g3, g4⟩
          refine ⟨.value v, w', F', β', ?_, .inl ⟨v, rfl, g3⟩, g2, g4⟩
          refine exec_builtin (f := Builtin.append_) ho hcal (fun _ _ _ _ => rfl) ?_
          rw [ea, et, map2]; exact g1
        split at h
        · rename_i news rd vc hel
          split at h
          · rename_i ex
            simp only [Option.some.injEq] at h; subst h
            simp only [Bool.and_eq_true, decide_eq_true_eq] at hvc
            obtain ⟨⟨rfl, v2⟩, v3⟩ := hvc
            obtain ⟨b, g⟩ := (ex ▸ h1).emp_inv
            have := snd_app_emp (P := P) (ty := o.type) (a := b) hr hnn he hu h2 hel v2 v3
            rw [← g] at this
            exact fin this
          · rename_i n off len ex
            split at h
            · rename_i k' es hn
              split at h
              · rename_i hkk _; subst hkk
                simp only [Option.some.injEq] at h; subst h
                simp only [Bool.and_eq_true, decide_eq_true_eq] at hvc
                obtain ⟨⟨⟨rfl, v2⟩, v3⟩, v4⟩ := hvc
                exact fin (snd_app_own (P := P) (ty := o.type) hr hnn he hu hn (ex ▸ h1) v2 h2 hel v3 v4)
              · cases h
            · cases h
          · cases h
        · cases h
    split at hc
    · rename_i e' hu; exact key' (.inl ⟨e', hu⟩) hc
    · rename_i hu; exact key' (.inr hu) hc
    · cases hc
  · cases hc
theorem snd_len' {c : Call} (hcal : c.callee = .builtin .len) : Snd P (.call c) := by
  intro w F β σ Av o iop a τ nn r ho hc hr hnn hτ h hvc
  simp only [compileOp?, hcal] at hc
  split at hc
  · rename_i x t hargs htys
    have ea := arr1 hargs
    have et := arr1 htys
    have h1 := hτ x (by simp [Op.operands, Call.operands, hcal, ea])
    have fin : ∀ {n : Int}, (Builtin.len_ #[t] o.type #[a x]).run P w = .ok (goInt n) w → OpOK P (execOp a o) w F β σ (.p (.int .i64 n)) σ Av := by
      intro n g
      refine .val hr (v := goInt n) ?_ (.of_p rfl)
      refine exec_builtin (f := Builtin.len_) ho hcal (fun _ _ _ _ => rfl) ?_
      rw [ea, et, map1]; exact g
    split at hc
    · rename_i e hd
      simp only [Option.some.injEq] at hc; subst hc
      simp only [isem] at h
      have sl : ∀ {b : Option Addr} {n c : Nat}, a x = .slice b n c → (Builtin.len_ #[t] o.type #[a x]).run P w = .ok (goInt n) w := by
        intro b n c g
        simp [Builtin.len_, run_underlying hd, g]
      split at h
      · rename_i k es ex
        simp only [Option.some.injEq] at h; subst h
        obtain ⟨b, c, g, _⟩ := (ex ▸ h1).sl_at
        exact fin (sl g)
      · rename_i ex
        simp only [Option.some.injEq] at h; subst h
        obtain ⟨b, g⟩ := (ex ▸ h1).emp_inv
        exact fin (sl g)
      · rename_i n off len ex
        simp only [Option.some.injEq] at h; subst h
        rcases (ex ▸ h1).own_inv with ⟨b, s, k', sz, cap, _, _, _, g⟩ | ⟨_, _, rfl, b, g⟩
        · exact fin (sl g)
        · exact fin (sl g)
      · cases h
    · rename_i hd
      simp only [Option.some.injEq] at hc; subst hc
      simp only [isem] at h
      split at h
      · rename_i s ex
        simp only [Option.some.injEq] at h; subst h
        have g := (ex ▸ h1).p_inv.1
        exact fin (by simp [Builtin.len_, run_underlying hd, g])
      · cases h
    · rename_i kt et' hd
      simp only [Option.some.injEq] at hc; subst hc
      simp only [isem] at h
      split at h
      · rename_i n ex
        split at h
        · rename_i ents hn
          simp only [Option.some.injEq] at h; subst h
          obtain ⟨b, es, clock, g, hb, hheap, hents⟩ := map_obj hr (ex ▸ h1) hn
          have hl : es.size = ents.length := by simpa using hents.1.1
          exact fin (by simp [Builtin.len_, run_underlying hd, g, run_getObj hheap, hl])
        · cases h
      · cases h
    · rename_i n e hd
      simp only [Option.some.injEq] at hc; subst hc
      rw [Nat.add_comm] at h
      simp only [isem, Option.some.injEq] at h; subst h
      exact fin (by simp [Builtin.len_, run_underlying hd])
    · cases hc
  · cases hc
theorem snd_max' {c : Call} (hcal : c.callee = .builtin .max) : Snd P (.call c) := by
  intro w F β σ Av o iop a τ nn r ho hc hr hnn hτ h hvc
  simp only [compileOp?, hcal] at hc
  split at hc
  · rename_i x y hargs
    have ea := arr2 hargs
    have h1 := hτ x (by simp [Op.operands, Call.operands, hcal, ea]); have h2 := hτ y (by simp [Op.operands, Call.operands, hcal, ea])
    simp only [Option.some.injEq] at hc; subst hc
    simp only [isem] at h
    split at h
    · rename_i k p k' q e1 e2
      simp only [Option.some.injEq] at h; subst h
      have g1 := (e1 ▸ h1).p_inv.1; have g2 := (e2 ▸ h2).p_inv.1
      refine .val hr (v := .int k (if q > p then q else p)) ?_ (.of_p rfl)
      refine exec_builtin (f := Builtin.max_) ho hcal (fun _ _ _ _ => rfl) ?_
      rw [ea, map2]
      simp [Builtin.max_, Builtin.max2, g1, g2]
    · cases h
  · cases hc
theorem isem_sound (op : Op) : Snd P op := by
  have bad : (∀ x, compileOp? P op = some x → ∀ τ g nn, isem x τ g nn = none) → Snd P op := by
    intro hb w F β σ Av o iop a τ nn r _ hc _ _ _ h _
    rw [hb iop hc] at h; cases h
  cases op with
  | move x => exact snd_move x
  | assign x => exact snd_assign x
  | pick c x y => exact snd_pick c x y
  | alloc e => exact snd_alloc' e
  | box e x => exact snd_box' e x
  | build t ps => exact snd_build' t ps
  | buildSlice t n ps => exact snd_bslice' t n ps
  | load t x => exact snd_load' t x
  | store t x y => exact snd_store' t x y
  | nilCheck x => exact snd_nilchk' x
  | binOp op t x y u => exact snd_bin op t u x y
  | unOp op t x => exact snd_un op t x
  | convert s d x => exact snd_conv s d x
  | makeInterface t x => exact snd_miface' t x
  | makeFunc f l m => exact snd_mkfn' f l m
  | makeMap t x => exact snd_mkmap' t x
  | makeSlice t l c => exact snd_mkslice' t l c
  | slice t x lo hi mx => exact snd_slc' t x lo hi mx
  | fieldAddr t x f => exact snd_faddr' t x f
  | field t x f => exact snd_fld' t x f
  | indexAddr t x i => exact snd_iaddr' t x i
  | index t x i => exact snd_idx' t x i
  | lookup t m k ok => exact snd_lookup' t m k ok
  | mapUpdate t m k v => exact snd_mapset' t m k v
  | extract x i => exact snd_ext' x i
  | call c =>
    cases hcal : c.callee with
    | value f =>
      refine bad fun x hx τ g nn => ?_
      cases f <;> (simp only [compileOp?, hcal, Option.some.injEq] at hx; subst hx; rfl)
    | invoke r m => exact bad fun x hx => by simp [compileOp?, hcal] at hx
    | builtin b =>
      by_cases h1 : b = .append
      · subst h1; exact snd_append' hcal
      · by_cases h2 : b = .len
        · subst h2; exact snd_len' hcal
        · by_cases h3 : b = .max
          · subst h3; exact snd_max' hcal
          · refine bad fun x hx τ g nn => ?_
            cases b <;> simp only [compileOp?, hcal] at hx <;> first
              | exact absurd rfl h1
              | exact absurd rfl h2
              | exact absurd rfl h3
              | (cases hx; done)
              | (split at hx
                 · first
                   | (simp only [Option.some.injEq] at hx; subst hx; rfl)
                   | (obtain ⟨q, _, hq⟩ := Option.bind_eq_some_iff.1 hx
                      simp only [Option.pure_def, Option.some.injEq] at hq
                      subst hq; rfl)
                 · cases hx)
  | range t x =>
    refine bad fun x hx τ g nn => ?_
    simp only [compileOp?] at hx
    split at hx
    · cases hx; rfl
    · cases hx
  | next x s =>
    refine bad fun y hx τ g nn => ?_
    cases s <;> simp only [compileOp?] at hx <;> cases hx
    rfl
  | entry x =>
    refine bad fun y hx τ g nn => ?_
    simp only [compileOp?] at hx
    cases hx; rfl
  | _ => exact bad fun x hx => by simp [compileOp?] at hx
end
section
open Go
variable {P : Program}
def Fn (P : Program) (f : FuncId) (xs : List V) (σ : Sig) (U : Nat → Prop) (y : V) (σ' : Sig) : Prop :=
  ∀ (w : World) (F : Nat → Prop) (β : Beta) (Av : Nat → Prop) (args : Array Value), Rep w F β σ Av → (∀ n, U n → Av n) → CellsRep w F β args xs →
    Calls P f args w fun e w' => ∃ v F' β', e = .returned v ∧ Rep w' F' β' σ' (fun n => Av n ∧ ¬ U n) ∧ VRep w' F' β' v y ∧ Evolve w F β σ w' F' β' σ'
def OpRun (P : Program) (ops : Array Oper) (i : Nat) (fr : Nat → V) (σ : Sig) (U : Nat → Prop) (x : V) (σ' : Sig) : Prop :=
  ∀ (w : World) (F : Nat → Prop) (β : Beta) (Av : Nat → Prop) (a : Act) (Q : Exit → Act → World → Prop) (K : Act → World → Prop) (o : Oper), ops[i]? = some o →
    (∀ t ∈ o.looksAt ops, VRep w F β (a.tmps.getD t Go.undef) (fr t)) → Rep w F β σ Av → (∀ n, U n → Av n) →
    (∀ v w' F' β', Rep w' F' β' σ' (fun n => Av n ∧ ¬ U n) → VRep w' F' β' v x → Evolve w F β σ w' F' β' σ' → K (a.put o.dst v) w') →
    wpOp P ops Q i K a w
def Sig.sub (σ σ2 : Sig) : Prop := ∀ n, σ n ≠ none → σ2 n = σ n
def Sig.beside (σ σ2 σ' : Sig) : Sig := fun n => match σ n, σ2 n with
  | none, some o => some o
  | _, _ => σ' n
theorem Rep.hide {w : World} {F : Nat → Prop} {β : Beta} {σ σ2 : Sig} {Av : Nat → Prop} (hs : σ.sub σ2) (hr : Rep w F β σ2 Av) : Rep w F β σ Av := by
  have h2 : ∀ n o, σ n = some o → σ2 n = some o := fun n o h => (hs n (by simp [h])).trans h
  exact ⟨hr.falloc, hr.dom, fun n o h => hr.obj n o (h2 n o h), fun n m o o' l l' b h1 h3 => hr.sep n m o o' l l' b (h2 n o h1) (h2 m o' h3), hr.gl⟩
theorem Rep.show {w w' : World} {F F' : Nat → Prop} {β β' : Beta} {σ σ2 σ' : Sig} {Av Av' : Nat → Prop} (hs : σ.sub σ2) (hr : Rep w F β σ2 Av)
    (hr' : Rep w' F' β' σ' Av') (he : Evolve w F β σ w' F' β' σ') : Rep w' F' β' (σ.beside σ2 σ') Av' ∧ Evolve w F β σ2 w' F' β' (σ.beside σ2 σ') := by
  have hrσ := hr.hide hs
  have cs : ∀ n o, σ.beside σ2 σ' n = some o → (σ n = none ∧ σ2 n = some o) ∨ (σ' n = some o ∧ (σ n ≠ none ∨ σ2 n = none)) := by
    intro n o h
    unfold Sig.beside at h
    split at h
    · rename_i o' h1 h2
      simp only [Option.some.injEq] at h; subst h
      exact .inl ⟨h1, h2⟩
    · rename_i h1
      refine .inr ⟨h, ?_⟩
      cases e1 : σ n with
      | some _ => exact .inl (by simp)
      | none =>
        cases e2 : σ2 n with
        | none => exact .inr rfl
        | some o2 => exact absurd e2 (h1 o2 e1)
  have hid : ∀ n o, σ n = none → σ2 n = some o → ∃ l, β n = some l ∧ ORep w F β l o ∧ (∀ b, l.block = some b → ¬ F b ∧ b < w.heap.size ∧ ¬ owned σ β b) := by
    intro n o h1 h2
    obtain ⟨l, g1, g2, g3⟩ := hr.obj n o h2
    refine ⟨l, g1, g2, fun b hb => ⟨(g3 b hb).1, (g3 b hb).2, ?_⟩⟩
    rintro ⟨m, o', l', k1, k2, k3⟩
    have hm : σ2 m = some o' := (hs m (by simp [k1])).trans k1
    have := hr.sep n m o o' l l' b h2 hm g1 k2 hb k3
    subst this
    rw [h1] at k1; cases k1
  have hFh := he.fheap hrσ
  refine ⟨⟨hr'.falloc, hr'.dom, ?_, ?_, hr'.gl⟩, ⟨he.os, he.tape, he.output, he.size, he.beta, he.frozen, ?_, ?_, ?_⟩⟩
  · intro n o h
    rcases cs n o h with ⟨h1, h2⟩ | ⟨h1, _⟩
    · obtain ⟨l, g1, g2, g3⟩ := hid n o h1 h2
      refine ⟨l, he.beta n l g1, g2.mono he.frozen hFh he.beta (fun b hb => he.block b (g3 b hb).2.1 (g3 b hb).2.2), fun b hb => ⟨?_, Nat.lt_of_lt_of_le (g3 b hb).2.1 he.size⟩⟩
      intro hF
      rcases he.newF b (g3 b hb).2.1 hF with k | k
      · exact (g3 b hb).1 k
      · exact (g3 b hb).2.2 k
    · exact hr'.obj n o h1
  · intro n m o o' l l' b h1 h2 h3 h4 h5 h6
    have two : ∀ (n m : Nat) (o o' : AObj) (l l' : Loc), σ n = none → σ2 n = some o → σ' m = some o' → β' n = some l → β' m = some l' → l.block = some b → l'.block = some b → False := by
      intro n m o o' l l' k1 k2 k3 k4 k5 k6 k7
      obtain ⟨l0, g1, _, g3⟩ := hid n o k1 k2
      have : l0 = l := by have := he.beta n l0 g1; rw [k4] at this; exact (Option.some.inj this).symm
      subst this
      exact (g3 b k6).2.2 (he.ownd b (g3 b k6).2.1 ⟨m, o', l', k3, k5, k7⟩)
    rcases cs n o h1 with ⟨a1, a2⟩ | ⟨a1, _⟩ <;> rcases cs m o' h2 with ⟨b1, b2⟩ | ⟨b1, _⟩
    · obtain ⟨l0, g1, _, _⟩ := hid n o a1 a2
      obtain ⟨l1, g2, _, _⟩ := hid m o' b1 b2
      have e1 : l0 = l := by have := he.beta n l0 g1; rw [h3] at this; exact (Option.some.inj this).symm
      have e2 : l1 = l' := by have := he.beta m l1 g2; rw [h4] at this; exact (Option.some.inj this).symm
      subst e1; subst e2
      exact hr.sep n m o o' l0 l1 b a2 b2 g1 g2 h5 h6
    · exact (two n m o o' l l' a1 a2 b1 h3 h4 h5 h6).elim
    · exact (two m n o' o l' l b1 b2 a1 h4 h3 h6 h5).elim
    · exact hr'.sep n m o o' l l' b a1 b1 h3 h4 h5 h6
  · intro b hb hno
    refine he.block b hb fun ⟨n, o, l, k1, k2, k3⟩ => hno ⟨n, o, l, (hs n (by simp [k1])).trans k1, k2, k3⟩
  · intro b hb hF
    rcases he.newF b hb hF with k | ⟨n, o, l, k1, k2, k3⟩
    · exact .inl k
    · exact .inr ⟨n, o, l, (hs n (by simp [k1])).trans k1, k2, k3⟩
  · rintro b hb ⟨n, o, l, k1, k2, k3⟩
    rcases cs n o k1 with ⟨a1, a2⟩ | ⟨a1, _⟩
    · obtain ⟨l0, g1, _, _⟩ := hid n o a1 a2
      have e1 : l0 = l := by have := he.beta n l0 g1; rw [k2] at this; exact (Option.some.inj this).symm
      subst e1
      exact ⟨n, o, l0, a2, g1, k3⟩
    · obtain ⟨m, o', l', q1, q2, q3⟩ := he.ownd b hb ⟨n, o, l, a1, k2, k3⟩
      exact ⟨m, o', l', (hs m (by simp [q1])).trans q1, q2, q3⟩
theorem OpRun.frame {ops : Array Oper} {i : Nat} {fr : Nat → V} {σ σ2 σ' : Sig} {U : Nat → Prop} {x : V} (h : OpRun P ops i fr σ U x σ') (hs : σ.sub σ2) :
    OpRun P ops i fr σ2 U x (σ.beside σ2 σ') := by
  intro w F β Av a Q K o ho hfr hr hU hK
  refine h w F β Av a Q K o ho hfr (hr.hide hs) hU fun v w' F' β' hr' hv he => ?_
  obtain ⟨g1, g2⟩ := hr.show hs hr' he
  exact hK v w' F' β' g1 hv g2
theorem Fn.frame {f : FuncId} {xs : List V} {σ σ2 σ' : Sig} {U : Nat → Prop} {y : V} (h : Fn P f xs σ U y σ') (hs : σ.sub σ2) : Fn P f xs σ2 U y (σ.beside σ2 σ') := by
  intro w F β Av args hr hU hc
  refine (h w F β Av args (hr.hide hs) hU hc).mono ?_
  rintro e w' ⟨v, F', β', h1, h2, h3, h4⟩
  obtain ⟨g1, g2⟩ := hr.show hs h2 h4
  exact ⟨v, F', β', h1, g1, h3, g2⟩
def strip : V → V
  | .cond _ x => x
  | x => x
def condOf : V → Bool
  | .cond b _ => b
  | _ => true
def tau (fr : Nat → V) : X → V
  | .t n => strip (fr n)
  | .c v => v
theorem VRep.cond_inv {w : World} {F : Nat → Prop} {β : Beta} {v : Value} {b : Bool} {x : V} (h : VRep w F β v (.cond b x)) : (b = true → VRep w F β v x) ∧ (b = false → v = Go.undef) := by
  cases h with
  | fr h => cases h
  | cond h1 h2 => exact ⟨h1, h2⟩
theorem VRep.strip {w : World} {F : Nat → Prop} {β : Beta} {v : Value} {x : V} (h : VRep w F β v x) (hc : condOf x = true) : VRep w F β v (As.strip x) := by
  cases x with
  | cond b y =>
    cases h with
    | fr h => cases h
    | cond h _ => exact h hc
  | _ => exact h
def opndCond (fr : Nat → V) : Operand → Bool
  | .tmp t => condOf (fr t)
  | _ => true
theorem vrep_operand {w : World} {F : Nat → Prop} {β : Beta} {a : Act} {fr : Nat → V} {x : Operand} (hg : GRep w F) (h : ∀ t, x = .tmp t → VRep w F β (a.tmps.getD t Go.undef) (fr t)) (hc : opndCond fr x = true) : VRep w F β (a.eval x) (tau fr (toX x)) := by
  cases x with
  | tmp t => exact (h t rfl).strip hc
  | const v => exact vrep_ofVal v
  | global g => exact hg.v g
  | func f => exact .fn rfl rfl (by simp) (by simp)
def guardV (ops : Array Oper) (fr : Nat → V) : Option (Nat × Bool) → Option Bool
  | none => some true
  | some (j, want) => match (ops[j]?).bind (·.dst) with
    | none => none
    | some t => match fr t with
      | .p (.bool b) => some (match want with | true => b | false => !b)
      | .cond c (.p (.bool b)) => some (c && (match want with | true => b | false => !b))
      | _ => none
theorem wanted_of {ops : Array Oper} {w : World} {F : Nat → Prop} {β : Beta} {a : Act} {fr : Nat → V} {o : Oper} (h : ∀ t ∈ o.looksAt ops, VRep w F β (a.tmps.getD t Go.undef) (fr t)) {g : Bool} (hg : guardV ops fr o.guard = some g) :
    Region.wanted o (yielded ops a.tmps) = g := by
  unfold Region.wanted
  cases hgd : o.guard with
  | none => simp only [hgd, guardV, Option.some.injEq] at hg; simp [hg]
  | some jw =>
    obtain ⟨j, want⟩ := jw
    simp only [hgd, guardV] at hg
    cases hd : (ops[j]?).bind (·.dst) with
    | none => simp [hd] at hg
    | some t =>
      simp only [hd] at hg
      have ht := h t (by simp [Oper.looksAt, hgd, hd])
      have hy : ∀ b : Bool, a.tmps.getD t Go.undef = .bool b → yielded ops a.tmps j = some b := by
        intro b hb
        unfold yielded
        simp only [hd, Option.bind_some]
        have : a.tmps[t]? = some (.bool b) := by
          simp only [Array.getD_eq_getD_getElem?] at hb
          cases e : a.tmps[t]? with
          | none => simp [e, Go.undef] at hb
          | some v => simp [e] at hb; rw [hb]
        simp [this]
      have hn : a.tmps.getD t Go.undef = Go.undef → yielded ops a.tmps j = none := by
        intro hb
        unfold yielded
        simp only [hd, Option.bind_some]
        cases e : a.tmps[t]? with
        | none => rfl
        | some v => simp [Array.getD_eq_getD_getElem?, e] at hb; subst hb; rfl
      split at hg
      · rename_i b hb
        simp only [Option.some.injEq] at hg
        have := hy b (hb ▸ ht).p_inv.1
        simp only [this]
        subst hg
        cases want <;> cases b <;> rfl
      · rename_i c b hb
        simp only [Option.some.injEq] at hg
        obtain ⟨h1, h2⟩ := (hb ▸ ht).cond_inv
        cases c with
        | true =>
          have := hy b (h1 rfl).p_inv.1
          simp only [this]
          subst hg
          cases want <;> cases b <;> rfl
        | false =>
          have := hn (h2 rfl)
          simp only [this]
          subst hg
          simp
      · cases hg
def Eff.used (e : Eff) (nn : Nat) : Nat → Prop :=
  match e with
  | .none | .set _ _ => fun _ => False
  | .new _ | .mv _ _ => fun n => n = nn
theorem Eff.av_used (e : Eff) (Av : Nat → Prop) (nn : Nat) : e.av Av nn = fun n => Av n ∧ ¬ e.used nn n := by
  funext n
  cases e <;> simp [Eff.av, Eff.used]
theorem Rep.av_mono {w : World} {F : Nat → Prop} {β : Beta} {σ : Sig} {Av Av' : Nat → Prop} (h : Rep w F β σ Av) (hs : ∀ n, Av' n → Av n) : Rep w F β σ Av' := ⟨h.falloc, fun n hn => h.dom n (hs n hn), h.obj, h.sep, h.gl⟩
theorem OpRun.isem {ops : Array Oper} {i : Nat} {fr : Nat → V} {σ : Sig} {o : Oper} (ho : ops[i]? = some o) {iop : IOp} (hc : compileOp? P o.op = some iop) (hg : guardV ops fr o.guard = some true)
    (hcond : o.op.operands.toList.all (opndCond fr) = true) {nn : Nat} {r : Res} (h : As.isem iop (tau fr) σ nn = some r) (hvc : r.vc = true) : OpRun P ops i fr σ (fun n => n = nn) r.val (r.eff.sig σ nn) := by
  intro w F β Av a Q K o' ho' hfr hr hU hK
  rw [ho] at ho'; cases ho'
  have hw := wanted_of hfr hg
  have hops : ∀ x ∈ o.op.operands, VRep w F β (a.eval x) (tau fr (toX x)) := by
    intro x hx
    refine vrep_operand hr.gl (fun t e => hfr t ?_) ?_
    · subst e
      exact List.mem_append_left _ (List.mem_filterMap.2 ⟨.tmp t, by simpa using hx, rfl⟩)
    · rw [List.all_eq_true] at hcond
      exact hcond x (by simpa using hx)
  obtain ⟨nx, w', F', β', g1, g2, g3, g4⟩ := isem_sound (P := P) o.op w F β σ Av o iop a.eval (tau fr) nn r rfl hc hr (hU nn rfl) hops h hvc
  unfold wpOp
  simp only [ho, hw, if_true]
  left
  have hr' : Rep w' F' β' (r.eff.sig σ nn) (fun n => Av n ∧ ¬ n = nn) := g3.av_mono (by
    intro n hn
    rw [Eff.av_used]
    refine ⟨hn.1, ?_⟩
    cases r.eff <;> simp [Eff.used, hn.2])
  unfold Oper.wp
  rw [g1]
  rcases g2 with ⟨v, rfl, hv⟩ | ⟨rfl, hx⟩
  · exact hK v w' F' β' hr' hv g4
  · exact hK Go.undef w' F' β' hr' (hx ▸ .undef) g4
theorem OpRun.skip {ops : Array Oper} {i : Nat} {fr : Nat → V} {σ : Sig} {o : Oper} (ho : ops[i]? = some o) (hg : guardV ops fr o.guard = some false) : OpRun P ops i fr σ (fun _ => False) .undef σ := by
  intro w F β Av a Q K o' ho' hfr hr _ hK
  rw [ho] at ho'; cases ho'
  have hw := wanted_of hfr hg
  unfold wpOp
  simp only [ho, hw]
  exact hK Go.undef w F β (hr.av_mono fun n h => h.1) .undef (Evolve.refl _ _ _ _)
theorem OpRun.call {ops : Array Oper} {i : Nat} {fr : Nat → V} {σ σ' : Sig} {o : Oper} (ho : ops[i]? = some o) {c : Call} (hop : o.op = .call c) {f : Operand} (hcal : c.callee = .value f) (hg : guardV ops fr o.guard = some true)
    (hcond : o.op.operands.toList.all (opndCond fr) = true) {k : FuncId} {first caps : List V} (hf : tau fr (toX f) = .fn (.func k) first caps) (henter : ∀ args w, (callFunc k args).run P w = .ok (.enter k args) w)
    {U : Nat → Prop} {y : V} (h : Fn P k (first ++ c.args.toList.map (fun x => tau fr (toX x)) ++ caps) σ U y σ') : OpRun P ops i fr σ U y σ' := by
  intro w F β Av a Q K o' ho' hfr hr hU hK
  rw [ho] at ho'; cases ho'
  have hw := wanted_of hfr hg
  have hops : ∀ x ∈ o.op.operands, VRep w F β (a.eval x) (tau fr (toX x)) := by
    intro x hx
    refine vrep_operand hr.gl (fun t e => hfr t ?_) ?_
    · subst e
      exact List.mem_append_left _ (List.mem_filterMap.2 ⟨.tmp t, by simpa using hx, rfl⟩)
    · rw [List.all_eq_true] at hcond
      exact hcond x (by simpa using hx)
  have hfv := hf ▸ hops f (by simp [hop, Op.operands, Call.operands, hcal])
  obtain ⟨us, vs, e1, l1, l2, c1, c2⟩ := hfv.fn_inv
  obtain ⟨l3, c3⟩ := vrep_list (w := w) (F := F) (β := β) (a := a.eval) (τ := tau fr) (l := c.args.toList) (fun x hx => hops x (by simp [hop, Op.operands, Call.operands]; exact .inr (by simpa using hx)))
  have hargs : CellsRep w F β (us ++ c.args.map a.eval ++ vs) (first ++ c.args.toList.map (fun x => tau fr (toX x)) ++ caps) := by
    have e2 : c.args.map a.eval = (c.args.toList.map a.eval).toArray := by apply Array.ext'; simp
    have app : ∀ {p q : Array Value} {x y : List V}, CellsRep w F β p x → CellsRep w F β q y → CellsRep w F β (p ++ q) (x ++ y) := by
      intro p q x y h1 h2
      refine ⟨by simp [h1.1, h2.1], fun j hj => ?_⟩
      rw [nth_append]
      split
      · rename_i hlt
        have : (p ++ q).getD j Go.undef = p.getD j Go.undef := by
          simp only [Array.getD_eq_getD_getElem?]
          rw [Array.getElem?_append_left (by rw [h1.1]; exact hlt)]
        rw [this]; exact h1.2 j hlt
      · rename_i hge
        have : (p ++ q).getD j Go.undef = q.getD (j - x.length) Go.undef := by
          simp only [Array.getD_eq_getD_getElem?]
          rw [Array.getElem?_append_right (by rw [h1.1]; omega), h1.1]
        rw [this]
        simp only [List.length_append] at hj
        exact h2.2 _ (by omega)
    refine app (app ⟨l1, c1⟩ ?_) ⟨l2, c2⟩
    rw [e2]; exact ⟨l3, c3⟩
  unfold wpOp
  simp only [ho, hw, if_true]
  left
  have hrun : (execOp a.eval o).run P w = .ok (.enter k (us ++ c.args.map a.eval ++ vs)) w := by
    simp only [execOp, hop, resolve, hcal, e1, Deferred.ofValue, Sem.run_bind, Sem.run_pure, Result.andThen_ok, invoke]
    exact henter _ w
  unfold Oper.wp
  rw [hrun]
  show Calls P k _ w _
  refine (h w F β Av _ hr hU hargs).mono ?_
  rintro e w' ⟨v, F', β', rfl, g1, g2, g3⟩
  exact hK v w' F' β' g1 g2 g3
end
section
open Go
variable {P : Program}
def putF (fr : Nat → V) (d : Option Tmp) (x : V) : Nat → V := match d with
  | none => fr
  | some t => fun u => if u = t then x else fr u
theorem putF_eq {fr : Nat → V} {d : Option Tmp} {x : V} {t : Nat} (h : d = some t) : putF fr d x t = x := by subst h; simp [putF]
theorem putF_ne {fr : Nat → V} {d : Option Tmp} {x : V} {t : Nat} (h : d ≠ some t) : putF fr d x t = fr t := by
  cases d with
  | none => rfl
  | some u =>
    have : t ≠ u := by rintro rfl; exact h rfl
    simp [putF, this]
structure Plan where
  fr0 : Nat → V
  σ0 : Sig
  x : Nat → V
  U : Nat → Nat → Prop
  touch : Nat → Nat → Bool
  val : Nat → Nat → Option AObj
def Plan.fr (p : Plan) (dst : Nat → Option Tmp) (S : Nat → Bool) : Nat → (Nat → V)
  | 0 => p.fr0
  | k + 1 => match S k with
    | true => putF (p.fr dst S k) (dst k) (p.x k)
    | false => p.fr dst S k
def Plan.sig (p : Plan) (S : Nat → Bool) : Nat → Sig
  | 0 => p.σ0
  | k + 1 => match S k with
    | true => fun n => if p.touch k n then p.val k n else p.sig S k n
    | false => p.sig S k
abbrev allS : Nat → Bool := fun _ => true
theorem Plan.fr_at (p : Plan) (dst : Nat → Option Tmp) (S : Nat → Bool) (t i N : Nat) (h : ∀ k, k < N → dst k = some t → S k = decide (k < i)) : p.fr dst S N t = p.fr dst allS (min N i) t := by
  induction N with
  | zero => simp [Plan.fr]
  | succ k ih =>
    have ih' := ih (fun q hq => h q (by omega))
    by_cases hd : dst k = some t
    · have hs := h k (by omega) hd
      by_cases hki : k < i
      · have e : min (k + 1) i = k + 1 := by omega
        rw [e]
        simp only [Plan.fr, hs, hki, decide_true, putF, hd, if_true]
      · have e : min (k + 1) i = i := by omega
        have e2 : min k i = i := by omega
        rw [e2] at ih'
        rw [e]
        simp only [Plan.fr, hs, hki, decide_false]
        exact ih'
    · have skip : p.fr dst S (k + 1) t = p.fr dst S k t := by
        simp only [Plan.fr]
        cases S k with
        | false => rfl
        | true => exact putF_ne hd
      rw [skip, ih']
      by_cases hki : k < i
      · have e : min (k + 1) i = k + 1 := by omega
        have e2 : min k i = k := by omega
        rw [e, e2]
        simp only [Plan.fr]
        exact (putF_ne hd).symm
      · have e : min (k + 1) i = i := by omega
        have e2 : min k i = i := by omega
        rw [e, e2]
theorem Plan.sig_at (p : Plan) (S : Nat → Bool) (n i N : Nat) (h : ∀ k, k < N → p.touch k n = true → S k = decide (k < i)) : p.sig S N n = p.sig allS (min N i) n := by
  induction N with
  | zero => simp [Plan.sig]
  | succ k ih =>
    have ih' := ih (fun q hq => h q (by omega))
    by_cases hd : p.touch k n = true
    · have hs := h k (by omega) hd
      by_cases hki : k < i
      · have e : min (k + 1) i = k + 1 := by omega
        rw [e]
        simp only [Plan.sig, hs, hki, decide_true, hd, if_true]
      · have e : min (k + 1) i = i := by omega
        have e2 : min k i = i := by omega
        rw [e2] at ih'
        rw [e]
        simp only [Plan.sig, hs, hki, decide_false]
        exact ih'
    · have skip : ∀ S : Nat → Bool, p.sig S (k + 1) n = p.sig S k n := by
        intro S
        simp only [Plan.sig]
        cases S k with
        | false => rfl
        | true => simp [hd]
      rw [skip, ih']
      by_cases hki : k < i
      · have e : min (k + 1) i = k + 1 := by omega
        have e2 : min k i = k := by omega
        rw [e, e2, skip]
      · have e : min (k + 1) i = i := by omega
        have e2 : min k i = i := by omega
        rw [e, e2]
def addS (S : Nat → Bool) (i : Nat) : Nat → Bool := fun k => if k = i then true else S k
theorem Plan.fr_add (p : Plan) (dst : Nat → Option Tmp) (S : Nat → Bool) (i N : Nat) (hi : i < N) (t : Nat) (h : dst i = some t → ∀ k, k < N → i < k → dst k = some t → S k = false) (hS : S i = false) :
    p.fr dst (addS S i) N t = putF (p.fr dst S N) (dst i) (p.x i) t := by
  induction N with
  | zero => omega
  | succ k ih =>
    by_cases hk : i < k
    · have ih' := ih hk (fun e q hq => h e q (by omega))
      have e : addS S i k = S k := by simp [addS, show k ≠ i by omega]
      simp only [Plan.fr, e]
      cases hsk : S k with
      | false => exact ih'
      | true =>
        simp only
        by_cases hdk : dst k = some t
        · have hdi : dst i ≠ some t := by
            intro hdi
            have := h hdi k (by omega) hk hdk
            rw [hsk] at this; cases this
          rw [putF_eq hdk, putF_ne hdi, putF_eq hdk]
        · rw [putF_ne hdk, ih']
          by_cases hdi : dst i = some t
          · rw [putF_eq hdi, putF_eq hdi]
          · rw [putF_ne hdi, putF_ne hdi, putF_ne hdk]
    · have hik : k = i := by omega
      subst hik
      have e : ∀ q, q < k → addS S k q = S q := fun q hq => by simp [addS, show q ≠ k by omega]
      have same : ∀ M, M ≤ k → p.fr dst (addS S k) M = p.fr dst S M := by
        intro M
        induction M with
        | zero => intro _; rfl
        | succ M ihM => intro hM; simp only [Plan.fr, e M (by omega), ihM (by omega)]
      have ek : addS S k k = true := by simp [addS]
      simp only [Plan.fr, ek, hS, same k (Nat.le_refl _)]
theorem Plan.sig_add (p : Plan) (S : Nat → Bool) (i N : Nat) (hi : i < N) (n : Nat) (h : p.touch i n = true → ∀ k, k < N → i < k → p.touch k n = true → S k = false) (hS : S i = false) :
    p.sig (addS S i) N n = if p.touch i n then p.val i n else p.sig S N n := by
  induction N with
  | zero => omega
  | succ k ih =>
    by_cases hk : i < k
    · have ih' := ih hk (fun e q hq => h e q (by omega))
      have e : addS S i k = S k := by simp [addS, show k ≠ i by omega]
      simp only [Plan.sig, e]
      cases hsk : S k with
      | false => exact ih'
      | true =>
        simp only
        by_cases hdk : p.touch k n = true
        · have : p.touch i n ≠ true := by
            intro hdi
            have := h hdi k (by omega) hk hdk
            rw [hsk] at this; cases this
          simp [hdk, this]
        · simp only [hdk]
          exact ih'
    · have hik : k = i := by omega
      subst hik
      have e : ∀ q, q < k → addS S k q = S q := fun q hq => by simp [addS, show q ≠ k by omega]
      have same : ∀ M, M ≤ k → p.sig (addS S k) M = p.sig S M := by
        intro M
        induction M with
        | zero => intro _; rfl
        | succ M ihM => intro hM; simp only [Plan.sig, e M (by omega), ihM (by omega)]
      have ek : addS S k k = true := by simp [addS]
      simp only [Plan.sig, ek, hS, same k (Nat.le_refl _)]
def cnt (S : Nat → Bool) : Nat → Nat
  | 0 => 0
  | k + 1 => cnt S k + if S k then 0 else 1
theorem cnt_add (S : Nat → Bool) (i N : Nat) (hi : i < N) (hS : S i = false) : cnt (addS S i) N + 1 = cnt S N := by
  induction N with
  | zero => omega
  | succ k ih =>
    by_cases hk : i < k
    · have e : addS S i k = S k := by simp [addS, show k ≠ i by omega]
      have := ih hk
      simp only [cnt, e]; omega
    · have hik : k = i := by omega
      subst hik
      have same : ∀ M, M ≤ k → cnt (addS S k) M = cnt S M := by
        intro M
        induction M with
        | zero => intro _; rfl
        | succ M ihM => intro hM; simp only [cnt, ihM (by omega)]; simp [addS, show M ≠ k by omega]
      simp [cnt, same k (Nat.le_refl _), hS, addS]
theorem cnt_zero (S : Nat → Bool) (N : Nat) (h : cnt S N = 0) : ∀ k, k < N → S k = true := by
  induction N with
  | zero => intro k hk; omega
  | succ m ih =>
    simp only [cnt] at h
    intro k hk
    by_cases e : k = m
    · subst e; cases hs : S k with
      | true => rfl
      | false => simp [hs] at h
    · exact ih (by omega) k (by omega)
end
section
open Go
variable {P : Program}
def dstOf (ops : Array Oper) (i : Nat) : Option Tmp := (ops[i]?).bind (·.dst)
def loose (ord : Nat → Nat → Bool) (i j : Nat) : Bool := j != i && !ord i j && !ord j i
def Plan.hidB (p : Plan) (ord : Nat → Nat → Bool) (N i n : Nat) : Bool := (List.range N).any fun j => loose ord i j && p.touch j n
def Plan.hid (p : Plan) (ord : Nat → Nat → Bool) (N i : Nat) : Sig := fun n => match p.hidB ord N i n with
  | true => none
  | false => p.sig allS i n
structure Edges (ops : Array Oper) (ord : Nat → Nat → Bool) : Prop where
  pre : ∀ i o, ops[i]? = some o → ∀ k, ord k i = true → ∃ e ∈ o.after, Region.binds .any e = true ∧ (k = e.on ∨ ord k e.on = true)
  back : ∀ i o, ops[i]? = some o → ∀ e ∈ o.after, Region.binds .any e = true → e.on < i
  lt : ∀ k i, ord k i = true → k < i
  tmp : ∀ i k oi ok t, ops[i]? = some oi → ops[k]? = some ok → k ≠ i → ok.dst = some t → (t ∈ oi.looksAt ops ∨ oi.dst = some t) → ord k i = true ∨ ord i k = true
structure PlanOK (P : Program) (ops : Array Oper) (p : Plan) (ord : Nat → Nat → Bool) : Prop where
  edges : Edges ops ord
  run : ∀ i, i < ops.size → OpRun P ops i (p.fr (dstOf ops) allS i) (p.hid ord ops.size i) (p.U i) (p.x i) (fun n => if p.touch i n then p.val i n else p.hid ord ops.size i n)
  sep : ∀ i n, i < ops.size → p.touch i n = true → p.hidB ord ops.size i n = false
  free : ∀ i k n, i < ops.size → k < ops.size → i ≠ k → p.U i n → ¬ p.U k n
structure Sofar (ops : Array Oper) (p : Plan) (ord : Nat → Nat → Bool) (Av : Nat → Prop) (w0 : World) (F0 : Nat → Prop) (β0 : Beta) (sz : Nat) (df : List Deferred) (S : Nat → Bool) (a : Act) (w : World) : Prop where
  ex : ∃ F β, (∀ t, VRep w F β (a.tmps.getD t Go.undef) (p.fr (dstOf ops) S ops.size t)) ∧ Rep w F β (p.sig S ops.size) (fun n => Av n ∧ ∀ k, k < ops.size → S k = true → ¬ p.U k n) ∧
    Evolve w0 F0 β0 p.σ0 w F β (p.sig S ops.size)
  size : a.tmps.size = sz
  defers : a.defers = df
  down : ∀ i, i < ops.size → S i = true → ∀ k, ord k i = true → S k = true
theorem hidB_false {p : Plan} {ord : Nat → Nat → Bool} {N i n : Nat} (h : p.hidB ord N i n = false) : ∀ j, j < N → p.touch j n = true → j = i ∨ ord i j = true ∨ ord j i = true := by
  intro j hj ht
  simp only [Plan.hidB, List.any_eq_false, List.mem_range] at h
  have := h j hj
  simp only [loose, ht, Bool.and_true, Bool.and_eq_true, bne_iff_ne, ne_eq, Bool.not_eq_true'] at this
  by_cases e : j = i
  · exact .inl e
  · right
    cases h1 : ord i j with
    | true => exact .inl rfl
    | false =>
      cases h2 : ord j i with
      | true => exact .inr rfl
      | false => exact absurd ⟨⟨e, h1⟩, h2⟩ this
theorem draw_step {ops : Array Oper} {p : Plan} {ord : Nat → Nat → Bool} (hp : PlanOK P ops p ord) {Av : Nat → Prop} {w0 : World} {F0 : Nat → Prop} {β0 : Beta} {sz : Nat} {df : List Deferred}
    (hU : ∀ i n, i < ops.size → p.U i n → Av n) (hd : ∀ (i : Nat) (o : Oper) (d : Nat), ops[i]? = some o → o.dst = some d → d < sz) {Q : Exit → Act → World → Prop}
    {S : Nat → Bool} {a : Act} {w : World} (hs : Sofar ops p ord Av w0 F0 β0 sz df S a w) {i : Nat} (hi : i < ops.size) (hSi : S i = false)
    (hready : ∀ o, ops[i]? = some o → ∀ e ∈ o.after, Region.binds .any e = true → S e.on = true) {K : Act → World → Prop}
    (hK : ∀ a' w', Sofar ops p ord Av w0 F0 β0 sz df (addS S i) a' w' → K a' w') : wpOp P ops Q i K a w := by
  obtain ⟨⟨F, β, hfr, hrep, hev⟩, hsize, hdf, hdown⟩ := hs
  obtain ⟨o, ho⟩ : ∃ o, ops[i]? = some o := ⟨ops[i], Array.getElem?_eq_getElem hi⟩
  have hpre : ∀ k, ord k i = true → S k = true := by
    intro k hk
    obtain ⟨e, he, hb, h⟩ := hp.edges.pre i o ho k hk
    have hSe := hready o ho e he hb
    rcases h with rfl | h
    · exact hSe
    · exact hdown e.on (Nat.lt_trans (hp.edges.back i o ho e he hb) hi) hSe k h
  have hsuc : ∀ k, k < ops.size → ord i k = true → S k = false := by
    intro k hk hik
    cases hSk : S k with
    | false => rfl
    | true => rw [hdown k hk hSk i hik] at hSi; cases hSi
  have hslot : ∀ t, (t ∈ o.looksAt ops ∨ o.dst = some t) → p.fr (dstOf ops) S ops.size t = p.fr (dstOf ops) allS i t := by
    intro t ht
    have := p.fr_at (dstOf ops) S t i ops.size (by
      intro k hk hdk
      obtain ⟨ok, hok⟩ : ∃ ok, ops[k]? = some ok := ⟨ops[k], Array.getElem?_eq_getElem hk⟩
      have hdk' : ok.dst = some t := by simpa [dstOf, hok] using hdk
      by_cases e : k = i
      · subst e; simp [hSi]
      · rcases hp.edges.tmp i k o ok t ho hok e hdk' ht with h | h
        · rw [hpre k h]; simp [hp.edges.lt k i h]
        · rw [hsuc k hk h]; have := hp.edges.lt i k h; simp; omega)
    rw [this, Nat.min_eq_right (by omega)]
  have hobj : ∀ n, p.hidB ord ops.size i n = false → p.sig S ops.size n = p.sig allS i n := by
    intro n hn
    have := p.sig_at S n i ops.size (by
      intro k hk htk
      rcases hidB_false hn k hk htk with h | h | h
      · subst h; simp [hSi]
      · rw [hsuc k hk h]; have := hp.edges.lt i k h; simp; omega
      · rw [hpre k h]; simp [hp.edges.lt k i h])
    rw [this, Nat.min_eq_right (by omega)]
  have hsub : (p.hid ord ops.size i).sub (p.sig S ops.size) := by
    intro n hn
    simp only [Plan.hid] at hn ⊢
    cases h : p.hidB ord ops.size i n with
    | true => simp [h] at hn
    | false => simp only [hobj n h]
  have hrun := (hp.run i hi).frame hsub
  have hsig : (p.hid ord ops.size i).beside (p.sig S ops.size) (fun n => if p.touch i n then p.val i n else p.hid ord ops.size i n) = p.sig (addS S i) ops.size := by
    funext n
    rw [p.sig_add S i ops.size hi n (by
      intro ht k hk hik htk
      rcases hidB_false (hp.sep i n hi ht) k hk htk with h | h | h
      · omega
      · exact hsuc k hk h
      · have := hp.edges.lt k i h; omega) hSi]
    unfold Sig.beside
    by_cases ht : p.touch i n = true
    · have hn := hp.sep i n hi ht
      have e1 : p.hid ord ops.size i n = p.sig S ops.size n := by simp only [Plan.hid, hn, hobj n hn]
      simp only [ht, if_true, e1]
      split
      · rename_i h1 h2; rw [h1] at h2; cases h2
      · rfl
    · have htf : p.touch i n = false := by simpa using ht
      simp only [htf, Bool.false_eq_true, if_false]
      cases hn : p.hidB ord ops.size i n with
      | true =>
        have e1 : p.hid ord ops.size i n = none := by simp [Plan.hid, hn]
        rw [e1]
        cases p.sig S ops.size n <;> rfl
      | false =>
        have e1 : p.hid ord ops.size i n = p.sig S ops.size n := by simp only [Plan.hid, hn, hobj n hn]
        rw [e1]
        split
        · rename_i h1 h2; rw [h1] at h2; cases h2
        · rfl
  rw [hsig] at hrun
  refine hrun w F β _ a Q K o ho (fun t ht => ?_) hrep ?_ ?_
  · rw [← hslot t (.inl ht)]; exact hfr t
  · intro n hn
    refine ⟨hU i n hi hn, fun k hk hSk hUk => ?_⟩
    refine hp.free k i n hk hi ?_ hUk hn
    rintro rfl; rw [hSi] at hSk; cases hSk
  · intro v w' F' β' hr' hv he
    refine hK _ _ ⟨⟨F', β', fun t => ?_, ?_, hev.trans he⟩, ?_, ?_, ?_⟩
    · rw [p.fr_add (dstOf ops) S i ops.size hi t (by
        intro hdi k hk hik hdk
        obtain ⟨ok, hok⟩ : ∃ ok, ops[k]? = some ok := ⟨ops[k], Array.getElem?_eq_getElem hk⟩
        have hdk' : ok.dst = some t := by simpa [dstOf, hok] using hdk
        have hdi' : o.dst = some t := by simpa [dstOf, ho] using hdi
        rcases hp.edges.tmp i k o ok t ho hok (by omega) hdk' (.inr hdi') with h | h
        · have := hp.edges.lt k i h; omega
        · exact hsuc k hk h) hSi]
      have hdo : dstOf ops i = o.dst := by simp [dstOf, ho]
      rw [hdo]
      by_cases hdt : o.dst = some t
      · rw [putF_eq hdt]
        have hlt : t < a.tmps.size := by rw [hsize]; exact hd i o t ho hdt
        have : (a.put o.dst v).tmps.getD t Go.undef = v := by simp [Act.put, hdt, Array.getD_eq_getD_getElem?, hlt]
        rw [this]; exact hv
      · rw [putF_ne hdt]
        have : (a.put o.dst v).tmps.getD t Go.undef = a.tmps.getD t Go.undef := by
          cases hod : o.dst with
          | none => rfl
          | some u =>
            have : u ≠ t := by rintro rfl; exact hdt hod
            simp [Act.put, Array.getD_eq_getD_getElem?, Array.getElem?_setIfInBounds_ne this]
        rw [this]
        exact he.vrep hrep (hfr t)
    · refine hr'.av_mono fun n hn => ?_
      refine ⟨⟨hn.1, fun k hk hSk => hn.2 k hk (by simp [addS, hSk])⟩, hn.2 i hi (by simp [addS])⟩
    · cases hod : o.dst <;> simp [Act.put, hsize]
    · cases hod : o.dst <;> simp [Act.put, hdf]
    · intro q hq hSq k hk
      by_cases e : q = i
      · subst e
        have := hpre k hk
        simp only [addS]; split <;> simp [this]
      · have hSq' : S q = true := by simpa [addS, e] using hSq
        have := hdown q hq hSq' k hk
        simp only [addS]; split <;> simp [this]
end
section
open Go
variable {P : Program}
theorem Plan.fr_all (p : Plan) (dst : Nat → Option Tmp) (S : Nat → Bool) (N : Nat) (h : ∀ k, k < N → S k = true) : p.fr dst S N = p.fr dst allS N := by
  induction N with
  | zero => rfl
  | succ k ih => simp only [Plan.fr, h k (by omega), ih (fun q hq => h q (by omega))]
theorem Plan.sig_all (p : Plan) (S : Nat → Bool) (N : Nat) (h : ∀ k, k < N → S k = true) : p.sig S N = p.sig allS N := by
  induction N with
  | zero => rfl
  | succ k ih => simp only [Plan.sig, h k (by omega), ih (fun q hq => h q (by omega))]
def Sof (listed : Array Bool) : Nat → Bool := fun k => listed.getD k false
theorem Sof_set (listed : Array Bool) (i : Nat) (hi : i < listed.size) : Sof (listed.setIfInBounds i true) = addS (Sof listed) i := by
  funext k
  simp only [Sof, addS, Array.getD_eq_getD_getElem?]
  by_cases h : k = i
  · subst h; simp [hi]
  · rw [Array.getElem?_setIfInBounds_ne (Ne.symm h)]; simp [h]
theorem mem_ready {ops : Array Oper} {listed : Array Bool} {i : Nat} (h : i ∈ Region.ready .any ops listed) (hsz : listed.size = ops.size) :
    i < ops.size ∧ Sof listed i = false ∧ ∀ o, ops[i]? = some o → ∀ e ∈ o.after, Region.binds .any e = true → Sof listed e.on = true := by
  simp only [Region.ready, List.mem_filter, List.mem_range, Bool.and_eq_true, Bool.not_eq_true'] at h
  obtain ⟨h1, h2, h3⟩ := h
  refine ⟨h1, ?_, fun o ho e he hb => ?_⟩
  · simp only [Array.getD_eq_getD_getElem?, Sof] at h2 ⊢
    have : i < listed.size := by omega
    simp [this] at h2 ⊢; exact h2
  · rw [ho] at h3
    simp only [Option.map_some, Option.getD_some, Array.all_eq_true_iff_forall_mem] at h3
    have := h3 e he
    simp only [hb, Bool.not_true, Bool.false_or] at this
    exact this
theorem ready_nil {ops : Array Oper} {ord : Nat → Nat → Bool} (he : Edges ops ord) {listed : Array Bool} (hsz : listed.size = ops.size) (h : Region.ready .any ops listed = []) : ∀ k, k < ops.size → Sof listed k = true := by
  intro k
  induction k using Nat.strongRecOn with
  | _ k ih =>
    intro hk
    cases hS : Sof listed k with
    | true => rfl
    | false =>
      exfalso
      have : k ∈ Region.ready .any ops listed := by
        simp only [Region.ready, List.mem_filter, List.mem_range, Bool.and_eq_true, Bool.not_eq_true']
        refine ⟨hk, ?_, ?_⟩
        · simp only [Array.getD_eq_getD_getElem?, Sof] at hS ⊢
          have : k < listed.size := by omega
          simp [this] at hS ⊢; exact hS
        · have ho : ops[k]? = some ops[k] := Array.getElem?_eq_getElem hk
          rw [ho]
          simp only [Option.map_some, Option.getD_some, Array.all_eq_true_iff_forall_mem]
          intro e hem
          cases hb : Region.binds .any e with
          | false => rfl
          | true =>
            have hlt := he.back k _ ho e hem hb
            have := ih e.on hlt (by omega)
            simpa [Sof] using this
      rw [h] at this; cases this
theorem draw_any {ops : Array Oper} {p : Plan} {ord : Nat → Nat → Bool} (hp : PlanOK P ops p ord) {Av : Nat → Prop} {w0 : World} {F0 : Nat → Prop} {β0 : Beta} {sz : Nat} {df : List Deferred}
    (hU : ∀ i n, i < ops.size → p.U i n → Av n) (hd : ∀ (i : Nat) (o : Oper) (d : Nat), ops[i]? = some o → o.dst = some d → d < sz) {Q : Exit → Act → World → Prop}
    (hQ : ∀ S a w, (∀ k, k < ops.size → S k = true) → Sofar ops p ord Av w0 F0 β0 sz df S a w → Q .normal a w) :
    ∀ (fuel : Nat) (listed : Array Bool) (a : Act) (w : World), listed.size = ops.size → cnt (Sof listed) ops.size ≤ fuel → Sofar ops p ord Av w0 F0 β0 sz df (Sof listed) a w → wpAny P .any ops Q fuel listed a w := by
  intro fuel
  induction fuel with
  | zero =>
    intro listed a w hsz hc hs
    have hall := cnt_zero (Sof listed) ops.size (by omega)
    refine ⟨?_, hQ _ a w hall hs⟩
    cases hr : Region.ready .any ops listed with
    | nil => rfl
    | cons i l =>
      obtain ⟨h1, h2, _⟩ := mem_ready (i := i) (by rw [hr]; simp) hsz
      rw [hall i h1] at h2; cases h2
  | succ fuel ih =>
    intro listed a w hsz hc hs
    refine ⟨fun h => hQ _ a w (ready_nil hp.edges hsz h) hs, fun i hir => ?_⟩
    obtain ⟨h1, h2, h3⟩ := mem_ready hir hsz
    refine draw_step hp hU hd hs h1 h2 h3 fun a' w' hs' => ?_
    refine ih _ a' w' (by simpa using hsz) ?_ ?_
    · rw [Sof_set listed i (by omega)]
      have := cnt_add (Sof listed) i ops.size h1 h2
      omega
    · rw [Sof_set listed i (by omega)]; exact hs'
def FrOK (w : World) (F : Nat → Prop) (β : Beta) (sz : Nat) (df : Rd) (fr : Nat → V) (a : Act) : Prop :=
  a.tmps.size = sz ∧ Marks df.n0 w F a.defers ∧ ∀ t, VRep w F β (a.tmps.getD t Go.undef) (fr t)
def Tri (P : Program) (sz : Nat) (df : Rd) (c : Code) (fr : Nat → V) (σ : Sig) (Av : Nat → Prop) (Q : Exit → (Nat → V) → Sig → (Nat → Prop) → Prop) : Prop :=
  ∀ (w : World) (F : Nat → Prop) (β : Beta) (a : Act), FrOK w F β sz df fr a → Rep w F β σ Av →
    wpR P df.ro c (fun e a' w' => ∃ fr' σ' Av' F' β', Q e fr' σ' Av' ∧ FrOK w' F' β' sz df fr' a' ∧ Rep w' F' β' σ' Av' ∧ Evolve w F β σ w' F' β' σ') a w
theorem Tri.draw {sz : Nat} {df : Rd} {id : Nat} {ops : Array Oper} {p : Plan} {ord : Nat → Nat → Bool} (hnd : noDefers ops = true) (hm : P.follows .mixedOrders = true) (hp : PlanOK P ops p ord)
    (hd : ∀ (i : Nat) (o : Oper) (d : Nat), ops[i]? = some o → o.dst = some d → d < sz) {Av : Nat → Prop} (hU : ∀ i n, i < ops.size → p.U i n → Av n) {Q : Exit → (Nat → V) → Sig → (Nat → Prop) → Prop}
    (hQ : Q .normal (p.fr (dstOf ops) allS ops.size) (p.sig allS ops.size) (fun n => Av n ∧ ∀ k, k < ops.size → ¬ p.U k n)) : Tri P sz df (.region id ops true) p.fr0 p.σ0 Av Q := by
  intro w F β a hf hr
  refine wpR_region_any hnd hm ?_
  obtain ⟨hrd, hed⟩ := hr.drew
  refine draw_any hp (Av := Av) (w0 := w.drew) (F0 := F) (β0 := β) (sz := sz) (df := a.defers) hU hd ?_ ops.size _ a _ (by simp) ?_ ?_
  · rintro S a' w' hS ⟨⟨F', β', h1, h2, h3⟩, h4, h5, _⟩
    rw [p.fr_all _ S _ hS] at h1
    rw [p.sig_all S _ hS] at h2 h3
    have hev := hed.trans h3
    refine ⟨_, _, _, F', β', hQ, ⟨h4, by rw [h5]; exact hf.2.1.mono hev.frozen (hev.fheap hr) hev.size, h1⟩, h2.av_mono (fun n hn => ⟨hn.1, fun k hk _ => hn.2 k hk⟩), hed.trans h3⟩
  · have : ∀ N, cnt (Sof (Array.replicate ops.size false)) N ≤ N := by
      intro N
      induction N with
      | zero => simp [cnt]
      | succ k ih => simp only [cnt]; split <;> omega
    exact this _
  · have hnone : ∀ k, Sof (Array.replicate ops.size false) k = false := by
      intro k
      simp only [Sof, Array.getD_eq_getD_getElem?]
      cases h : (Array.replicate ops.size false)[k]? with
      | none => rfl
      | some b => simp [Array.getElem?_replicate] at h; simp [h.2]
    have hfr0 : ∀ N, p.fr (dstOf ops) (Sof (Array.replicate ops.size false)) N = p.fr0 := by
      intro N
      induction N with
      | zero => rfl
      | succ k ih => simp only [Plan.fr, hnone k, ih]
    have hs0 : ∀ N, p.sig (Sof (Array.replicate ops.size false)) N = p.σ0 := by
      intro N
      induction N with
      | zero => rfl
      | succ k ih => simp only [Plan.sig, hnone k, ih]
    refine ⟨⟨F, β, fun t => ?_, ?_, ?_⟩, hf.1, rfl, fun i _ hSi => ?_⟩
    · rw [hfr0]; exact hed.vrep hr (hf.2.2 t)
    · rw [hs0]; exact hrd.av_mono fun n hn => hn.1
    · rw [hs0]; exact Evolve.refl _ _ _ _
    · rw [hnone] at hSi; cases hSi
end
section
open Go
theorem put_defers (a : Act) (d : Option Nat) (v : Value) : (a.put d v).defers = a.defers := by cases d <;> rfl
end
end Go.Proofs.YtchkkpbkgghcoaaGreatDoor.As
