/- The code computes what the plain functions say, part 1: no condition. -/
import Derived.Test.YtpmkdgnhllhaeaaPlain1
import Derived.Test.YtpmkdgnhllhaeaaProg
import Derived.Lib.AppendZerosOnto
import Derived.LoopIn
import Derived.LoopNIn
import Derived.OwnWalkIn
import Derived.RangeFuncBound
import Derived.RangeFuncCalls
import Derived.RangeFuncLeaves
import Derived.RangeFuncNested
import Derived.Shelf.Abstract
import Derived.Shelf.Lays
import Derived.Shelf.RegionOpen
import Derived.Shelf.Slices.In.SortAlone
import Derived.Shelf.Slices.In.SortNone
import Derived.Shelf.Spec.SlicesInsert
import Derived.Sort.EveryDepth
import Derived.TacticsInMore
namespace Go.Proofs.Ytpmkdgnhllhaeaa.As
open Go Go.Proofs
set_option maxRecDepth 4000
section
open Go Go.Proofs Go.RowKit Go.Shelf
attribute [local go_sem] Oper.semAt_some
def noDefer (o : Oper) : Bool := match o.op with
  | .defer _ => false
  | _ => true
theorem wpOpsIn_inRound {F : Fence} {n : Nat} {P : Program} {ops : Array Oper} {Q : Exit → Act → World → Prop} (hro : F.round = none) (l : Nat) (hd : ∀ (i : Nat) (o : Oper), ops[i]? = some o → noDefer o = true) : ∀ (is : List Nat) (a : Act) (w : World), wpOpsIn F n P ops Q is a w → wpOpsIn (F.inRound l) n P ops Q is a w
  | [], _, _, h => h
  | i :: is, a, w, h => by
    simp only [wpOpsIn] at h ⊢
    cases ho : ops[i]? with
    | none => rw [ho] at h; exact wpOpsIn_inRound hro l hd is a w h
    | some o =>
      rw [ho] at h
      simp only at h ⊢
      have hnd : ∀ c, o.op ≠ .defer c := by
        intro c e
        have := hd i o ho
        unfold noDefer at this
        rw [e] at this; cases this
      split
      · rename_i hw
        rw [if_pos hw] at h
        refine ⟨h.1, ?_⟩
        have h2 := h.2
        rw [hro, Oper.semAt_none] at h2
        rw [Oper.semAt_eq _ _ _ hnd]
        revert h2
        generalize (execOp a.eval o).run P w = r
        intro h2
        cases r with
        | ok v w' =>
          cases v with
          | value v => exact wpOpsIn_inRound hro l hd is _ _ h2
          | skip => exact wpOpsIn_inRound hro l hd is _ _ h2
          | defer d => exact wpOpsIn_inRound hro l hd is _ _ h2
          | enter f args =>
            refine ⟨h2.1, ?_⟩
            refine CallsIn.mono (CallsIn.inRound l h2.2) ?_
            rintro e w'' he
            cases e with
            | returned v => exact wpOpsIn_inRound hro l hd is _ _ he
            | panicked c => exact he
            | outgrown => exact he
          | row row args =>
            refine ⟨h2.1, ?_⟩
            have h3 : RowsIn (F.inRound l) (n - 1) P row args w' _ := h2.2
            exact h3.mono fun v w'' he => wpOpsIn_inRound hro l hd is _ _ he
          | round l' f tmps assign body =>
            refine ⟨h2.1, ?_⟩
            have h3 : RoundIn (F.inRound l) (n - 1) P l' f tmps assign body w' _ := h2.2
            refine h3.mono ?_
            rintro e w'' he
            cases e with
            | returned v => exact wpOpsIn_inRound hro l hd is _ _ he
            | panicked c => exact he
            | outgrown => exact he
          | _ => exact h2
        | halt hlt w' => cases hlt <;> exact h2
      · rename_i hw
        rw [if_neg hw] at h
        exact ⟨h.1, wpOpsIn_inRound hro l hd is _ _ h.2⟩
theorem wpIn_region_quiet_round {F : Fence} {n : Nat} {P : Program} {id : Nat} {Q : Exit → Act → World → Prop} {a : Act} {w : World} {l : List Oper} (lr : Nat) (hro : F.round = none) (hm : P.follows .mixedOrders = true) (hB : Region.lexB .any l.toArray = true) (hd : l.all noDefer = true)
    (h : wpQuietIn F n P l.toArray (fun w' => ∃ n, w' = w.drewN n) (fun a' => ∀ w', (∃ n, w' = w.drewN n) → Q .normal a' w') l a) : (Code.region id l.toArray true).wpIn (F.inRound lr) n P Q a w := by
  simp only [Region.lexB, Bool.and_eq_true] at hB
  refine wpIn_region_draw fun t => ?_
  simp only [Region.schedule, hm, Bool.true_or, if_true]
  refine wpOpsIn_inRound hro lr (fun i o ho => ?_) _ _ _ (wpAnyIn_sound l.toArray.size t _ a _ ?_)
  · have : o ∈ l := by
      rw [List.getElem?_toArray] at ho
      exact List.mem_of_getElem? ho
    exact List.all_eq_true.1 hd o this
  · refine wpAnyIn_of_quiet (C := fun w' => ∃ n, w' = w.drewN n) (Q := fun a' => ∀ w', (∃ n, w' = w.drewN n) → Q .normal a' w') hro (fun _ w' hw' h => h w' hw') _ _ _ _ ⟨1, rfl⟩ ?_
    have := wpAnyQIn_lex (F := F) (n := n) (C := fun w' => ∃ n, w' = w.drewN n) (md := .any) hB.1 l 0 (Array.replicate l.toArray.size false) a (by simp) (by simpa using hB.2) h
    simpa using this
structure Its where
  kd : Nat → Int
  fr : Nat → Int
  to : Nat → Int
  gr : Nat → ByteArray
  pl : Nat → ByteArray
  wh : Nat → ByteArray
  dp : Nat → Int
def Its.at (t : Its) (i : Nat) : Array Value := #[.int .i64 (t.kd i), .int .i64 (t.fr i), .int .i64 (t.to i), .string (t.gr i), .string (t.pl i), .string (t.wh i), .int .i64 (t.dp i)]
def Its.lies (t : Its) (W : World) (b off len : Nat) : Prop := ∀ j, j < len → W.cell? ⟨b, off + j * 7, none⟩ = some (.int .i64 (t.kd j)) ∧ W.cell? ⟨b, off + j * 7 + 1, none⟩ = some (.int .i64 (t.fr j)) ∧ W.cell? ⟨b, off + j * 7 + 2, none⟩ = some (.int .i64 (t.to j)) ∧
  W.cell? ⟨b, off + j * 7 + 3, none⟩ = some (.string (t.gr j)) ∧ W.cell? ⟨b, off + j * 7 + 4, none⟩ = some (.string (t.pl j)) ∧ W.cell? ⟨b, off + j * 7 + 5, none⟩ = some (.string (t.wh j)) ∧ W.cell? ⟨b, off + j * 7 + 6, none⟩ = some (.int .i64 (t.dp j))
theorem Its.lies_below {t : Its} {A B : World} {n₀ b off len : Nat} (h : t.lies A b off len) (hb : b < n₀) (hB : Below n₀ A B) : t.lies B b off len := fun j hj => by
  obtain ⟨h0, h1, h2, h3, h4, h5, h6⟩ := h j hj
  exact ⟨(hB.cell (p := ⟨b, _, none⟩) hb).trans h0, (hB.cell (p := ⟨b, _, none⟩) hb).trans h1, (hB.cell (p := ⟨b, _, none⟩) hb).trans h2, (hB.cell (p := ⟨b, _, none⟩) hb).trans h3, (hB.cell (p := ⟨b, _, none⟩) hb).trans h4, (hB.cell (p := ⟨b, _, none⟩) hb).trans h5, (hB.cell (p := ⟨b, _, none⟩) hb).trans h6⟩
def dnl (len k : Nat) : List Nat := (List.range k).map fun q => len - 1 - q
theorem dn_succ (len k : Nat) : dnl len (k + 1) = dnl len k ++ [len - 1 - k] := by simp [dnl, List.range_succ]
theorem dn_length (len k : Nat) : (dnl len k).length = k := by simp [dnl]
set_option maxRecDepth 100000 in
set_option maxHeartbeats 2000000 in
theorem bw1_in (F : Fence) (n : Nat) (h7 : F.fn 138) (hro : F.round = none) (hn : 1 ≤ n) (l Bs n₀ b off len cap : Nat) (t : Its) (hreach : len ≤ 4611686018427387904) (hb : b < n₀) (J Jx : List Nat → World → Prop)
    (hY : ∀ pre (x : Nat) W, J pre W → pre.length < len → YieldAt F (n - 1) Try.prog l #[.int .i64 (x : Int), .agg (t.at x)] W fun e W' =>
      (e = .returned (.bool true) ∧ J (pre ++ [x]) W' ∧ Below n₀ W W') ∨ (e = .returned (.bool false) ∧ Jx (pre ++ [x]) W'))
    (W : World) (hBs : W.cell? ⟨Bs, 0, none⟩ = some (.slice (some ⟨b, off, none⟩) len cap)) (hBn : Bs < n₀) (hc : t.lies W b off len) (h0 : J [] W) :
    CallsIn F n Try.prog 138 #[.func (.yield l) #[] #[], .pointer (some ⟨Bs, 0, none⟩)] W fun e W' => (∃ v, e = .returned v) ∧
      ((∃ ys, ys = dnl len len ∧ J ys W') ∨ (∃ pre, (∃ k, k ≤ len ∧ pre = dnl len k) ∧ Jx pre W')) := by
  refine callsIn_of_wp Try.func138 rfl h7 ?_ hro
  simp only [Try.ntmps138, List.size_toArray, List.length_cons, List.length_nil, Nat.reduceAdd, Nat.reduceSub, Array.replicate_succ, Array.replicate_zero, List.push_toArray, List.append_toArray, List.nil_append, List.cons_append]
  have HC : Hid (t.lies W b off len) := hc
  clear hc
  gi_wp2
  gi_loopw [3] (fun i wr => ∃ k : Nat, k ≤ len ∧ i = .int .i64 ((len : Int) - 1 - (k : Int)) ∧ J (dnl len k) wr ∧ Below n₀ W wr)
    (fun i _ => (Go.RowKit.intOf i + 1).toNat)
  case atStart => exact ⟨0, Nat.zero_le _, by simp, h0, Below.refl _ _⟩
  case round =>
    obtain ⟨k, hk, rfl, hJs, hnx⟩ := hrel
    have hBs' := (hnx.cell (p := ⟨Bs, 0, none⟩) hBn).trans hBs
    by_cases hlt : k < len
    · obtain ⟨fn, tmps, assign, body, hy, hR⟩ := hY _ (len - 1 - k) wr hJs (by rw [dn_length]; exact hlt)
      obtain ⟨c0, c1, c2, c3, c4, c5, c6⟩ := (Its.lies_below HC.out hb hnx) (len - 1 - k) (by omega)
      obtain ⟨q, hq⟩ : ∃ q, q = len - 1 - k := ⟨_, rfl⟩
      have hqi : (len : Int) - 1 - (k : Int) = (q : Int) := by omega
      rw [← hq] at c0 c1 c2 c3 c4 c5 c6 hy hR
      rw [hqi]
      have hql : q < len := by omega
      have HQ : Hid (q = len - 1 - k ∧ k < len) := ⟨hq, hlt⟩
      clear hq hqi hlt
      unfold Its.at at hy
      gi_wp2
      refine hR.mono ?_
      rintro e W3 (⟨rfl, hJ3, hk3⟩ | ⟨rfl, hJx3⟩)
      · gi_wp2
        go_roundw
        case rel =>
          obtain ⟨h1, h2⟩ := HQ.out
          refine ⟨k + 1, by omega, ?_, ?_, hnx.trans hk3⟩
          · have : (q : Int) - 1 = (len : Int) - 1 - ((k + 1 : Nat) : Int) := by omega
            rw [this]
          · rw [dn_succ, ← h1]; exact hJ3
        case measure => simp [Go.RowKit.intOf]
      · gi_wp2
        refine bodyPost_ret (results_none rfl _ _ _) rfl ?_
        obtain ⟨h1, h2⟩ := HQ.out
        exact ⟨⟨_, rfl⟩, .inr ⟨_, ⟨k + 1, by omega, by rw [dn_succ, ← h1]⟩, hJx3⟩⟩
    · obtain rfl : k = len := by omega
      gi_wp2
      go_end0
      exact ⟨⟨_, rfl⟩, .inl ⟨_, rfl, hJs⟩⟩
set_option maxRecDepth 100000 in
set_option maxHeartbeats 1000000 in
theorem bw1_nil_in (F : Fence) (n : Nat) (h7 : F.fn 138) (hro : F.round = none) (l Bs cap : Nat) (a : Option Addr) (J : List Nat → World → Prop) (W : World) (hBs : W.cell? ⟨Bs, 0, none⟩ = some (.slice a 0 cap)) (h0 : J [] W) :
    CallsIn F n Try.prog 138 #[.func (.yield l) #[] #[], .pointer (some ⟨Bs, 0, none⟩)] W fun e W' => (∃ v, e = .returned v) ∧ J [] W' := by
  refine callsIn_of_wp Try.func138 rfl h7 ?_ hro
  simp only [Try.ntmps138, List.size_toArray, List.length_cons, List.length_nil, Nat.reduceAdd, Nat.reduceSub, Array.replicate_succ, Array.replicate_zero, List.push_toArray, List.append_toArray, List.nil_append, List.cons_append]
  gi_wp2
  gi_loopw [3] (fun i wr => i = .int .i64 (-1) ∧ J [] wr) (fun _ _ => 0)
  case atStart => exact ⟨rfl, h0⟩
  case round =>
    obtain ⟨rfl, hJs⟩ := hrel
    gi_wp2
    go_end0
    exact ⟨⟨_, rfl⟩, hJs⟩
set_option maxHeartbeats 1000000 in
theorem bw_in (F : Fence) (n : Nat) (h5 : F.fn 118) (hro : F.round = none) (a : Option Addr) (len cap : Nat) (w : World) :
    CallsIn F n Try.prog 118 #[.slice a len cap] w fun e w' => e = .returned (.func (.func 138) #[] #[.pointer (some ⟨w.heap.size, 0, none⟩)]) ∧ w' = w.alloc (.cells #[.slice a len cap] 39) := by
  refine callsIn_of_wp Try.func118 rfl h5 ?_ hro
  simp only [Try.ntmps118, List.size_toArray, List.length_cons, List.length_nil, Nat.reduceAdd, Nat.reduceSub, Array.replicate_succ, Array.replicate_zero, List.push_toArray, List.append_toArray, List.nil_append, List.cons_append]
  gi_wp2
  go_ret
  exact ⟨rfl, rfl⟩
def Its.held (t : Its) (n₀ : Nat) (W : World) (a : Option Addr) (len : Nat) : Prop := len = 0 ∨ ∃ b off, a = some ⟨b, off, none⟩ ∧ b < n₀ ∧ t.lies W b off len
theorem Its.held_below {t : Its} {A B : World} {n₀ len : Nat} {a : Option Addr} (hB : Below n₀ A B) (h : t.held n₀ A a len) : t.held n₀ B a len := by
  rcases h with h | ⟨b, off, h1, h2, h3⟩
  · exact .inl h
  · exact .inr ⟨b, off, h1, h2, Its.lies_below h3 h2 hB⟩
theorem bw_stops (F : Fence) (n : Nat) (h7 : F.fn 138) (hro : F.round = none) (hn : 1 ≤ n) (Bs n₀ : Nat) (a : Option Addr) (len cap : Nat) (t : Its) (hreach : len ≤ 4611686018427387904) (w : World) (hBs : Bs < n₀) (hn₀ : n₀ ≤ w.heap.size)
    (hc : w.cell? ⟨Bs, 0, none⟩ = some (.slice a len cap)) (hI : t.held n₀ w a len) :
    SeqStopsK F n Try.prog 138 #[.pointer (some ⟨Bs, 0, none⟩)] (fun x : Nat => #[Value.int .i64 (x : Int), .agg (t.at x)]) (Below n₀) (fun ys => ys = dnl len len) (fun pre => ∃ k, k ≤ len ∧ pre = dnl len k) len w := fun l J Jx W hW _ _ hY h0 => by
  have hc' := (hW.cell (p := ⟨Bs, 0, none⟩) (by show Bs < w.heap.size; omega)).trans hc
  rcases Its.held_below (hW.mono hn₀) hI with rfl | ⟨b, off, rfl, hb, hcs⟩
  · exact (bw1_nil_in F n h7 hro l Bs cap a J W hc' h0).mono fun e W' ⟨he, hj⟩ => ⟨he, .inl ⟨_, rfl, hj⟩⟩
  · exact bw1_in F n h7 hro hn l Bs n₀ b off len cap t hreach hb J Jx hY W hc' hBs hcs h0
section
variable (t : Its) (kx fx tx dx lasts : Int) (gx px wx : ByteArray)
def stopB (i : Nat) : Bool := ((t.gr i).toList == gx.toList) && ((t.kd i == 1) || ((t.kd i == 0) && (decide (t.to i ≤ fx) && decide (Go.RowKit.wrap64 (fx - t.to i) ≤ lasts))))
def stopV (i : Nat) : Int := bif t.kd i == 1 then -1 else i
def backS : Nat → Int
  | 0 => -1
  | k + 1 => bif stopB t fx lasts gx k then stopV t k else backS k
end
theorem backS_skip {t : Its} {fx lasts : Int} {gx : ByteArray} {len : Nat} : ∀ k, k ≤ len → (∀ i ∈ dnl len k, stopB t fx lasts gx i = false) → backS t fx lasts gx len = backS t fx lasts gx (len - k)
  | 0, _, _ => rfl
  | k + 1, hk, h => by
    rw [backS_skip k (by omega) fun i hi => h i (by rw [dn_succ]; exact List.mem_append_left _ hi)]
    have h1 := h (len - 1 - k) (by rw [dn_succ]; simp)
    rw [show len - k = (len - 1 - k) + 1 by omega]
    simp only [backS, h1, cond_false]
    congr 1; omega
def Rowed (W : World) (B : Nat) (ty : TypeId) (vs : Array Value) : Prop := W.heap[B]? = some (.cells vs ty (0, 0))
theorem rowed_own {β : Type} (B : Nat) (ty : TypeId) (f : β → Array Value) : Own (fun s W => Rowed W B ty (f s)) := fun s X Y row hs hg hrow => by
  have hlt : B < X.heap.size := (Array.getElem?_eq_some_iff.1 hs).1
  refine (hg.block B hlt (fun e' => ?_)).trans hs
  obtain ⟨o, ho, hc⟩ := hrow B e'.symm
  rw [show X.heap[B]? = _ from hs] at ho; cases ho; cases hc
theorem Rowed.cell {W : World} {B : Nat} {ty : TypeId} {vs : Array Value} (h : Rowed W B ty vs) (j : Nat) (hj : j < vs.size) : W.cell? ⟨B, j, none⟩ = some (vs[j]'hj) := by
  simp [World.cell?, show W.heap[B]? = _ from h, hj]
theorem Rowed.frozen {W : World} {B : Nat} {ty : TypeId} {vs : Array Value} (h : Rowed W B ty vs) (j : Nat) : W.frozen? ⟨B, j, none⟩ = false := by simp [World.frozen?, show W.heap[B]? = _ from h]
theorem Rowed.new (W : World) (ty : TypeId) (vs : Array Value) : Rowed (W.alloc (.cells vs ty)) W.heap.size ty vs := World.alloc_heap_new W _
theorem Rowed.set {W : World} {B : Nat} {ty : TypeId} {v : Value} (h : Rowed W B ty #[v]) (v' : Value) : Rowed (W.setCell ⟨B, 0, none⟩ v') B ty #[v'] := Boxed.set v' h
theorem World.drewN_heap (W : World) (k : Nat) : (W.drewN k).heap = W.heap := by
  induction k with
  | zero => rfl
  | succ k ih => exact ih
theorem belowDrewN {B : Nat} {a w : World} (h : Below B a w) (n : Nat) : Below B a (w.drewN n) := h.trans ⟨rfl, rfl, rfl, Nat.le_refl _, fun _ _ => rfl⟩
theorem keepsOthers_drewN (W : World) (k : Nat) : KeepsOthers W (W.drewN k) := by
  induction k with
  | zero => exact KeepsOthers.refl _
  | succ k ih => exact ih.trans (KeepsOthers.drew _)
theorem Rowed.drewN {W : World} {B : Nat} {ty : TypeId} {vs : Array Value} (h : Rowed W B ty vs) (k : Nat) : Rowed (W.drewN k) B ty vs := by
  unfold Rowed; rw [World.drewN_heap]; exact h
theorem Rowed.alloc {W : World} {B : Nat} {ty : TypeId} {vs : Array Value} (h : Rowed W B ty vs) (o : Obj) : Rowed (W.alloc o) B ty vs := by
  have hlt : B < W.heap.size := (Array.getElem?_eq_some_iff.1 h).1
  exact (Below.heap_alloc W o B hlt).trans h
set_option maxRecDepth 100000 in
set_option maxHeartbeats 4000000 in
theorem tune_in (F : Fence) (n : Nat) (h3 : F.fn 94) (h5 : F.fn 118) (h7 : F.fn 138) (hro : F.round = none) (hn : 6 ≤ n) (pb po : Nat) (lasts : Int) (a : Option Addr) (len cap : Nat) (t : Its) (kx fx tx dx : Int) (gx px wx : ByteArray) (hreach : len ≤ 4611686018427387904) (w : World)
    (hpb : pb < w.heap.size) (hp : w.cell? ⟨pb, po + 5, none⟩ = some (.int .i64 lasts)) (hI : t.held w.heap.size w a len) :
    CallsIn F n Try.prog 94 #[.pointer (some ⟨pb, po, none⟩), .slice a len cap, .agg #[.int .i64 kx, .int .i64 fx, .int .i64 tx, .string gx, .string px, .string wx, .int .i64 dx]] w fun e W' => e = .returned (.int .i64 (backS t fx lasts gx len)) ∧ Below w.heap.size w W' := by
  have h1 : 1 ≤ n := by omega
  refine callsIn_of_wp_marks Try.func94 rfl h3 ?_ hro
  simp only [Try.ntmps94, List.size_toArray, List.length_cons, List.length_nil, Nat.reduceAdd, Nat.reduceSub, Array.replicate_succ, Array.replicate_zero, List.push_toArray, List.append_toArray, List.nil_append, List.cons_append]
  gi_wp2_with (gi_at_call 118; refine (bw_in F (n - 1) h5 hro _ _ _ _).mono ?_; rintro e w' ⟨rfl, rfl⟩)
  have r0 := (((Rowed.new w 112 #[.pointer (some ⟨pb, po, none⟩)]).alloc (.cells #[.int .i64 kx, .int .i64 fx, .int .i64 tx, .string gx, .string px, .string wx, .int .i64 dx] 28)).alloc (.cells #[.int .i64 0] 3)).alloc (.cells #[.slice a len cap] 39)
  have r1 := ((Rowed.new (w.alloc (.cells #[.pointer (some ⟨pb, po, none⟩)] 112)) 28 #[.int .i64 kx, .int .i64 fx, .int .i64 tx, .string gx, .string px, .string wx, .int .i64 dx]).alloc (.cells #[.int .i64 0] 3)).alloc (.cells #[.slice a len cap] 39)
  have r2 := (Rowed.new ((w.alloc (.cells #[.pointer (some ⟨pb, po, none⟩)] 112)).alloc (.cells #[.int .i64 kx, .int .i64 fx, .int .i64 tx, .string gx, .string px, .string wx, .int .i64 dx] 28)) 3 #[.int .i64 0]).alloc (.cells #[.slice a len cap] 39)
  have r3 := Rowed.new (((w.alloc (.cells #[.pointer (some ⟨pb, po, none⟩)] 112)).alloc (.cells #[.int .i64 kx, .int .i64 fx, .int .i64 tx, .string gx, .string px, .string wx, .int .i64 dx] 28)).alloc (.cells #[.int .i64 0] 3)) 39 #[.slice a len cap]
  simp only [World.size_alloc] at r1 r2 r3
  have hB0 : Below w.heap.size w ((((w.alloc (.cells #[.pointer (some ⟨pb, po, none⟩)] 112)).alloc (.cells #[.int .i64 kx, .int .i64 fx, .int .i64 tx, .string gx, .string px, .string wx, .int .i64 dx] 28)).alloc (.cells #[.int .i64 0] 3)).alloc (.cells #[.slice a len cap] 39)) :=
    ((((Below.refl _ w).alloc (Nat.le_refl _) _).alloc (by simp) _).alloc (by simp; omega) _).alloc (by simp; omega) _
  have hsz : ((((w.alloc (.cells #[.pointer (some ⟨pb, po, none⟩)] 112)).alloc (.cells #[.int .i64 kx, .int .i64 fx, .int .i64 tx, .string gx, .string px, .string wx, .int .i64 dx] 28)).alloc (.cells #[.int .i64 0] 3)).alloc (.cells #[.slice a len cap] 39)).heap.size = w.heap.size + 4 := by simp
  obtain ⟨W0, hW0⟩ : ∃ W0, (((w.alloc (.cells #[.pointer (some ⟨pb, po, none⟩)] 112)).alloc (.cells #[.int .i64 kx, .int .i64 fx, .int .i64 tx, .string gx, .string px, .string wx, .int .i64 dx] 28)).alloc (.cells #[.int .i64 0] 3)).alloc (.cells #[.slice a len cap] 39) = W0 := ⟨_, rfl⟩
  rw [hW0] at r0 r1 r2 r3 hB0 hsz ⊢
  clear hW0
  have hI0 : t.held W0.heap.size W0 a len := by
    rcases Its.held_below hB0 hI with h | ⟨b, off, e1, e2, e3⟩
    · exact .inl h
    · exact .inr ⟨b, off, e1, by omega, e3⟩
  refine wpIn_rangeFunc_ownH hro h1 (gf := 138) (lb := #[.pointer (some ⟨w.heap.size + 1 + 1 + 1, 0, none⟩)]) rfl h7 (enters_of Try.func138 (by kernel_rfl) rfl)
    (bw_stops F (n - 1) h7 hro (by omega) (w.heap.size + 1 + 1 + 1) W0.heap.size a len cap t hreach W0 (by omega) (Nat.le_refl _) (r3.cell 0 (by simp)) hI0) belowK_t (belowK_b (by omega)) (Below.refl _ _) (fun _ => rfl)
    (fun pre W => ((Rowed W w.heap.size 112 #[.pointer (some ⟨pb, po, none⟩)] ∧ Rowed W (w.heap.size + 1) 28 #[.int .i64 kx, .int .i64 fx, .int .i64 tx, .string gx, .string px, .string wx, .int .i64 dx] ∧ Rowed W (w.heap.size + 1 + 1) 3 #[.int .i64 0]) ∧ ∀ i ∈ pre, stopB t fx lasts gx i = false) ∧ Below w.heap.size w W ∧ W0.heap.size ≤ W.heap.size)
    (fun c pre W => (c = .ret ∧ ∃ ini last, pre = ini ++ [last] ∧ (∀ i ∈ ini, stopB t fx lasts gx i = false) ∧ stopB t fx lasts gx last = true ∧ Rowed W (w.heap.size + 1 + 1) 3 #[.int .i64 (stopV t last)]) ∧ Below w.heap.size w W)
    ?hI ?hIx ⟨⟨⟨r0, r1, r2⟩, by simp⟩, hB0, Nat.le_refl _⟩
    (fun x a' W => ∃ Bx, w.heap.size + 1 + 1 + 1 < Bx ∧ Rowed W Bx 28 (t.at x) ∧ a' = { tmps := #[.pointer (some ⟨pb, po, none⟩), .slice a len cap, .agg #[.int .i64 kx, .int .i64 fx, .int .i64 tx, .string gx, .string px, .string wx, .int .i64 dx], .pointer (some ⟨w.heap.size, 0, none⟩), undef, .pointer (some ⟨w.heap.size + 1, 0, none⟩), .pointer (some ⟨w.heap.size + 1 + 1, 0, none⟩), .int .i64 (x : Int), .pointer (some ⟨Bx, 0, none⟩), .slice a len cap, .func (.func 138) #[] #[.pointer (some ⟨w.heap.size + 1 + 1 + 1, 0, none⟩)], .int .i64 (x : Int), .agg (t.at x), undef, undef, undef, undef, undef, undef, undef, undef, undef, undef, undef, undef, undef, undef, undef, undef, undef, undef, undef, undef, undef, undef, undef, undef, undef, undef, undef, undef, undef, undef, undef, undef], defers := [] })
    (fun x a' _ X Y row hs hg hr => by obtain ⟨Bx, h1, h2, h3⟩ := hs; exact ⟨Bx, h1, rowed_own Bx 28 (fun (_ : Unit) => t.at x) () X Y row h2 hg (fun r e => (hr r e).2), h3⟩)
    ?assign ?body ?done ?stop
  case hI =>
    refine OwnFrom.and (OwnFrom.and (OwnFrom.and (Own.from (rowed_own _ _ _) _) (OwnFrom.and (Own.from (rowed_own _ _ _) _) (Own.from (rowed_own _ _ _) _))) (ownFrom_pure _ _)) (OwnFrom.and (ownFrom_below (Nat.le_refl _) (by omega)) fun _ _ _ _ hs hg _ => Nat.le_trans hs hg.size)
  case hIx =>
    intro c
    refine OwnFrom.and (Own.from (fun s A B row hs hg hr => ?_) _) (ownFrom_below (Nat.le_refl _) (by omega))
    obtain ⟨hc, ini, last, e1, e2, e3, e4⟩ := hs
    exact ⟨hc, ini, last, e1, e2, e3, rowed_own _ 3 (fun (_ : Unit) => #[.int .i64 (stopV t last)]) () A B row e4 hg hr⟩
  case assign =>
    rintro l pre x W K ⟨⟨⟨q0, q1, q2⟩, hpre⟩, hBw, hW⟩ hK
    unfold Its.at at hK ⊢
    gi_wp2
    exact hK _ _ ((KeepsOthers.alloc _ _).from _) ((Below.refl _ W).alloc hW _) ⟨⟨⟨q0.alloc _, q1.alloc _, q2.alloc _⟩, hpre⟩, hBw.alloc hBw.size _, by rw [World.size_alloc]; omega⟩ ⟨W.heap.size, by omega, Rowed.new W _ _, rfl⟩
  case body =>
    rintro l pre x a' W hl ⟨r, hr⟩ ⟨⟨⟨q0, q1, q2⟩, hpre⟩, hBw, hW⟩ ⟨Bx, hBx, rx, rfl⟩ hlt
    unfold Its.at at rx ⊢
    have x0 : W.cell? ⟨Bx, 0, none⟩ = some (.int .i64 (t.kd x)) := rx.cell 0 (by simp)
    have x2 : W.cell? ⟨Bx, 2, none⟩ = some (.int .i64 (t.to x)) := rx.cell 2 (by simp)
    have x3 : W.cell? ⟨Bx, 3, none⟩ = some (.string (t.gr x)) := rx.cell 3 (by simp)
    have y1 : W.cell? ⟨w.heap.size + 1, 1, none⟩ = some (.int .i64 fx) := q1.cell 1 (by simp)
    have y3 : W.cell? ⟨w.heap.size + 1, 3, none⟩ = some (.string gx) := q1.cell 3 (by simp)
    have p0 : W.cell? ⟨w.heap.size, 0, none⟩ = some (.pointer (some ⟨pb, po, none⟩)) := q0.cell 0 (by simp)
    have p5 : W.cell? ⟨pb, po + 5, none⟩ = some (.int .i64 lasts) := (hBw.cell (p := ⟨pb, po + 5, none⟩) hpb).trans hp
    have z0 : W.cell? ⟨w.heap.size + 1 + 1, 0, none⟩ = some (.int .i64 0) := q2.cell 0 (by simp)
    have zf : W.frozen? ⟨w.heap.size + 1 + 1, 0, none⟩ = false := q2.frozen 0
    have mixed : Try.prog.follows .mixedOrders = true := by kernel_rfl
    gi_wp2
    · have hg : (!(t.gr x).toList == gx.toList) = true := by assumption
      have hst : stopB t fx lasts gx x = false := by
        unfold stopB
        have : ((t.gr x).toList == gx.toList) = false := by simpa using hg
        rw [this]; rfl
      exact ⟨KeepsFrom.refl _ _, Below.refl _ _, ⟨⟨q0, q1, q2⟩, fun i hi => (List.mem_append.1 hi).elim (hpre i) (fun e => by rw [List.mem_singleton] at e; subst e; exact hst)⟩, hBw, hW⟩
    · have hg : (!(t.gr x).toList == gx.toList) = false := by assumption
      have hk : (t.kd x == 1) = true := by assumption
      have hst : stopB t fx lasts gx x = true := by
        unfold stopB
        have : ((t.gr x).toList == gx.toList) = true := by simpa using hg
        rw [this, hk]; rfl
      have hv : stopV t x = -1 := by unfold stopV; rw [hk]; rfl
      refine ⟨(KeepsOthers.setCell _ _ _).from _, ⟨rfl, pre, x, rfl, hpre, hst, ?_⟩, hBw.setCell (p := ⟨w.heap.size + 1 + 1, 0, none⟩) (by show w.heap.size ≤ w.heap.size + 1 + 1; omega) _⟩
      rw [hv]
      exact Rowed.set q2 _
    · have hg : (!(t.gr x).toList == gx.toList) = false := by assumption
      have hk : (t.kd x == 1) = false := by assumption
      by_cases k0 : t.kd x = 0
      · by_cases k1 : t.to x ≤ fx
        · refine wpIn_region_quiet_round l hro mixed (by kernel_rfl) (by kernel_rfl) ?_
          repeat (gi_big_quiet_step (fail))
          refine wpQuietIn_nil ?_
          rintro _ ⟨nq, rfl⟩
          have hgr : ((t.gr x).toList == gx.toList) = true := by simpa using hg
          gi_wp2
          · have hle : Go.RowKit.wrap64 (fx - t.to x) ≤ lasts := by assumption
            have hst : stopB t fx lasts gx x = true := by
              unfold stopB
              rw [hgr, hk, k0]
              simp [k1, hle]
            have hv : stopV t x = x := by unfold stopV; rw [hk]; rfl
            refine ⟨((keepsOthers_drewN W nq).trans (KeepsOthers.setCell _ _ _)).from _, ⟨rfl, pre, x, rfl, hpre, hst, ?_⟩, (belowDrewN hBw nq).setCell (p := ⟨w.heap.size + 1 + 1, 0, none⟩) (by show w.heap.size ≤ w.heap.size + 1 + 1; omega) _⟩
            rw [hv]
            exact Rowed.set (q2.drewN nq) _
          · have hle : lasts < Go.RowKit.wrap64 (fx - t.to x) := by assumption
            have hst : stopB t fx lasts gx x = false := by
              unfold stopB
              rw [hgr, hk, k0]
              simp [k1]
              omega
            exact ⟨(keepsOthers_drewN W nq).from _, belowDrewN (Below.refl _ W) nq, ⟨⟨q0.drewN nq, q1.drewN nq, q2.drewN nq⟩, fun i hi => (List.mem_append.1 hi).elim (hpre i) (fun e => by rw [List.mem_singleton] at e; subst e; exact hst)⟩, belowDrewN hBw nq, hW⟩
        · refine wpIn_region_quiet_round l hro mixed (by kernel_rfl) (by kernel_rfl) ?_
          repeat (gi_big_quiet_step (fail))
          refine wpQuietIn_nil ?_
          rintro _ ⟨nq, rfl⟩
          have hst : stopB t fx lasts gx x = false := by
            unfold stopB
            rw [hk, k0]
            have : decide (t.to x ≤ fx) = false := decide_eq_false k1
            rw [this]; simp
          gi_wp2
          exact ⟨(keepsOthers_drewN W nq).from _, belowDrewN (Below.refl _ W) nq, ⟨⟨q0.drewN nq, q1.drewN nq, q2.drewN nq⟩, fun i hi => (List.mem_append.1 hi).elim (hpre i) (fun e => by rw [List.mem_singleton] at e; subst e; exact hst)⟩, belowDrewN hBw nq, by have := hsz; show w.heap.size + 4 ≤ W.heap.size; omega⟩
      · have k0' : (t.kd x == 0) = false := by simpa using k0
        refine wpIn_region_quiet_round l hro mixed (by kernel_rfl) (by kernel_rfl) ?_
        repeat (gi_big_quiet_step (fail))
        refine wpQuietIn_nil ?_
        rintro _ ⟨nq, rfl⟩
        have hst : stopB t fx lasts gx x = false := by
          unfold stopB
          rw [hk, k0']; simp
        gi_wp2
        exact ⟨(keepsOthers_drewN W nq).from _, belowDrewN (Below.refl _ W) nq, ⟨⟨q0.drewN nq, q1.drewN nq, q2.drewN nq⟩, fun i hi => (List.mem_append.1 hi).elim (hpre i) (fun e => by rw [List.mem_singleton] at e; subst e; exact hst)⟩, belowDrewN hBw nq, hW⟩
  case done =>
    rintro D ys W hD rfl ⟨⟨⟨q0, q1, q2⟩, hpre⟩, hBw, hW⟩ hK
    have z0 : W.cell? ⟨w.heap.size + 1 + 1, 0, none⟩ = some (.int .i64 0) := q2.cell 0 (by simp)
    have zf : W.frozen? ⟨w.heap.size + 1 + 1, 0, none⟩ = false := q2.frozen 0
    gi_wp2
    have hK' := (KeepsOthers.setCell W ⟨w.heap.size + 1 + 1, 0, none⟩ (.int .i64 (-1))).same D _ hK rfl
    refine ⟨by simp, .inl ⟨_, _, rfl, run_takeDeferred hK', ?_⟩⟩
    have hc5 := cell_kept ((Rowed.set q2 (.int .i64 (-1))).cell 0 (by simp)) (grownBy_putObj' _ D (.deferred none)) (fun r e => by cases e; exact ⟨_, hK', rfl⟩)
    refine ⟨.int .i64 (-1), ?_, ?_, (hBw.setCell (p := ⟨w.heap.size + 1 + 1, 0, none⟩) (by show w.heap.size ≤ w.heap.size + 1 + 1; omega) _).trans (belowK_b (w := w) (Nat.le_refl _) _ D _ _ (by omega) hK' rfl rfl)⟩
    · simp at hc5
      simp [results, Try.f94, go_sem, hc5]
    · rw [backS_skip len (Nat.le_refl _) hpre, Nat.sub_self]; rfl
  case stop =>
    rintro D c pre W hD ⟨k, hk, rfl⟩ ⟨⟨rfl, ini, last, e1, e2, e3, hcr⟩, hB⟩ hK
    gi_wp2
    refine ⟨by simp, .inl ⟨_, _, rfl, run_takeDeferred hK, ?_⟩⟩
    have hc5 := cell_kept (hcr.cell 0 (by simp)) (grownBy_putObj' _ D (.deferred none)) (fun r e => by cases e; exact ⟨_, hK, rfl⟩)
    obtain ⟨k', rfl⟩ : ∃ k', k = k' + 1 := by
      cases k with
      | zero => simp [dnl] at e1
      | succ k' => exact ⟨k', rfl⟩
    rw [dn_succ] at e1
    obtain ⟨rfl, e5⟩ := List.append_inj' e1 rfl
    obtain rfl : len - 1 - k' = last := by simpa using e5
    refine ⟨.int .i64 (stopV t (len - 1 - k')), ?_, ?_, hB.trans (belowK_b (w := w) (Nat.le_refl _) _ D _ _ (by omega) hK rfl rfl)⟩
    · simp at hc5
      simp [results, Try.f94, go_sem, hc5]
    · rw [backS_skip k' (by omega) e2, show len - k' = (len - 1 - k') + 1 by omega]
      simp only [backS, e3, cond_true]
end
section
open Go Go.Proofs Go.Shelf Go.RowKit Go.Lib
set_option maxHeartbeats 4000000 in
set_option maxRecDepth 100000 in
set_option maxHeartbeats 4000000 in
set_option maxRecDepth 100000 in
set_option maxHeartbeats 4000000 in
set_option maxRecDepth 100000 in
end
section
open Go Go.Proofs
def itsL (l : List Item) : Its := ⟨fun i => (ix l i).Kind, fun i => (ix l i).From, fun i => (ix l i).To, fun i => ⟨⟨(ix l i).Grand⟩⟩, fun i => ⟨⟨(ix l i).Place⟩⟩, fun i => ⟨⟨(ix l i).Who⟩⟩, fun i => (ix l i).Deposit⟩
theorem stopB_eq (l : List Item) (x : Item) (lasts : Int) (i : Nat) : stopB (itsL l) x.From lasts ⟨⟨x.Grand⟩⟩ i = tunStop x lasts (ix l i) := by
  unfold stopB tunStop itsL
  simp only [ByteArray.toList_eq, IntKind.wrap_i64, RowKit.wrap64]
theorem backS_eq (l : List Item) (x : Item) (lasts : Int) : ∀ k, backS (itsL l) x.From lasts ⟨⟨x.Grand⟩⟩ k = tuneL x lasts l k
  | 0 => rfl
  | k + 1 => by
    unfold backS tuneL
    rw [stopB_eq, backS_eq l x lasts k]
    rfl
theorem its_held {w : World} {F : Nat → Prop} {β : Beta} {v : Value} {l : List Item} (h : SlAt w F β 7 v (l.map eItem)) : ∃ a cap, v = .slice a l.length cap ∧ (itsL l).held w.heap.size w a l.length := by
  obtain ⟨a, cap, rfl, h⟩ := h
  refine ⟨a, cap, by simp, ?_⟩
  rcases h with h | ⟨b, p, rfl, _, _, hc⟩
  · left; simpa using h
  · by_cases h0 : l.length = 0
    · exact .inl h0
    · right
      have cell : ∀ i j, i < l.length → (hj : j < 7) → w.cell? ⟨b, p + i * 7 + j, none⟩ = some (((itsL l).at i)[j]'hj) := fun i j hi hj => by
        obtain ⟨u, h1, h2⟩ := hc i j (by simpa using hi) hj
        rw [nth_mapi hi] at h2
        rw [h1]
        match j, hj, h2 with
        | 0, _, h2 => rw [(VRep.p_inv h2).1]; rfl
        | 1, _, h2 => rw [(VRep.p_inv h2).1]; rfl
        | 2, _, h2 => rw [(VRep.p_inv h2).1]; rfl
        | 3, _, h2 => rw [(VRep.p_inv h2).1]; rfl
        | 4, _, h2 => rw [(VRep.p_inv h2).1]; rfl
        | 5, _, h2 => rw [(VRep.p_inv h2).1]; rfl
        | 6, _, h2 => rw [(VRep.p_inv h2).1]; rfl
      refine ⟨b, p, rfl, ?_, fun i hi => ⟨cell i 0 hi (by decide), cell i 1 hi (by decide), cell i 2 hi (by decide), cell i 3 hi (by decide), cell i 4 hi (by decide), cell i 5 hi (by decide), cell i 6 hi (by decide)⟩⟩
      have := cell 0 0 (by omega) (by decide)
      simp only [World.cell?] at this
      by_cases hb : b < w.heap.size
      · exact hb
      · rw [Array.getElem?_eq_none (by omega)] at this; simp at this
theorem FnL_tune {lasts : Int} {k : Nat} {es : List V} {ob : Objs} {l : List Item} {x : Item} {y : V} {rd : List Nat} (hall : ∀ j, j < ob.length → oget ob j ≠ none) (h0 : oget ob 0 = some (.row k es)) (hne : 0 < es.length) (hk : 5 < k) (hl : nth (nth es 0).flat 5 = vi lasts)
    (hs : elemsOf 7 (oget ob) y = some (List.map eItem l, rd, true)) (hp : ∀ u, y ≠ .p u) (hlen : l.length ≤ 4611686018427387904) : FnL Try.prog 94 [.ptr 0 0 0, y, eItem x] ob (vi (tuneL x lasts l l.length)) ob := by
  refine ⟨Try.call94, Nat.le_refl _, hall, fun w F β args hr hc => ?_⟩
  obtain ⟨hsz, hv⟩ := hc
  have v0 := hv 0 (by simp)
  have v1 := hv 1 (by simp)
  have v2 := hv 2 (by simp)
  obtain ⟨a0, a1, a2, rfl⟩ : ∃ a0 a1 a2, args = #[a0, a1, a2] := by
    obtain ⟨l⟩ := args
    match l, hsz with
    | [a, b, c], _ => exact ⟨a, b, c, rfl⟩
  have v0 : VRep w F β a0 (.ptr 0 0 0) := v0
  have v1 : VRep w F β a1 y := v1
  have v2 : VRep w F β a2 (eItem x) := v2
  obtain ⟨pb, s, k', sz, hβ, rfl⟩ := v0.ptr_inv
  obtain ⟨lc, hlc, hob, hblk⟩ := hr.obj 0 _ h0
  rw [hβ] at hlc; cases hlc
  obtain ⟨rfl, cs, T, hcs, hsz2, hk0, hfit, _, hcell⟩ := hob
  have hb := (hblk pb rfl).2
  have hp5 : w.cell? ⟨pb, s + 5, none⟩ = some (.int .i64 lasts) := by
    have h1 := hcell 0 5 hne hk
    rw [hl] at h1
    have h2 := (VRep.p_inv h1).1
    have : s + 0 * k + 5 = s + 5 := by omega
    rw [this] at h2
    have h3 : s + 5 < cs.size := by
      have : 1 * k ≤ es.length * k := Nat.mul_le_mul_right _ hne
      omega
    simp only [World.cell?]
    rw [hcs]
    simp only [Array.getD, h3, dif_pos] at h2
    have h4 : cs[s + 5] = Value.int IntKind.i64 lasts := h2
    simp [h3, h4]
  obtain ⟨a, cap, rfl, hheld⟩ := its_held (elems_at hr v1 hs hp)
  obtain ⟨us, rfl, hus, hu⟩ := VRep.agg_inv v2
  have hus : us = #[.int .i64 x.Kind, .int .i64 x.From, .int .i64 x.To, .string ⟨⟨x.Grand⟩⟩, .string ⟨⟨x.Place⟩⟩, .string ⟨⟨x.Who⟩⟩, .int .i64 x.Deposit] := by
    obtain ⟨l⟩ := us
    match l, hus, hu with
    | [u0, u1, u2, u3, u4, u5, u6], _, hu =>
      have e0 : u0 = .int .i64 x.Kind := (VRep.p_inv (hu 0 (Nat.le_of_ble_eq_true rfl))).1
      have e1 : u1 = .int .i64 x.From := (VRep.p_inv (hu 1 (Nat.le_of_ble_eq_true rfl))).1
      have e2 : u2 = .int .i64 x.To := (VRep.p_inv (hu 2 (Nat.le_of_ble_eq_true rfl))).1
      have e3 : u3 = .string ⟨⟨x.Grand⟩⟩ := (VRep.p_inv (hu 3 (Nat.le_of_ble_eq_true rfl))).1
      have e4 : u4 = .string ⟨⟨x.Place⟩⟩ := (VRep.p_inv (hu 4 (Nat.le_of_ble_eq_true rfl))).1
      have e5 : u5 = .string ⟨⟨x.Who⟩⟩ := (VRep.p_inv (hu 5 (Nat.le_of_ble_eq_true rfl))).1
      have e6 : u6 = .int .i64 x.Deposit := (VRep.p_inv (hu 6 (Nat.le_of_ble_eq_true rfl))).1
      rw [e0, e1, e2, e3, e4, e5, e6]
  subst hus
  have e0 : s + 0 * k + 0 = s := by omega
  rw [e0]
  refine ((callsIn_wide (n := 6)).1 (tune_in Fence.wide 6 trivial trivial trivial rfl (Nat.le_refl _) pb s lasts a l.length cap (itsL l) x.Kind x.From x.To x.Deposit ⟨⟨x.Grand⟩⟩ ⟨⟨x.Place⟩⟩ ⟨⟨x.Who⟩⟩ hlen w hb hp5 hheld)).mono ?_
  rintro e W' ⟨rfl, hB⟩
  obtain ⟨r1, r2⟩ := hr.wider hB.os hB.tape hB.output hB.size hB.block
  exact ⟨_, F, β, rfl, r1, by rw [backS_eq]; exact .fr (.p rfl), r2⟩
end
section
open Go Go.Proofs Go.RowKit
section
variable {P : Program} {w : World} {F : Nat → Prop} {β : Beta}
theorem setRow_heap {w : World} {b : Nat} {cs A : Array Value} {T : TypeId} (h : w.heap[b]? = some (.cells cs T (0, 0))) : (w.setRow b A).heap[b]? = some (.cells A T (0, 0)) := by
  simp only [World.setRow, Array.getElem?_modify, if_true, h, Option.map_some]
end
end
section
open Go Go.Sort Go.Proofs Go.Shelf
end
section
open Go Go.Proofs Go.Shelf Go.RowKit
section
variable {P : Program}
end
set_option maxHeartbeats 4000000 in
set_option maxRecDepth 100000 in
section
variable {P : Program} {w : World} {F : Nat → Prop} {β : Beta}
end
end
set_option maxHeartbeats 1000000 in
theorem agraffelaw09_Town_ok (n : Nat)  (r : Unit) (h : agraffelaw09_Town n  = some r) : FnL Try.prog 59 [] [] (.agg [eS 1 vt ([([115, 104, 111, 112] : Str), ([104, 97, 108, 108] : Str), ([104, 111, 109, 101] : Str)] : List Str), eS 1 vt ([([97, 110, 110] : Str), ([98, 111, 98] : Str)] : List Str), eS 4 eRoad ([(Road.mk ([115, 104, 111, 112] : Str) ([104, 97, 108, 108] : Str) 30 200), (Road.mk ([104, 97, 108, 108] : Str) ([104, 111, 109, 101] : Str) 20 100), (Road.mk ([115, 104, 111, 112] : Str) ([104, 111, 109, 101] : Str) 60 150)] : List Road), eS 3 eGrand ([(Grand.mk ([103] : Str) ([115, 104, 111, 112] : Str) 150), (Grand.mk ([117] : Str) ([104, 111, 109, 101] : Str) 100)] : List Grand), vi 10, vi 300]) [] := by
 dsimp only [agraffelaw09_Town] at h
 refine FnL.ofC [.cell 0 26] Try.call59 Try.func59 rfl .nil ?_ (hl := rfl)
 refine sko (.i 0 (.ptr 0 0 0) .n) [some (.row 6 [.agg [.emp, .emp, .emp, .emp, vi 0, vi 0]])] ?_
 refine sko .a [some (.row 6 [.agg [.own 1 0 3, .own 2 0 2, .own 3 0 3, .own 4 0 2, vi 10, vi 300]]), some (.row 1 [vt ([115, 104, 111, 112] : Str), vt ([104, 97, 108, 108] : Str), vt ([104, 111, 109, 101] : Str)]), some (.row 1 [vt ([97, 110, 110] : Str), vt ([98, 111, 98] : Str)]), some (.row 4 [.agg [vt ([115, 104, 111, 112] : Str), vt ([104, 97, 108, 108] : Str), vi 30, vi 200], .agg [vt ([104, 97, 108, 108] : Str), vt ([104, 111, 109, 101] : Str), vi 20, vi 100], .agg [vt ([115, 104, 111, 112] : Str), vt ([104, 111, 109, 101] : Str), vi 60, vi 150]]), some (.row 3 [.agg [vt ([103] : Str), vt ([115, 104, 111, 112] : Str), vi 150], .agg [vt ([117] : Str), vt ([104, 111, 109, 101] : Str), vi 100]])] ?_
 refine q3 ?_
 have h := si h
 subst h
 exact DoneC.ret (S' := ⟨[(0, .agg [eS 1 vt ([([115, 104, 111, 112] : Str), ([104, 97, 108, 108] : Str), ([104, 111, 109, 101] : Str)] : List Str), eS 1 vt ([([97, 110, 110] : Str), ([98, 111, 98] : Str)] : List Str), eS 4 eRoad ([(Road.mk ([115, 104, 111, 112] : Str) ([104, 97, 108, 108] : Str) 30 200), (Road.mk ([104, 97, 108, 108] : Str) ([104, 111, 109, 101] : Str) 20 100), (Road.mk ([115, 104, 111, 112] : Str) ([104, 111, 109, 101] : Str) 60 150)] : List Road), eS 3 eGrand ([(Grand.mk ([103] : Str) ([115, 104, 111, 112] : Str) 150), (Grand.mk ([117] : Str) ([104, 111, 109, 101] : Str) 100)] : List Grand), vi 10, vi 300])], []⟩) [.agg [.own 1 0 3, .own 2 0 2, .own 3 0 3, .own 4 0 2, vi 10, vi 300]] (Sees.trans (Sees.freeze 4 (fr' := [(0, .agg [.own 1 0 3, .own 2 0 2, .own 3 0 3, eS 3 eGrand ([(Grand.mk ([103] : Str) ([115, 104, 111, 112] : Str) 150), (Grand.mk ([117] : Str) ([104, 111, 109, 101] : Str) 100)] : List Grand), vi 10, vi 300])]) (ob' := [some (.row 6 [.agg [.own 1 0 3, .own 2 0 2, .own 3 0 3, .own 4 0 2, vi 10, vi 300]]), some (.row 1 [vt ([115, 104, 111, 112] : Str), vt ([104, 97, 108, 108] : Str), vt ([104, 111, 109, 101] : Str)]), some (.row 1 [vt ([97, 110, 110] : Str), vt ([98, 111, 98] : Str)]), some (.row 4 [.agg [vt ([115, 104, 111, 112] : Str), vt ([104, 97, 108, 108] : Str), vi 30, vi 200], .agg [vt ([104, 97, 108, 108] : Str), vt ([104, 111, 109, 101] : Str), vi 20, vi 100], .agg [vt ([115, 104, 111, 112] : Str), vt ([104, 111, 109, 101] : Str), vi 60, vi 150]]), none]) rfl (frzs_cons rfl (frzs_cons rfl frzs_nil)) (.cons (frz_agg (.cons (.refl _) (.cons (.refl _) (.cons (.refl _) (.cons (.own rfl (Nat.le_of_ble_eq_true rfl)) (.cons (.refl _) (.cons (.refl _) .nil))))))) .nil) rfl) (Sees.trans (Sees.freeze 3 (fr' := [(0, .agg [.own 1 0 3, .own 2 0 2, eS 4 eRoad ([(Road.mk ([115, 104, 111, 112] : Str) ([104, 97, 108, 108] : Str) 30 200), (Road.mk ([104, 97, 108, 108] : Str) ([104, 111, 109, 101] : Str) 20 100), (Road.mk ([115, 104, 111, 112] : Str) ([104, 111, 109, 101] : Str) 60 150)] : List Road), eS 3 eGrand ([(Grand.mk ([103] : Str) ([115, 104, 111, 112] : Str) 150), (Grand.mk ([117] : Str) ([104, 111, 109, 101] : Str) 100)] : List Grand), vi 10, vi 300])]) (ob' := [some (.row 6 [.agg [.own 1 0 3, .own 2 0 2, .own 3 0 3, .own 4 0 2, vi 10, vi 300]]), some (.row 1 [vt ([115, 104, 111, 112] : Str), vt ([104, 97, 108, 108] : Str), vt ([104, 111, 109, 101] : Str)]), some (.row 1 [vt ([97, 110, 110] : Str), vt ([98, 111, 98] : Str)]), none, none]) rfl (frzs_cons rfl (frzs_cons rfl (frzs_cons rfl frzs_nil))) (.cons (frz_agg (.cons (.refl _) (.cons (.refl _) (.cons (.own rfl (Nat.le_of_ble_eq_true rfl)) (.cons (.refl _) (.cons (.refl _) (.cons (.refl _) .nil))))))) .nil) rfl) (Sees.trans (Sees.freeze 2 (fr' := [(0, .agg [.own 1 0 3, eS 1 vt ([([97, 110, 110] : Str), ([98, 111, 98] : Str)] : List Str), eS 4 eRoad ([(Road.mk ([115, 104, 111, 112] : Str) ([104, 97, 108, 108] : Str) 30 200), (Road.mk ([104, 97, 108, 108] : Str) ([104, 111, 109, 101] : Str) 20 100), (Road.mk ([115, 104, 111, 112] : Str) ([104, 111, 109, 101] : Str) 60 150)] : List Road), eS 3 eGrand ([(Grand.mk ([103] : Str) ([115, 104, 111, 112] : Str) 150), (Grand.mk ([117] : Str) ([104, 111, 109, 101] : Str) 100)] : List Grand), vi 10, vi 300])]) (ob' := [some (.row 6 [.agg [.own 1 0 3, .own 2 0 2, .own 3 0 3, .own 4 0 2, vi 10, vi 300]]), some (.row 1 [vt ([115, 104, 111, 112] : Str), vt ([104, 97, 108, 108] : Str), vt ([104, 111, 109, 101] : Str)]), none, none, none]) rfl (frzs_cons rfl (frzs_cons rfl frzs_nil)) (.cons (frz_agg (.cons (.refl _) (.cons (.own rfl (Nat.le_of_ble_eq_true rfl)) (.cons (.refl _) (.cons (.refl _) (.cons (.refl _) (.cons (.refl _) .nil))))))) .nil) rfl) (Sees.trans (Sees.freeze 1 (fr' := [(0, .agg [eS 1 vt ([([115, 104, 111, 112] : Str), ([104, 97, 108, 108] : Str), ([104, 111, 109, 101] : Str)] : List Str), eS 1 vt ([([97, 110, 110] : Str), ([98, 111, 98] : Str)] : List Str), eS 4 eRoad ([(Road.mk ([115, 104, 111, 112] : Str) ([104, 97, 108, 108] : Str) 30 200), (Road.mk ([104, 97, 108, 108] : Str) ([104, 111, 109, 101] : Str) 20 100), (Road.mk ([115, 104, 111, 112] : Str) ([104, 111, 109, 101] : Str) 60 150)] : List Road), eS 3 eGrand ([(Grand.mk ([103] : Str) ([115, 104, 111, 112] : Str) 150), (Grand.mk ([117] : Str) ([104, 111, 109, 101] : Str) 100)] : List Grand), vi 10, vi 300])]) (ob' := [some (.row 6 [.agg [.own 1 0 3, .own 2 0 2, .own 3 0 3, .own 4 0 2, vi 10, vi 300]]), none, none, none, none]) rfl (frzs_cons rfl (frzs_cons rfl (frzs_cons rfl frzs_nil))) (.cons (frz_agg (.cons (.own rfl (Nat.le_of_ble_eq_true rfl)) (.cons (.refl _) (.cons (.refl _) (.cons (.refl _) (.cons (.refl _) (.cons (.refl _) .nil))))))) .nil) rfl) (sc [] (by decide) (by kernel_rfl) ObRen.nil rfl rfl))))) rfl rfl
set_option maxHeartbeats 1000000 in
theorem diary_isName_ok (n : Nat) (a0 : Str) (r : Bool) (h : diary_isName n a0 = some r) : FnL Try.prog 105 [vt a0] [] (vb r) [] := by
 dsimp only [diary_isName] at h
 refine fo [2] Try.call105 Try.func105 rfl ?_
 refine sk .a ?_
 refine TriE.seqK h (fun (_ : Unit) => St.mk [(0, vt a0)] []) ?_ ?_
 ·rintro ⟨⟩ h
  refine sj ?_
  refine rk 3 (.k (.i 59 (vb (!(a0 == ([] : Str)))) .n)) ?_
  refine gj (vt a0) 60 (.mov 0) 59 true rfl ?_
  refine gv 61 (.len 1 60) 59 true rfl (fun hg => (ok_len_t rfl)) (fun hg => (.cons hg .nil)) ?_
  refine gv 62 (.bin .leq false 61 (ki 12)) 59 true rfl (fun hg => (n_leq (i := a0.length) (j := 12) rfl rfl)) (fun hg => (.cons hg (.cons rfl .nil))) ?_
  refine pa 63 59 62 rfl rfl ?_
  refine jk 1 (.i 2 (vb ((!(a0 == ([] : Str))) && (decide (a0.length ≤ 12)))) .n) ?_
  refine q3 ?_
  have h := si h
  subst h
  exact DoneS.ret Sees.refl rfl rfl
 intro k1 h
 refine sj ?_
 refine rk 1 (.k (.i 5 (vt a0) .n)) ?_
 refine jo 6 (.len 1 5) (ok_len_t rfl) ?_
 refine jk 1 (.d (.k (.i 6 (vi (a0.length : Int)) (.i 7 (vi 0) .n)))) ?_
 refine q4 ?_
 refine ts (.k2 (.i 7 (vi 0) .n)) ?_
 refine TriE.loopN h (fun (v1 : Nat) => St.mk [(0, vt a0), (6, vi (a0.length : Int)), (7, vi v1)] []) rfl ?_
 clear h
 rintro back v1 h
 dsimp only [diary_isName_L1] at h
 refine sj ?_
 refine jo 8 (.bin .lss false 7 6) (n_lss (i := v1) (j := a0.length) rfl rfl) ?_
 refine jf (.d (.k3 (.i 8 (vb (decide (v1 < a0.length))) .n))) ?_
 refine q1 ?_
 refine tc h (fun c1 h => ?_) (fun c1 h => ?_)
 ·refine q2 ?_
  refine q7 ?_
  refine sk (.k3 (.i 3 (vi v1) .n)) ?_
  refine sj ?_
  refine rk 2 (.k4 (.i 10 (vt a0) (.i 11 (vi v1) .n))) ?_
  refine jo 12 (.sidx 10 11) (ok_sidx_t (j := v1) rfl rfl rfl c1) ?_
  refine rk 2 (.d (.k4 (.i 14 (vb (decide ((97 : Int) ≤ (((List.getD a0 v1 0).toNat : Nat) : Int)))) .n))) ?_
  refine gj (vt a0) 15 (.mov 0) 14 true rfl ?_
  refine gj (vi v1) 16 (.mov 3) 14 true rfl ?_
  refine gv 17 (.sidx 15 16) 14 true rfl (fun hg => (ok_sidx_t (j := v1) rfl rfl rfl c1)) (fun hg => (.cons hg (.cons hg .nil))) ?_
  refine gk (vb (decide ((((List.getD a0 v1 0).toNat : Nat) : Int) ≤ (122 : Int)))) 18 (.bin .leq false 17 (.c (.p (.int .u8 122)))) 14 true rfl (fun hg => (.cons hg (.cons rfl .nil))) ?_
  refine pa 19 14 18 rfl rfl ?_
  refine rk 1 (.d4 (.d (.k4 (.i 15 (.cond (decide ((97 : Int) ≤ (((List.getD a0 v1 0).toNat : Nat) : Int))) (vt a0)) (.i 16 (.cond (decide ((97 : Int) ≤ (((List.getD a0 v1 0).toNat : Nat) : Int))) (vi v1)) (.i 17 (.cond (decide ((97 : Int) ≤ (((List.getD a0 v1 0).toNat : Nat) : Int))) (vk .u8 (((List.getD a0 v1 0).toNat : Nat) : Int))) (.i 18 (.cond (decide ((97 : Int) ≤ (((List.getD a0 v1 0).toNat : Nat) : Int))) (vb (decide ((((List.getD a0 v1 0).toNat : Nat) : Int) ≤ (122 : Int))))) (.i 20 (vb ((decide ((97 : Int) ≤ (((List.getD a0 v1 0).toNat : Nat) : Int))) && (decide ((((List.getD a0 v1 0).toNat : Nat) : Int) ≤ (122 : Int))))) .n)))))))) ?_
  refine gj (vt a0) 21 (.mov 0) 20 false rfl ?_
  refine gj (vi v1) 22 (.mov 3) 20 false rfl ?_
  refine gv 23 (.sidx 21 22) 20 false rfl (fun hg => (ok_sidx_t (j := v1) rfl rfl rfl c1)) (fun hg => (.cons hg (.cons hg .nil))) ?_
  refine gk (vb (decide ((65 : Int) ≤ (((List.getD a0 v1 0).toNat : Nat) : Int)))) 24 (.bin .geq false 23 (.c (.p (.int .u8 65)))) 20 false rfl (fun hg => (.cons hg (.cons rfl .nil))) ?_
  refine gk (vb (decide ((65 : Int) ≤ (((List.getD a0 v1 0).toNat : Nat) : Int)))) 25 (.mov 24) 20 false rfl (fun hg => (.cons hg .nil)) ?_
  refine gj (vt a0) 26 (.mov 0) 25 true rfl ?_
  refine gj (vi v1) 27 (.mov 3) 25 true rfl ?_
  refine gv 28 (.sidx 26 27) 25 true rfl (fun hg => (ok_sidx_t (j := v1) rfl rfl rfl c1)) (fun hg => (.cons hg (.cons hg .nil))) ?_
  refine gk (vb (decide ((((List.getD a0 v1 0).toNat : Nat) : Int) ≤ (90 : Int)))) 29 (.bin .leq false 28 (.c (.p (.int .u8 90)))) 25 true rfl (fun hg => (.cons hg (.cons rfl .nil))) ?_
  refine RegJ.op (Op1.andg (g := !((decide ((97 : Int) ≤ (((List.getD a0 v1 0).toNat : Nat) : Int))) && (decide ((((List.getD a0 v1 0).toNat : Nat) : Int) ≤ (122 : Int))))) (cy (IG 30 (.pick 25 29 (.c (.p (.bool false)))) 20 false)) rfl rfl rfl (fun hg => by first | exact hokA2 hg | exact hokA3 hg | exact hokA1 | exact hokA0 | (rw [hg]; simp) | simp_all)) ?_
  refine po 31 20 30 rfl rfl ?_
  refine jk 1 (.d4 (.d4 (.d3 (.k4 (.i 4 (vb (((decide ((97 : Int) ≤ (((List.getD a0 v1 0).toNat : Nat) : Int))) && (decide ((((List.getD a0 v1 0).toNat : Nat) : Int) ≤ (122 : Int)))) || ((decide ((65 : Int) ≤ (((List.getD a0 v1 0).toNat : Nat) : Int))) && (decide ((((List.getD a0 v1 0).toNat : Nat) : Int) ≤ (90 : Int)))))) .n))))) ?_
  refine sj ?_
  refine rk 3 (.k4 (.i 34 (vb (!(((decide ((97 : Int) ≤ (((List.getD a0 v1 0).toNat : Nat) : Int))) && (decide ((((List.getD a0 v1 0).toNat : Nat) : Int) ≤ (122 : Int)))) || ((decide ((65 : Int) ≤ (((List.getD a0 v1 0).toNat : Nat) : Int))) && (decide ((((List.getD a0 v1 0).toNat : Nat) : Int) ≤ (90 : Int))))))) .n)) ?_
  refine gj (vi v1) 35 (.mov 3) 34 true rfl ?_
  refine gv 36 (.bin .eql false 35 (ki 0)) 34 true rfl (fun hg => (n_eql (i := v1) (j := 0) rfl rfl)) (fun hg => (.cons hg (.cons rfl .nil))) ?_
  refine gk (vb (decide (v1 = 0))) 37 (.mov 36) 34 true rfl (fun hg => (.cons hg .nil)) ?_
  refine gj (vt a0) 38 (.mov 0) 37 false rfl ?_
  refine gj (vi v1) 39 (.mov 3) 37 false rfl ?_
  refine gv 40 (.sidx 38 39) 37 false rfl (fun hg => (ok_sidx_t (j := v1) rfl rfl rfl c1)) (fun hg => (.cons hg (.cons hg .nil))) ?_
  refine gk (vb ((((List.getD a0 v1 0).toNat : Nat) : Int) != (45 : Int))) 41 (.bin .neq false 40 (.c (.p (.int .u8 45)))) 37 false rfl (fun hg => (.cons hg (.cons rfl .nil))) ?_
  refine gk (vb ((((List.getD a0 v1 0).toNat : Nat) : Int) != (45 : Int))) 42 (.mov 41) 37 false rfl (fun hg => (.cons hg .nil)) ?_
  refine gj (vt a0) 43 (.mov 0) 42 true rfl ?_
  refine gj (vi v1) 44 (.mov 3) 42 true rfl ?_
  refine gv 45 (.sidx 43 44) 42 true rfl (fun hg => (ok_sidx_t (j := v1) rfl rfl rfl c1)) (fun hg => (.cons hg (.cons hg .nil))) ?_
  refine gk (vb (decide ((((List.getD a0 v1 0).toNat : Nat) : Int) < (48 : Int)))) 46 (.bin .lss false 45 (.c (.p (.int .u8 48)))) 42 true rfl (fun hg => (.cons hg (.cons rfl .nil))) ?_
  refine gk (vb (decide ((((List.getD a0 v1 0).toNat : Nat) : Int) < (48 : Int)))) 47 (.mov 46) 42 true rfl (fun hg => (.cons hg .nil)) ?_
  refine gj (vt a0) 48 (.mov 0) 47 false rfl ?_
  refine gj (vi v1) 49 (.mov 3) 47 false rfl ?_
  refine gv 50 (.sidx 48 49) 47 false rfl (fun hg => (ok_sidx_t (j := v1) rfl rfl rfl c1)) (fun hg => (.cons hg (.cons hg .nil))) ?_
  refine gk (vb (decide ((57 : Int) < (((List.getD a0 v1 0).toNat : Nat) : Int)))) 51 (.bin .gtr false 50 (.c (.p (.int .u8 57)))) 47 false rfl (fun hg => (.cons hg (.cons rfl .nil))) ?_
  refine RegJ.op (Op1.org (g := ((!(((decide ((97 : Int) ≤ (((List.getD a0 v1 0).toNat : Nat) : Int))) && (decide ((((List.getD a0 v1 0).toNat : Nat) : Int) ≤ (122 : Int)))) || ((decide ((65 : Int) ≤ (((List.getD a0 v1 0).toNat : Nat) : Int))) && (decide ((((List.getD a0 v1 0).toNat : Nat) : Int) ≤ (90 : Int)))))) && !(decide (v1 = 0))) && ((((List.getD a0 v1 0).toNat : Nat) : Int) != (45 : Int))) (cy (IG 52 (.pick 47 (.c (.p (.bool true))) 51) 42 true)) rfl rfl rfl (fun hg => by first | exact hokO2 hg | exact hokO3 hg | exact hokO1 | exact hokO0 | (rw [hg]; simp) | simp_all)) ?_
  refine RegJ.op (Op1.andg (g := (!(((decide ((97 : Int) ≤ (((List.getD a0 v1 0).toNat : Nat) : Int))) && (decide ((((List.getD a0 v1 0).toNat : Nat) : Int) ≤ (122 : Int)))) || ((decide ((65 : Int) ≤ (((List.getD a0 v1 0).toNat : Nat) : Int))) && (decide ((((List.getD a0 v1 0).toNat : Nat) : Int) ≤ (90 : Int)))))) && !(decide (v1 = 0))) (cy (IG 53 (.pick 42 52 (.c (.p (.bool false)))) 37 false)) rfl rfl rfl (fun hg => by first | exact hokA2 hg | exact hokA3 hg | exact hokA1 | exact hokA0 | (rw [hg]; simp) | simp_all)) ?_
  refine RegJ.op (Op1.org (g := !(((decide ((97 : Int) ≤ (((List.getD a0 v1 0).toNat : Nat) : Int))) && (decide ((((List.getD a0 v1 0).toNat : Nat) : Int) ≤ (122 : Int)))) || ((decide ((65 : Int) ≤ (((List.getD a0 v1 0).toNat : Nat) : Int))) && (decide ((((List.getD a0 v1 0).toNat : Nat) : Int) ≤ (90 : Int)))))) (cy (IG 54 (.pick 37 (.c (.p (.bool true))) 53) 34 true)) rfl rfl rfl (fun hg => by first | exact hokO2 hg | exact hokO3 hg | exact hokO1 | exact hokO0 | (rw [hg]; simp) | simp_all)) ?_
  refine pa 55 34 54 rfl rfl ?_
  refine jf (.d4 (.d4 (.d4 (.d4 (.d4 (.d (.k3 (.i 55 (vb ((!(((decide ((97 : Int) ≤ (((List.getD a0 v1 0).toNat : Nat) : Int))) && (decide ((((List.getD a0 v1 0).toNat : Nat) : Int) ≤ (122 : Int)))) || ((decide ((65 : Int) ≤ (((List.getD a0 v1 0).toNat : Nat) : Int))) && (decide ((((List.getD a0 v1 0).toNat : Nat) : Int) ≤ (90 : Int)))))) && ((decide (v1 = 0)) || (((((List.getD a0 v1 0).toNat : Nat) : Int) != (45 : Int)) && ((decide ((((List.getD a0 v1 0).toNat : Nat) : Int) < (48 : Int))) || (decide ((57 : Int) < (((List.getD a0 v1 0).toNat : Nat) : Int)))))))) .n)))))))) ?_
  refine tc h (fun c2 h => ?_) (fun c2 h => ?_)
  ·refine sk (.i 2 (vb false) .n) ?_
   refine q3 ?_
   have h := si h
   subst h
   exact DoneS.ret Sees.refl rfl rfl
  refine q2 ?_
  refine q6 ?_
  refine cK h fun c3 h => ?_
  refine jo 56 (.bin .add false 7 (ki 1)) (r_addn (i := v1) (j := 1) rfl rfl c3) ?_
  refine jk 1 (.d (.k2 (.i 7 (vi ((v1 + 1 : Nat) : Int)) .n))) ?_
  exact Vs.intro sy ⟨(v1 + 1), rfl, h⟩
 refine q5 ?_
 exact Vs.intro sy ⟨(), rfl, h⟩
theorem slices_Index_string_ok (n : Nat) (a0 : List Str) (a1 : Str) (r : Int) (h : slices_Index_string n a0 a1 = some r) : FnL Try.prog 122 [eS 1 vt a0, vt a1] [] (vi r) [] := by
 dsimp only [slices_Index_string] at h
 refine fo [4] Try.call122 Try.func122 rfl ?_
 refine sk .a ?_
 refine TriE.seqK h (fun (_ : Unit) => St.mk [] []) ?_ ?_
 ·rintro ⟨⟩ h
  refine sk (.i 4 (vi (-1)) .n) ?_
  refine q3 ?_
  have h := si h
  subst h
  exact DoneS.ret Sees.refl rfl rfl
 intro k1 h
 refine sj ?_
 refine rk 1 (.k2 (.i 6 (eS 1 vt a0) .n)) ?_
 refine jo 7 (.len 0 6) (ok_len_m rfl) ?_
 refine jk 1 (.d (.k2 (.i 7 (vi (a0.length : Int)) (.i 8 (vi 0) .n)))) ?_
 refine q4 ?_
 refine ts (.k3 (.i 8 (vi 0) .n)) ?_
 refine TriE.loopN h (fun (v1 : Nat) => St.mk [(0, eS 1 vt a0), (1, vt a1), (7, vi (a0.length : Int)), (8, vi v1)] []) rfl ?_
 clear h
 rintro back v1 h
 dsimp only [slices_Index_string_L1] at h
 refine sj ?_
 refine jo 9 (.bin .lss false 8 7) (n_lss (i := v1) (j := a0.length) rfl rfl) ?_
 refine jf (.d (.k4 (.i 9 (vb (decide (v1 < a0.length))) .n))) ?_
 refine q1 ?_
 refine tc h (fun c1 h => ?_) (fun c1 h => ?_)
 ·refine q2 ?_
  refine q7 ?_
  refine sk (.k4 (.i 5 (vi v1) .n)) ?_
  refine sj ?_
  refine rk 3 (.k4 (.k (.i 11 (vt a1) (.i 12 (eS 1 vt a0) (.i 13 (vi v1) .n))))) ?_
  refine jo 14 (.iaddr 1 12 13) (ok_iaddr_m (j := v1) rfl rfl rfl c1) ?_
  refine jo 15 (.load false 1 14) (ok_load_fm (v := vt (ix a0 v1)) rfl c1 rfl) ?_
  refine jk 1 (.d2 (.k4 (.k (.i 16 (vb (a1 == (ix a0 v1))) .n)))) ?_
  refine tc h (fun c2 h => ?_) (fun c2 h => ?_)
  ·refine sk (.i 4 (vi v1) .n) ?_
   refine q3 ?_
   have h := si h
   subst h
   exact DoneS.ret Sees.refl rfl rfl
  refine q2 ?_
  refine q6 ?_
  refine cK h fun c3 h => ?_
  refine jo 18 (.bin .add false 8 (ki 1)) (r_addn (i := v1) (j := 1) rfl rfl c3) ?_
  refine jk 1 (.d (.k3 (.i 8 (vi ((v1 + 1 : Nat) : Int)) .n))) ?_
  exact Vs.intro sy ⟨(v1 + 1), rfl, h⟩
 refine q5 ?_
 exact Vs.intro sy ⟨(), rfl, h⟩
theorem slices_Contains_string_ok (n : Nat) (a0 : List Str) (a1 : Str) (r : Bool) (h : slices_Contains_string n a0 a1 = some r) : FnL Try.prog 104 [eS 1 vt a0, vt a1] [] (vb r) [] := by
 dsimp only [slices_Contains_string] at h
 refine fo [4] Try.call104 Try.func104 rfl ?_
 refine sk .a ?_
 refine sj ?_
 refine rk 2 (.i 5 (eS 1 vt a0) (.i 6 (vt a1) .n)) ?_
 refine bK h fun y1 hy1 h => ?_
 refine jc 7 [5, 6] (slices_Index_string_ok n a0 a1 y1 hy1) ?_
 refine jk 2 (.i 4 (vb (decide ((0 : Int) ≤ y1))) .n) ?_
 refine q3 ?_
 have h := si h
 subst h
 exact DoneS.ret Sees.refl rfl rfl
theorem diary_checkName_ok (n : Nat) (a0 : Str) (a1 : List Str) (r : Int) (h : diary_checkName n a0 a1 = some r) : FnL Try.prog 106 [vt a0, eS 1 vt a1] [] (vi r) [] := by
 dsimp only [diary_checkName] at h
 refine fo [4] Try.call106 Try.func106 rfl ?_
 refine sk .a ?_
 refine q7 ?_
 refine sj ?_
 refine rk 1 (.k2 (.i 6 (vt a0) .n)) ?_
 refine bK h fun y1 hy1 h => ?_
 refine jc 7 [6] (diary_isName_ok n a0 y1 hy1) ?_
 refine jk 2 (.d (.k2 (.i 5 (vb (!y1)) .n))) ?_
 refine tc h (fun c1 h => ?_) (fun c1 h => ?_)
 ·refine sk (.i 4 (vi 4) .n) ?_
  refine q3 ?_
  have h := si h
  subst h
  exact DoneS.ret Sees.refl rfl rfl
 refine sj ?_
 refine rk 2 (.i 10 (eS 1 vt a1) (.i 11 (vt a0) .n)) ?_
 refine bK h fun y2 hy2 h => ?_
 refine jc 12 [10, 11] (slices_Contains_string_ok n a1 a0 y2 hy2) ?_
 refine jk 1 (.i 9 (vb y2) .n) ?_
 refine tc h (fun c2 h => ?_) (fun c2 h => ?_)
 ·refine sk (.i 4 (vi 5) .n) ?_
  refine q3 ?_
  have h := si h
  subst h
  exact DoneS.ret Sees.refl rfl rfl
 refine q2 ?_
 refine sk (.i 4 (vi 0) .n) ?_
 refine q3 ?_
 have h := si h
 subst h
 exact DoneS.ret Sees.refl rfl rfl
theorem diary_checkNames_ok (n : Nat) (a0 : List Str) (a1 : Int) (r : Int) (h : diary_checkNames n a0 a1 = some r) : FnL Try.prog 66 [eS 1 vt a0, vi a1] [] (vi r) [] := by
 dsimp only [diary_checkNames] at h
 refine fo [4] Try.call66 Try.func66 rfl ?_
 refine sk .a ?_
 refine q1 ?_
 refine sj ?_
 refine rk 1 (.k2 (.i 8 (eS 1 vt a0) .n)) ?_
 refine jo 9 (.len 0 8) (ok_len_m rfl) ?_
 refine jk 2 (.d (.k (.i 11 (vb (decide (a1 < (a0.length : Int)))) .n))) ?_
 refine tc h (fun c1 h => ?_) (fun c1 h => ?_)
 ·refine sk (.i 4 (vi 8) .n) ?_
  refine q3 ?_
  have h := si h
  subst h
  exact DoneS.ret Sees.refl rfl rfl
 refine q2 ?_
 refine TriE.seqK h (fun (_ : Unit) => St.mk [] []) ?_ ?_
 ·rintro ⟨⟩ h
  refine sk (.i 4 (vi 0) .n) ?_
  refine q3 ?_
  have h := si h
  subst h
  exact DoneS.ret Sees.refl rfl rfl
 intro k1 h
 refine sj ?_
 refine rk 1 (.k (.i 12 (eS 1 vt a0) .n)) ?_
 refine jo 13 (.len 0 12) (ok_len_m rfl) ?_
 refine jk 1 (.d (.k2 (.i 13 (vi (a0.length : Int)) (.i 14 (vi 0) .n)))) ?_
 refine q4 ?_
 refine ts (.k3 (.i 14 (vi 0) .n)) ?_
 refine TriE.loopN h (fun (v2 : Nat) => St.mk [(0, eS 1 vt a0), (12, eS 1 vt a0), (13, vi (a0.length : Int)), (14, vi v2)] []) rfl ?_
 clear h
 rintro back v2 h
 dsimp only [diary_checkNames_L1] at h
 refine sj ?_
 refine jo 15 (.bin .lss false 14 13) (n_lss (i := v2) (j := a0.length) rfl rfl) ?_
 refine jf (.d (.k4 (.i 15 (vb (decide (v2 < a0.length))) .n))) ?_
 refine q1 ?_
 refine tc h (fun c2 h => ?_) (fun c2 h => ?_)
 ·refine q2 ?_
  refine q7 ?_
  refine sj ?_
  refine rk 1 (.k4 (.i 16 (vi v2) .n)) ?_
  refine jo 17 (.iaddr 1 12 14) (ok_iaddr_m (j := v2) rfl rfl rfl c2) ?_
  refine jo 18 (.load false 1 17) (ok_load_fm (v := vt (ix a0 v2)) rfl c2 rfl) ?_
  refine jk 2 (.d2 (.k4 (.i 5 (vi v2) (.i 6 (vt (ix a0 v2)) .n)))) ?_
  refine sj ?_
  refine rk 3 (.k4 (.i 19 (vt (ix a0 v2)) (.i 20 (eS 1 vt a0) (.i 21 (vi v2) .n)))) ?_
  refine cK h fun c3 h => ?_
  refine jo 22 (.slc 1 20 none (some 21) none) (ok_slc_hi (j := v2) rfl rfl rfl c3) ?_
  refine bK h fun y3 hy3 h => ?_
  refine jc 23 [19, 22] (diary_checkName_ok n (ix a0 v2) (List.take v2 a0) y3 hy3) ?_
  refine jk 1 (.d2 (.k4 (.i 7 (vi y3) .n))) ?_
  refine sk (.k4 (.k (.i 25 (vb (y3 != (0 : Int))) .n))) ?_
  refine tc h (fun c4 h => ?_) (fun c4 h => ?_)
  ·refine sk (.i 4 (vi y3) .n) ?_
   refine q3 ?_
   have h := si h
   subst h
   exact DoneS.ret Sees.refl rfl rfl
  refine q2 ?_
  refine q6 ?_
  refine cK h fun c5 h => ?_
  refine jo 27 (.bin .add false 14 (ki 1)) (r_addn (i := v2) (j := 1) rfl rfl c5) ?_
  refine jk 1 (.d (.k3 (.i 14 (vi ((v2 + 1 : Nat) : Int)) .n))) ?_
  exact Vs.intro sy ⟨(v2 + 1), rfl, h⟩
 refine q5 ?_
 exact Vs.intro sy ⟨(), rfl, h⟩
theorem diary_within_ok (n : Nat) (a0 : Int) (a1 : Int) (a2 : Int) (r : Unit) (h : diary_within n a0 a1 a2 = some r) : FnL Try.prog 69 [vi a0, vi a1, vi a2] [] (vb ((decide (a1 ≤ a0)) && (decide (a0 ≤ a2)))) [] := by
 dsimp only [diary_within] at h
 refine fo [6] Try.call69 Try.func69 rfl ?_
 refine sk .a ?_
 refine sj ?_
 refine rk 4 (.k (.d (.k (.i 10 (vb (decide (a1 ≤ a0))) .n)))) ?_
 refine gj (vi a0) 11 (.mov 0) 10 true rfl ?_
 refine gj (vi a2) 12 (.mov 2) 10 true rfl ?_
 refine gk (vb (decide (a0 ≤ a2))) 13 (.bin .leq false 11 12) 10 true rfl (fun hg => (.cons hg (.cons hg .nil))) ?_
 refine pa 14 10 13 rfl rfl ?_
 refine jk 1 (.i 6 (vb ((decide (a1 ≤ a0)) && (decide (a0 ≤ a2)))) .n) ?_
 refine q3 ?_
 have h := si h
 subst h
 exact DoneS.ret Sees.refl rfl rfl
theorem diary_isWidth_ok (n : Nat) (a0 : Int) (r : Unit) (h : diary_isWidth n a0 = some r) : FnL Try.prog 82 [vi a0] [] (vb ((decide (1 ≤ a0)) && (decide (a0 ≤ 10000)))) [] := by
 dsimp only [diary_isWidth] at h
 refine fo [2] Try.call82 Try.func82 rfl ?_
 refine sk .a ?_
 refine sj ?_
 refine rk 1 (.i 3 (vi a0) .n) ?_
 refine bK h fun y1 hy1 h => ?_
 refine jc 4 [3, (ki 1), (ki 10000)] (diary_within_ok n a0 1 10000 y1 hy1) ?_
 refine jk 1 (.i 2 (vb ((decide (1 ≤ a0)) && (decide (a0 ≤ 10000)))) .n) ?_
 refine q3 ?_
 have h := si h
 subst h
 exact DoneS.ret Sees.refl rfl rfl
set_option maxHeartbeats 1000000 in
theorem diary_checkRoads_ok (n : Nat) (a0 : Diary) (r : Int) (h : diary_checkRoads n a0 = some r) : FnL Try.prog 67 [.agg [eS 1 vt a0.Places, eS 1 vt a0.Technicians, eS 4 eRoad a0.Roads, eS 3 eGrand a0.Grands, vi a0.Change, vi a0.Lasts]] [] (vi r) [] := by
 dsimp only [diary_checkRoads] at h
 refine fo [2] Try.call67 Try.func67 rfl ?_
 refine sko (.i 1 (.ptr 0 0 0) .n) [some (.row 6 [.agg [eS 1 vt a0.Places, eS 1 vt a0.Technicians, eS 4 eRoad a0.Roads, eS 3 eGrand a0.Grands, vi a0.Change, vi a0.Lasts]])] ?_
 refine q1 ?_
 refine sj ?_
 refine rk 2 (.k (.i 6 (eS 4 eRoad a0.Roads) .n)) ?_
 refine jo 7 (.len 0 6) (ok_len_m rfl) ?_
 refine jo 8 (.bin .gtr false 7 (ki 60)) (n_gtr (i := a0.Roads.length) (j := 60) rfl rfl) ?_
 refine jf (.d2 (.k (.i 8 (vb (decide (60 < a0.Roads.length))) .n))) ?_
 refine tc h (fun c1 h => ?_) (fun c1 h => ?_)
 ·refine sk (.i 2 (vi 8) .n) ?_
  refine q3 ?_
  have h := si h
  subst h
  exact DoneS.ret (S' := ⟨[(2, vi 8)], []⟩) (sc [] (by decide) (by kernel_rfl) ObRen.nil rfl rfl) rfl rfl
 refine q2 ?_
 refine TriE.seqK h (fun (_ : Unit) => St.mk [] []) ?_ ?_
 ·rintro ⟨⟩ h
  refine sk (.i 2 (vi 0) .n) ?_
  refine q3 ?_
  have h := si h
  subst h
  exact DoneS.ret Sees.refl rfl rfl
 intro k1 h
 refine sj ?_
 refine rk 2 (.k (.i 10 (eS 4 eRoad a0.Roads) .n)) ?_
 refine jo 11 (.len 0 10) (ok_len_m rfl) ?_
 refine jk 1 (.d (.k2 (.i 11 (vi ((a0.Roads.length : Nat) : Int)) (.i 12 (vi 0) .n)))) ?_
 refine q4 ?_
 refine ts (.k3 (.i 12 (vi 0) .n)) ?_
 refine TriE.loopN h (fun (v5 : Nat) => St.mk [(1, .ptr 0 0 0), (10, eS 4 eRoad a0.Roads), (11, vi ((a0.Roads.length : Nat) : Int)), (12, vi v5)] [some (.row 6 [.agg [eS 1 vt a0.Places, eS 1 vt a0.Technicians, eS 4 eRoad a0.Roads, eS 3 eGrand a0.Grands, vi a0.Change, vi a0.Lasts]])]) rfl ?_
 clear h
 rintro back v5 h
 dsimp only [diary_checkRoads_L1] at h
 refine sj ?_
 refine jo 13 (.bin .lss false 12 11) (n_lss (i := v5) (j := a0.Roads.length) rfl rfl) ?_
 refine jf (.d (.k4 (.i 13 (vb (decide (v5 < a0.Roads.length))) .n))) ?_
 refine q1 ?_
 refine tc h (fun c2 h => ?_) (fun c2 h => ?_)
 ·refine q2 ?_
  refine q7 ?_
  refine sj ?_
  refine jo 14 (.iaddr 4 10 12) (ok_iaddr_m (j := v5) rfl rfl rfl c2) ?_
  refine jo 15 (.load true 4 14) (ok_load_fm (v := .agg [vt ((ix a0.Roads v5).A), vt ((ix a0.Roads v5).B), vi ((ix a0.Roads v5).Minutes), vi ((ix a0.Roads v5).Width)]) rfl c2 rfl) ?_
  refine jko 2 (.d2 (.k4 (.i 4 (.ptr 1 0 0) .n))) [some (.row 6 [.agg [eS 1 vt a0.Places, eS 1 vt a0.Technicians, eS 4 eRoad a0.Roads, eS 3 eGrand a0.Grands, vi a0.Change, vi a0.Lasts]]), some (.row 4 [.agg [vt ((ix a0.Roads v5).A), vt ((ix a0.Roads v5).B), vi ((ix a0.Roads v5).Minutes), vi ((ix a0.Roads v5).Width)]])] ?_
  refine q4 ?_
  refine sj ?_
  refine rk 4 (.k4 (.k (.i 18 (eS 1 vt a0.Places) (.i 20 (vt ((ix a0.Roads v5).A)) .n)))) ?_
  refine bK h fun y6 hy6 h => ?_
  refine jc 21 [18, 20] (slices_Contains_string_ok n a0.Places ((ix a0.Roads v5).A) y6 hy6) ?_
  refine rk 2 (.d (.k4 (.k (.i 23 (vb (!y6)) .n)))) ?_
  refine gj (.ptr 0 0 0) 24 (.faddr 0 1) 23 false rfl ?_
  refine gk (eS 1 vt a0.Places) 25 (.load false 1 24) 23 false rfl (fun hg => (.cons hg .nil)) ?_
  refine gj (.ptr 1 0 1) 26 (.faddr 1 4) 23 false rfl ?_
  refine gk (vt ((ix a0.Roads v5).B)) 27 (.load false 1 26) 23 false rfl (fun hg => (.cons hg .nil)) ?_
  refine bK h fun y7 hy7 h => ?_
  refine gc 28 [25, 27] 23 false rfl (fun hg => slices_Contains_string_ok n a0.Places ((ix a0.Roads v5).B) y7 (gcall_some hy7 hg)) (fun hg => (.cons rfl (.cons hg (.cons hg .nil)))) (fun hg => by kernel_rfl) ?_
  refine gk (vb (!y7)) 29 (.un .not 28) 23 false rfl (fun hg => (.cons hg .nil)) ?_
  refine po 30 23 29 rfl rfl ?_
  refine jk 1 (.d4 (.d3 (.k4 (.k (.i 16 (vb ((!y6) || (!y7))) .n))))) ?_
  refine tc h (fun c3 h => ?_) (fun c3 h => ?_)
  ·refine sk (.i 2 (vi 6) .n) ?_
   refine q3 ?_
   have h := si h
   subst h
   exact DoneS.ret (S' := ⟨[(2, vi 6)], []⟩) (sc [] (by decide) (by kernel_rfl) ObRen.nil rfl rfl) rfl rfl
  refine sk (.k4 (.k (.i 31 (vb (((ix a0.Roads v5).A) == ((ix a0.Roads v5).B))) .n))) ?_
  refine tc h (fun c4 h => ?_) (fun c4 h => ?_)
  ·refine sk (.i 2 (vi 3) .n) ?_
   refine q3 ?_
   have h := si h
   subst h
   exact DoneS.ret (S' := ⟨[(2, vi 3)], []⟩) (sc [] (by decide) (by kernel_rfl) ObRen.nil rfl rfl) rfl rfl
  refine sj ?_
  refine rk 2 (.k4 (.k (.i 39 (vi ((ix a0.Roads v5).Minutes)) .n))) ?_
  refine bK h fun y8 hy8 h => ?_
  refine jc 40 [39, (ki 1), (ki 10000)] (diary_within_ok n ((ix a0.Roads v5).Minutes) 1 10000 y8 hy8) ?_
  refine rk 2 (.d (.k4 (.k (.i 42 (vb (!((decide (1 ≤ ((ix a0.Roads v5).Minutes))) && (decide (((ix a0.Roads v5).Minutes) ≤ 10000))))) .n)))) ?_
  refine gj (.ptr 1 0 3) 43 (.faddr 3 4) 42 false rfl ?_
  refine gk (vi ((ix a0.Roads v5).Width)) 44 (.load false 1 43) 42 false rfl (fun hg => (.cons hg .nil)) ?_
  refine bK h fun y9 hy9 h => ?_
  refine gc 45 [44] 42 false rfl (fun hg => diary_isWidth_ok n ((ix a0.Roads v5).Width) y9 (gcall_some hy9 hg)) (fun hg => (.cons rfl (.cons hg .nil))) (fun hg => by kernel_rfl) ?_
  refine gk (vb (!((decide (1 ≤ ((ix a0.Roads v5).Width))) && (decide (((ix a0.Roads v5).Width) ≤ 10000))))) 46 (.un .not 45) 42 false rfl (fun hg => (.cons hg .nil)) ?_
  refine po 47 42 46 rfl rfl ?_
  refine jk 1 (.d4 (.d (.k4 (.i 37 (vb ((!((decide (1 ≤ ((ix a0.Roads v5).Minutes))) && (decide (((ix a0.Roads v5).Minutes) ≤ 10000)))) || (!((decide (1 ≤ ((ix a0.Roads v5).Width))) && (decide (((ix a0.Roads v5).Width) ≤ 10000)))))) .n)))) ?_
  refine tc h (fun c5 h => ?_) (fun c5 h => ?_)
  ·refine sk (.i 2 (vi 2) .n) ?_
   refine q3 ?_
   have h := si h
   subst h
   exact DoneS.ret (S' := ⟨[(2, vi 2)], []⟩) (sc [] (by decide) (by kernel_rfl) ObRen.nil rfl rfl) rfl rfl
  refine q2 ?_
  refine q6 ?_
  refine cK h fun c6 h => ?_
  refine jo 48 (.bin .add false 12 (ki 1)) (r_addn (i := v5) (j := 1) rfl rfl c6) ?_
  refine jk 1 (.d (.k3 (.i 12 (vi ((v5 + 1 : Nat) : Int)) .n))) ?_
  exact Vs.intro (sc [0] (by decide) (by kernel_rfl) (.cons rfl .nil) rfl rfl) ⟨(v5 + 1), rfl, h⟩
 refine q5 ?_
 exact Vs.intro (sc [] (by decide) (by kernel_rfl) ObRen.nil rfl rfl) ⟨(), rfl, h⟩
theorem slices_Index_string_2_ok (n : Nat) (a0 : List Str) (a1 : Str) (r : Int) (h : slices_Index_string_2 n a0 a1 = some r) : FnL Try.prog 122 [.own 0 0 a0.length, vt a1] [some (.row 1 (List.map vt a0))] (vi r) [some (.row 1 (List.map vt a0))] := by
 dsimp only [slices_Index_string_2] at h
 refine fob [4] Try.call122 Try.func122 rfl (.cons rfl .nil) ?_
 refine sk .a ?_
 refine TriE.seqK h (fun (_ : Unit) => St.mk [] [some (.row 1 (List.map vt a0))]) ?_ ?_
 ·rintro ⟨⟩ h
  refine sk (.i 4 (vi (-1)) .n) ?_
  refine q3 ?_
  have h := si h
  subst h
  exact DoneS.ret Sees.refl rfl rfl
 intro k1 h
 refine sk (.k2 (.i 7 (vi (a0.length : Int)) (.i 8 (vi 0) .n))) ?_
 refine q4 ?_
 refine ts (.k3 (.i 8 (vi 0) .n)) ?_
 refine TriE.loopN h (fun (v1 : Nat) => St.mk [(0, .own 0 0 a0.length), (1, vt a1), (7, vi (a0.length : Int)), (8, vi v1)] [some (.row 1 (List.map vt a0))]) rfl ?_
 clear h
 rintro back v1 h
 dsimp only [slices_Index_string_2_L1] at h
 refine sj ?_
 refine jo 9 (.bin .lss false 8 7) (n_lss (i := v1) (j := a0.length) rfl rfl) ?_
 refine jf (.d (.k4 (.i 9 (vb (decide (v1 < a0.length))) .n))) ?_
 refine q1 ?_
 refine tc h (fun c1 h => ?_) (fun c1 h => ?_)
 ·refine q2 ?_
  refine q7 ?_
  refine sk (.k4 (.i 5 (vi v1) .n)) ?_
  refine sj ?_
  refine rk 3 (.k4 (.k (.i 11 (vt a1) (.i 12 (.own 0 0 a0.length) (.i 13 (vi v1) .n))))) ?_
  refine jo 14 (.iaddr 1 12 13) (ok_iaddr_o0 (j := v1) rfl rfl rfl rfl c1) ?_
  refine jo 15 (.load false 1 14) (ok_load_pm (l := a0) (e := vt) (v := vt (ix a0 v1)) rfl rfl c1 rfl) ?_
  refine jk 1 (.d2 (.k4 (.k (.i 16 (vb (a1 == (ix a0 v1))) .n)))) ?_
  refine tc h (fun c2 h => ?_) (fun c2 h => ?_)
  ·refine sk (.i 4 (vi v1) .n) ?_
   refine q3 ?_
   have h := si h
   subst h
   exact DoneS.ret Sees.refl rfl rfl
  refine q2 ?_
  refine q6 ?_
  refine cK h fun c3 h => ?_
  refine jo 18 (.bin .add false 8 (ki 1)) (r_addn (i := v1) (j := 1) rfl rfl c3) ?_
  refine jk 1 (.d (.k3 (.i 8 (vi ((v1 + 1 : Nat) : Int)) .n))) ?_
  exact Vs.intro sy ⟨(v1 + 1), rfl, h⟩
 refine q5 ?_
 exact Vs.intro sy ⟨(), rfl, h⟩
theorem slices_Contains_string_2_ok (n : Nat) (a0 : List Str) (a1 : Str) (r : Bool) (h : slices_Contains_string_2 n a0 a1 = some r) : FnL Try.prog 104 [.own 0 0 a0.length, vt a1] [some (.row 1 (List.map vt a0))] (vb r) [some (.row 1 (List.map vt a0))] := by
 dsimp only [slices_Contains_string_2] at h
 refine fob [4] Try.call104 Try.func104 rfl (.cons rfl .nil) ?_
 refine sk .a ?_
 refine sj ?_
 refine rk 2 (.i 5 (.own 0 0 a0.length) (.i 6 (vt a1) .n)) ?_
 refine bK h fun y1 hy1 h => ?_
 refine jco (vi y1) 7 [5, 6] (slices_Index_string_2_ok n a0 a1 y1 hy1) [0] rfl (.same (row_ren vt_frz _ _ _) .nil) (.same (row_ren vt_frz _ _ _) .nil) rfl ?_
 refine jk 2 (.i 4 (vb (decide ((0 : Int) ≤ y1))) .n) ?_
 refine q3 ?_
 have h := si h
 subst h
 exact DoneS.ret Sees.refl rfl rfl
theorem diary_checkName_2_ok (n : Nat) (a0 : Str) (a1 : List Str) (r : Int) (h : diary_checkName_2 n a0 a1 = some r) : FnL Try.prog 106 [vt a0, .own 0 0 a1.length] [some (.row 1 (List.map vt a1))] (vi r) [some (.row 1 (List.map vt a1))] := by
 dsimp only [diary_checkName_2] at h
 refine fob [4] Try.call106 Try.func106 rfl (.cons rfl .nil) ?_
 refine sk .a ?_
 refine q7 ?_
 refine sj ?_
 refine rk 1 (.k2 (.i 6 (vt a0) .n)) ?_
 refine bK h fun y1 hy1 h => ?_
 refine jc 7 [6] (diary_isName_ok n a0 y1 hy1) ?_
 refine jk 2 (.d (.k2 (.i 5 (vb (!y1)) .n))) ?_
 refine tc h (fun c1 h => ?_) (fun c1 h => ?_)
 ·refine sk (.i 4 (vi 4) .n) ?_
  refine q3 ?_
  have h := si h
  subst h
  exact DoneS.ret Sees.refl rfl rfl
 refine sj ?_
 refine rk 2 (.i 10 (.own 0 0 a1.length) (.i 11 (vt a0) .n)) ?_
 refine bK h fun y2 hy2 h => ?_
 refine jco (vb y2) 12 [10, 11] (slices_Contains_string_2_ok n a1 a0 y2 hy2) [0] rfl (.same (row_ren vt_frz _ _ _) .nil) (.same (row_ren vt_frz _ _ _) .nil) rfl ?_
 refine jk 1 (.i 9 (vb y2) .n) ?_
 refine tc h (fun c2 h => ?_) (fun c2 h => ?_)
 ·refine sk (.i 4 (vi 5) .n) ?_
  refine q3 ?_
  have h := si h
  subst h
  exact DoneS.ret Sees.refl rfl rfl
 refine q2 ?_
 refine sk (.i 4 (vi 0) .n) ?_
 refine q3 ?_
 have h := si h
 subst h
 exact DoneS.ret Sees.refl rfl rfl
set_option maxHeartbeats 1000000 in
theorem diary_checkGrands_ok (n : Nat) (a0 : Diary) (r : Int) (h : diary_checkGrands n a0 = some r) : FnL Try.prog 68 [.agg [eS 1 vt a0.Places, eS 1 vt a0.Technicians, eS 4 eRoad a0.Roads, eS 3 eGrand a0.Grands, vi a0.Change, vi a0.Lasts]] [] (vi r) [] := by
 dsimp only [diary_checkGrands] at h
 refine fo [2] Try.call68 Try.func68 rfl ?_
 refine sko (.i 1 (.ptr 0 0 0) .n) [some (.row 6 [.agg [eS 1 vt a0.Places, eS 1 vt a0.Technicians, eS 4 eRoad a0.Roads, eS 3 eGrand a0.Grands, vi a0.Change, vi a0.Lasts]])] ?_
 refine q1 ?_
 refine sj ?_
 refine rk 2 (.k (.i 8 (eS 3 eGrand a0.Grands) .n)) ?_
 refine jo 9 (.len 0 8) (ok_len_m rfl) ?_
 refine jo 10 (.bin .gtr false 9 (ki 12)) (n_gtr (i := a0.Grands.length) (j := 12) rfl rfl) ?_
 refine jf (.d2 (.k (.i 10 (vb (decide (12 < a0.Grands.length))) .n))) ?_
 refine tc h (fun c1 h => ?_) (fun c1 h => ?_)
 ·refine sk (.i 2 (vi 8) .n) ?_
  refine q3 ?_
  have h := si h
  subst h
  exact DoneS.ret (S' := ⟨[(2, vi 8)], []⟩) (sc [] (by decide) (by kernel_rfl) ObRen.nil rfl rfl) rfl rfl
 refine q2 ?_
 refine sk (.k (.i 3 .emp .n)) ?_
 refine TriE.seqK h (fun (_ : Unit) => St.mk [] []) ?_ ?_
 ·rintro ⟨⟩ h
  refine sk (.i 2 (vi 0) .n) ?_
  refine q3 ?_
  have h := si h
  subst h
  exact DoneS.ret Sees.refl rfl rfl
 intro k1 h
 refine sj ?_
 refine rk 2 (.k2 (.i 12 (eS 3 eGrand a0.Grands) .n)) ?_
 refine jo 13 (.len 0 12) (ok_len_m rfl) ?_
 refine jk 1 (.d (.k3 (.i 13 (vi ((a0.Grands.length : Nat) : Int)) (.i 14 (vi 0) .n)))) ?_
 refine q4 ?_
 refine TriE.sees (S' := ⟨[(1, .ptr 0 0 0), (3, .own 1 0 ([] : List Str).length), (12, eS 3 eGrand a0.Grands), (13, vi ((a0.Grands.length : Nat) : Int)), (14, vi 0)], [some (.row 6 [.agg [eS 1 vt a0.Places, eS 1 vt a0.Technicians, eS 4 eRoad a0.Roads, eS 3 eGrand a0.Grands, vi a0.Change, vi a0.Lasts]]), some (.row 1 (List.map vt ([] : List Str)))]⟩) (Sees.trans (Sees.co (fr' := [(1, .ptr 0 0 0), (3, .own 1 0 0), (12, eS 3 eGrand a0.Grands), (13, vi ((a0.Grands.length : Nat) : Int)), (14, vi 0)]) (ob' := [some (.row 6 [.agg [eS 1 vt a0.Places, eS 1 vt a0.Technicians, eS 4 eRoad a0.Roads, eS 3 eGrand a0.Grands, vi a0.Change, vi a0.Lasts]])]) (.cons .same (.cons .own (.cons .same (.cons .same (.cons .same .nil))))) (.same .nil) 1) sy) ?_
 refine TriE.loopN h (fun (t : (List Str) × Nat) => match t with | (v4, v5) => St.mk [(1, .ptr 0 0 0), (3, .own 1 0 v4.length), (12, eS 3 eGrand a0.Grands), (13, vi ((a0.Grands.length : Nat) : Int)), (14, vi v5)] [some (.row 6 [.agg [eS 1 vt a0.Places, eS 1 vt a0.Technicians, eS 4 eRoad a0.Roads, eS 3 eGrand a0.Grands, vi a0.Change, vi a0.Lasts]]), some (.row 1 (List.map vt v4))]) rfl ?_
 clear h
 rintro back ⟨v4, v5⟩ h
 dsimp only [diary_checkGrands_L1] at h
 refine sj ?_
 refine jo 15 (.bin .lss false 14 13) (n_lss (i := v5) (j := a0.Grands.length) rfl rfl) ?_
 refine jf (.d (.k4 (.k (.i 15 (vb (decide (v5 < a0.Grands.length))) .n)))) ?_
 refine q1 ?_
 refine tc h (fun c2 h => ?_) (fun c2 h => ?_)
 ·refine q2 ?_
  refine q7 ?_
  refine sj ?_
  refine jo 16 (.iaddr 3 12 14) (ok_iaddr_m (j := v5) rfl rfl rfl c2) ?_
  refine jo 17 (.load true 3 16) (ok_load_fm (v := .agg [vt ((ix a0.Grands v5).Name), vt ((ix a0.Grands v5).Place), vi ((ix a0.Grands v5).Width)]) rfl c2 rfl) ?_
  refine jko 2 (.d2 (.k4 (.k (.i 5 (.ptr 2 0 0) .n)))) [some (.row 6 [.agg [eS 1 vt a0.Places, eS 1 vt a0.Technicians, eS 4 eRoad a0.Roads, eS 3 eGrand a0.Grands, vi a0.Change, vi a0.Lasts]]), some (.row 1 (List.map vt v4)), some (.row 3 [.agg [vt ((ix a0.Grands v5).Name), vt ((ix a0.Grands v5).Place), vi ((ix a0.Grands v5).Width)]])] ?_
  refine q1 ?_
  refine sj ?_
  refine rk 3 (.k4 (.k2 (.i 19 (vt ((ix a0.Grands v5).Name)) (.i 20 (.own 1 0 v4.length) .n)))) ?_
  refine bK h fun y6 hy6 h => ?_
  refine jco (vi y6) 21 [19, 20] (diary_checkName_2_ok n ((ix a0.Grands v5).Name) v4 y6 hy6) [1] rfl (.same (row_ren vt_frz _ _ _) .nil) (.same (row_ren vt_frz _ _ _) .nil) rfl ?_
  refine jk 1 (.d (.k4 (.k2 (.i 6 (vi y6) .n)))) ?_
  refine sk (.k4 (.k3 (.i 23 (vb (y6 != (0 : Int))) .n))) ?_
  refine tc h (fun c3 h => ?_) (fun c3 h => ?_)
  ·refine sk (.i 2 (vi y6) .n) ?_
   refine q3 ?_
   have h := si h
   subst h
   exact DoneS.ret (S' := ⟨[(2, vi y6)], []⟩) (sc [] (by decide) (by kernel_rfl) ObRen.nil rfl rfl) rfl rfl
  refine q2 ?_
  refine q7 ?_
  refine sj ?_
  refine rk 4 (.k4 (.k2 (.i 27 (eS 1 vt a0.Places) (.i 29 (vt ((ix a0.Grands v5).Place)) .n)))) ?_
  refine bK h fun y7 hy7 h => ?_
  refine jc 30 [27, 29] (slices_Contains_string_ok n a0.Places ((ix a0.Grands v5).Place) y7 hy7) ?_
  refine jk 2 (.d (.k4 (.k2 (.i 25 (vb (!y7)) .n)))) ?_
  refine tc h (fun c4 h => ?_) (fun c4 h => ?_)
  ·refine sk (.i 2 (vi 6) .n) ?_
   refine q3 ?_
   have h := si h
   subst h
   exact DoneS.ret (S' := ⟨[(2, vi 6)], []⟩) (sc [] (by decide) (by kernel_rfl) ObRen.nil rfl rfl) rfl rfl
  refine sj ?_
  refine rk 2 (.k4 (.k2 (.i 34 (vi ((ix a0.Grands v5).Width)) .n))) ?_
  refine bK h fun y8 hy8 h => ?_
  refine jc 35 [34] (diary_isWidth_ok n ((ix a0.Grands v5).Width) y8 hy8) ?_
  refine jk 2 (.d (.k4 (.k2 (.i 32 (vb (!((decide (1 ≤ ((ix a0.Grands v5).Width))) && (decide (((ix a0.Grands v5).Width) ≤ 10000))))) .n)))) ?_
  refine tc h (fun c5 h => ?_) (fun c5 h => ?_)
  ·refine sk (.i 2 (vi 2) .n) ?_
   refine q3 ?_
   have h := si h
   subst h
   exact DoneS.ret (S' := ⟨[(2, vi 2)], []⟩) (sc [] (by decide) (by kernel_rfl) ObRen.nil rfl rfl) rfl rfl
  refine q2 ?_
  refine q6 ?_
  refine rko 4 (.k (.d (.k3 (.i 37 (.own 1 0 v4.length) (.i 40 (.own 3 0 1) .n))))) [some (.row 6 [.agg [eS 1 vt a0.Places, eS 1 vt a0.Technicians, eS 4 eRoad a0.Roads, eS 3 eGrand a0.Grands, vi a0.Change, vi a0.Lasts]]), some (.row 1 (List.map vt v4)), some (.row 3 [.agg [vt ((ix a0.Grands v5).Name), vt ((ix a0.Grands v5).Place), vi ((ix a0.Grands v5).Width)]]), some (.row 1 [vt ((ix a0.Grands v5).Name)])] ?_
  refine cK h fun c6 h => ?_
  refine jx 41 (.app 1 16 37 40) _ (ok_app_own (l := v4) (l2 := ([(ix a0.Grands v5).Name] : List Str)) (e := vt) (u := .own 3 0 1) rfl rfl rfl rfl rfl c6) rfl rfl ?_
  refine jk 1 (.d (.k4 (.i 3 (.own 4 0 ((v4 ++ ([(ix a0.Grands v5).Name] : List Str)).length)) .n))) ?_
  refine q6 ?_
  refine cK h fun c7 h => ?_
  refine jo 42 (.bin .add false 14 (ki 1)) (r_addn (i := v5) (j := 1) rfl rfl c7) ?_
  refine jk 1 (.d (.k3 (.d (.k (.i 14 (vi ((v5 + 1 : Nat) : Int)) .n))))) ?_
  exact Vs.intro (sc [0, 4] (by decide) (by kernel_rfl) (.cons rfl (obRen_row vt_frz rfl .nil)) rfl rfl) ⟨((v4 ++ ([(ix a0.Grands v5).Name] : List Str)), v5 + 1), rfl, h⟩
 refine q5 ?_
 exact Vs.intro (sc [] (by decide) (by kernel_rfl) ObRen.nil rfl rfl) ⟨(), rfl, h⟩
theorem diary_CheckDiary_ok (n : Nat) (a0 : Diary) (r : Int) (h : diary_CheckDiary n a0 = some r) : FnL Try.prog 19 [.agg [eS 1 vt a0.Places, eS 1 vt a0.Technicians, eS 4 eRoad a0.Roads, eS 3 eGrand a0.Grands, vi a0.Change, vi a0.Lasts]] [] (vi r) [] := by
 dsimp only [diary_CheckDiary] at h
 refine fo [2] Try.call19 Try.func19 rfl ?_
 refine sko (.i 1 (.ptr 0 0 0) .n) [some (.row 6 [.agg [eS 1 vt a0.Places, eS 1 vt a0.Technicians, eS 4 eRoad a0.Roads, eS 3 eGrand a0.Grands, vi a0.Change, vi a0.Lasts]])] ?_
 refine q1 ?_
 refine sj ?_
 refine rk 2 (.k (.i 8 (eS 1 vt a0.Places) .n)) ?_
 refine bK h fun y1 hy1 h => ?_
 refine jc 9 [8, (ki 20)] (diary_checkNames_ok n a0.Places 20 y1 hy1) ?_
 refine jk 1 (.d (.k (.i 3 (vi y1) .n))) ?_
 refine sk (.k2 (.i 11 (vb (y1 != (0 : Int))) .n)) ?_
 refine tc h (fun c1 h => ?_) (fun c1 h => ?_)
 ·refine sk (.i 2 (vi y1) .n) ?_
  refine q3 ?_
  have h := si h
  subst h
  exact DoneS.ret (S' := ⟨[(2, vi y1)], []⟩) (sc [] (by decide) (by kernel_rfl) ObRen.nil rfl rfl) rfl rfl
 refine q2 ?_
 refine q1 ?_
 refine sj ?_
 refine rk 1 (.k (.i 13 (.agg [eS 1 vt a0.Places, eS 1 vt a0.Technicians, eS 4 eRoad a0.Roads, eS 3 eGrand a0.Grands, vi a0.Change, vi a0.Lasts]) .n)) ?_
 refine bK h fun y2 hy2 h => ?_
 refine jc 14 [13] (diary_checkRoads_ok n a0 y2 hy2) ?_
 refine jk 1 (.d (.k (.i 4 (vi y2) .n))) ?_
 refine sk (.k2 (.i 16 (vb (y2 != (0 : Int))) .n)) ?_
 refine tc h (fun c2 h => ?_) (fun c2 h => ?_)
 ·refine sk (.i 2 (vi y2) .n) ?_
  refine q3 ?_
  have h := si h
  subst h
  exact DoneS.ret (S' := ⟨[(2, vi y2)], []⟩) (sc [] (by decide) (by kernel_rfl) ObRen.nil rfl rfl) rfl rfl
 refine q2 ?_
 refine q1 ?_
 refine sj ?_
 refine rk 1 (.k (.i 18 (.agg [eS 1 vt a0.Places, eS 1 vt a0.Technicians, eS 4 eRoad a0.Roads, eS 3 eGrand a0.Grands, vi a0.Change, vi a0.Lasts]) .n)) ?_
 refine bK h fun y3 hy3 h => ?_
 refine jc 19 [18] (diary_checkGrands_ok n a0 y3 hy3) ?_
 refine jk 1 (.d (.k (.i 5 (vi y3) .n))) ?_
 refine sk (.k2 (.i 21 (vb (y3 != (0 : Int))) .n)) ?_
 refine tc h (fun c3 h => ?_) (fun c3 h => ?_)
 ·refine sk (.i 2 (vi y3) .n) ?_
  refine q3 ?_
  have h := si h
  subst h
  exact DoneS.ret (S' := ⟨[(2, vi y3)], []⟩) (sc [] (by decide) (by kernel_rfl) ObRen.nil rfl rfl) rfl rfl
 refine q2 ?_
 refine q1 ?_
 refine sj ?_
 refine rk 2 (.k (.i 24 (eS 1 vt a0.Technicians) .n)) ?_
 refine bK h fun y4 hy4 h => ?_
 refine jc 25 [24, (ki 12)] (diary_checkNames_ok n a0.Technicians 12 y4 hy4) ?_
 refine jk 1 (.d (.k (.i 6 (vi y4) .n))) ?_
 refine sk (.k2 (.i 27 (vb (y4 != (0 : Int))) .n)) ?_
 refine tc h (fun c4 h => ?_) (fun c4 h => ?_)
 ·refine sk (.i 2 (vi y4) .n) ?_
  refine q3 ?_
  have h := si h
  subst h
  exact DoneS.ret (S' := ⟨[(2, vi y4)], []⟩) (sc [] (by decide) (by kernel_rfl) ObRen.nil rfl rfl) rfl rfl
 refine q2 ?_
 refine q1 ?_
 refine sj ?_
 refine rk 2 (.k (.i 30 (vi a0.Change) .n)) ?_
 refine bK h fun y5 hy5 h => ?_
 refine jc 31 [30, (ki 0), (ki 1000)] (diary_within_ok n a0.Change 0 1000 y5 hy5) ?_
 refine rk 2 (.d (.k (.i 33 (vb (!((decide (0 ≤ a0.Change)) && (decide (a0.Change ≤ 1000))))) .n))) ?_
 refine gj (.ptr 0 0 5) 34 (.faddr 5 1) 33 false rfl ?_
 refine gk (vi a0.Lasts) 35 (.load false 1 34) 33 false rfl (fun hg => (.cons hg .nil)) ?_
 refine bK h fun y6 hy6 h => ?_
 refine gc 36 [35, (ki 0), (ki 100000)] 33 false rfl (fun hg => diary_within_ok n a0.Lasts 0 100000 y6 (gcall_some hy6 hg)) (fun hg => (.cons rfl (.cons hg (.cons rfl (.cons rfl .nil))))) (fun hg => by kernel_rfl) ?_
 refine gk (vb (!((decide (0 ≤ a0.Lasts)) && (decide (a0.Lasts ≤ 100000))))) 37 (.un .not 36) 33 false rfl (fun hg => (.cons hg .nil)) ?_
 refine po 38 33 37 rfl rfl ?_
 refine jf (.i 38 (vb ((!((decide (0 ≤ a0.Change)) && (decide (a0.Change ≤ 1000)))) || (!((decide (0 ≤ a0.Lasts)) && (decide (a0.Lasts ≤ 100000)))))) .n) ?_
 refine tc h (fun c5 h => ?_) (fun c5 h => ?_)
 ·refine sk (.i 2 (vi 2) .n) ?_
  refine q3 ?_
  have h := si h
  subst h
  exact DoneS.ret (S' := ⟨[(2, vi 2)], []⟩) (sc [] (by decide) (by kernel_rfl) ObRen.nil rfl rfl) rfl rfl
 refine q2 ?_
 refine sk (.i 2 (vi 0) .n) ?_
 refine q3 ?_
 have h := si h
 subst h
 exact DoneS.ret (S' := ⟨[(2, vi 0)], []⟩) (sc [] (by decide) (by kernel_rfl) ObRen.nil rfl rfl) rfl rfl
theorem diary_open_ok (n : Nat) (a0 : Diary) (r : Int ⊕ Unit) (h : diary_open n a0 = some r) : FnL Try.prog 72 [.agg [eS 1 vt a0.Places, eS 1 vt a0.Technicians, eS 4 eRoad a0.Roads, eS 3 eGrand a0.Grands, vi a0.Change, vi a0.Lasts]] [] (match r with | .inl r => .tup [.p (.pointer none), vi r] | .inr r => .tup [.ptr 1 0 0, vi 0]) (match r with | .inl r => [] | .inr r => [some (.mp (mpE vi (eM eArr2_Str vi) ([] : List (Int × List (Arr2_Str × Int))))), some (.row 7 [.agg [eS 1 vt a0.Places, eS 1 vt a0.Technicians, eS 4 eRoad a0.Roads, eS 3 eGrand a0.Grands, vi a0.Change, vi a0.Lasts, .map 0]])]) := by
 dsimp only [diary_open] at h
 refine FnL.ofS (ts := [2, 3]) Try.call72 Try.func72 rfl rfl (Nat.le_of_ble_eq_true rfl) (by rcases r with r | r <;> exact Nat.le_of_ble_eq_true rfl) (fun j h => absurd h (Nat.not_lt_zero j)) ?_
 refine sko (.i 1 (.ptr 0 0 0) .n) [some (.row 6 [.agg [eS 1 vt a0.Places, eS 1 vt a0.Technicians, eS 4 eRoad a0.Roads, eS 3 eGrand a0.Grands, vi a0.Change, vi a0.Lasts]])] ?_
 refine q1 ?_
 refine sj ?_
 refine rk 1 (.k (.i 5 (.agg [eS 1 vt a0.Places, eS 1 vt a0.Technicians, eS 4 eRoad a0.Roads, eS 3 eGrand a0.Grands, vi a0.Change, vi a0.Lasts]) .n)) ?_
 refine bK h fun y1 hy1 h => ?_
 refine jc 6 [5] (diary_CheckDiary_ok n a0 y1 hy1) ?_
 refine jk 1 (.d (.k (.i 4 (vi y1) .n))) ?_
 refine sk (.k2 (.i 8 (vb (y1 != (0 : Int))) .n)) ?_
 refine tc h (fun c1 h => ?_) (fun c1 h => ?_)
 ·refine sk (.i 2 (.p (.pointer none)) (.i 3 (vi y1) .n)) ?_
  refine q3 ?_
  have h := si h
  subst h
  exact DoneS.ret (S' := ⟨[(2, .p (.pointer none)), (3, vi y1)], []⟩) (sc [] (by decide) (by kernel_rfl) ObRen.nil rfl rfl) rfl rfl
 refine q2 ?_
 refine sj ?_
 refine rk 1 (.i 10 (.agg [eS 1 vt a0.Places, eS 1 vt a0.Technicians, eS 4 eRoad a0.Roads, eS 3 eGrand a0.Grands, vi a0.Change, vi a0.Lasts]) .n) ?_
 refine jx 11 .mkmap _ rfl rfl rfl ?_
 refine jko 4 (.i 2 (.ptr 2 0 0) (.i 3 (vi 0) .n)) [some (.row 6 [.agg [eS 1 vt a0.Places, eS 1 vt a0.Technicians, eS 4 eRoad a0.Roads, eS 3 eGrand a0.Grands, vi a0.Change, vi a0.Lasts]]), some (.mp (mpE vi (eM eArr2_Str vi) ([] : List (Int × List (Arr2_Str × Int))))), some (.row 7 [.agg [eS 1 vt a0.Places, eS 1 vt a0.Technicians, eS 4 eRoad a0.Roads, eS 3 eGrand a0.Grands, vi a0.Change, vi a0.Lasts, .map 1]])] ?_
 refine q3 ?_
 have h := si h
 subst h
 exact DoneS.ret (S' := ⟨[(2, .ptr 1 0 0), (3, vi 0)], [some (.mp (mpE vi (eM eArr2_Str vi) ([] : List (Int × List (Arr2_Str × Int))))), some (.row 7 [.agg [eS 1 vt a0.Places, eS 1 vt a0.Technicians, eS 4 eRoad a0.Roads, eS 3 eGrand a0.Grands, vi a0.Change, vi a0.Lasts, .map 0]])]⟩) (sc [1, 2] (by decide) (by kernel_rfl) (obRen_mp vi_frz (eM_frz eArr2_Str vi) rfl (.cons rfl .nil)) rfl rfl) rfl rfl
theorem diary_plan_isPlace_2_ok (n : Nat) (a0 : List Str) (a1 : List Str) (a2 : List Road) (a3 : List Grand) (a4 : Int) (a5 : Int) (a6 : List (Int × List (Arr2_Str × Int))) (a7 : Str) (r : Bool) (h : diary_plan_isPlace_2 n a0 a1 a2 a3 a4 a5 a6 a7 = some r) : FnL Try.prog 81 [.ptr 0 0 0, vt a7] [some (.row 7 [.agg [eS 1 vt a0, eS 1 vt a1, eS 4 eRoad a2, eS 3 eGrand a3, vi a4, vi a5, .map 1]]), some (.mp (mpE vi (eM eArr2_Str vi) a6))] (vb r) [some (.row 7 [.agg [eS 1 vt a0, eS 1 vt a1, eS 4 eRoad a2, eS 3 eGrand a3, vi a4, vi a5, .map 1]]), some (.mp (mpE vi (eM eArr2_Str vi) a6))] := by
 dsimp only [diary_plan_isPlace_2] at h
 refine fob [4] Try.call81 Try.func81 rfl (.cons rfl (.cons rfl .nil)) ?_
 refine sk .a ?_
 refine sj ?_
 refine rk 6 (.i 9 (eS 1 vt a0) (.i 10 (vt a7) .n)) ?_
 refine bK h fun y1 hy1 h => ?_
 refine jc 11 [9, 10] (slices_Contains_string_ok n a0 a7 y1 hy1) ?_
 refine jk 1 (.i 4 (vb y1) .n) ?_
 refine q3 ?_
 have h := si h
 subst h
 exact DoneS.ret Sees.refl rfl rfl
set_option maxHeartbeats 1000000 in
theorem diary_plan_joined_ok (n : Nat) (a0 : List Str) (a1 : List Str) (a2 : List Road) (a3 : List Grand) (a4 : Int) (a5 : Int) (a6 : List (Int × List (Arr2_Str × Int))) (a7 : Str) (a8 : Str) (a9 : Int) (r : Int × Bool) (h : diary_plan_joined n a0 a1 a2 a3 a4 a5 a6 a7 a8 a9 = some r) : FnL Try.prog 83 [.ptr 0 0 0, vt a7, vt a8, vi a9] [some (.row 7 [.agg [eS 1 vt a0, eS 1 vt a1, eS 4 eRoad a2, eS 3 eGrand a3, vi a4, vi a5, .map 1]]), some (.mp (mpE vi (eM eArr2_Str vi) a6))] (.tup [vi r.1, vb r.2]) [some (.row 7 [.agg [eS 1 vt a0, eS 1 vt a1, eS 4 eRoad a2, eS 3 eGrand a3, vi a4, vi a5, .map 1]]), some (.mp (mpE vi (eM eArr2_Str vi) a6))] := by
 dsimp only [diary_plan_joined] at h
 refine fob [8, 9] Try.call83 Try.func83 rfl (.cons rfl (.cons rfl .nil)) ?_
 refine sk .a ?_
 refine sk (.k4 (.i 10 (vi 0) (.i 11 (vb false) .n))) ?_
 refine TriE.seqK h (fun (t : Int × Bool) => match t with | (v8, v9) => St.mk [(10, vi v8), (11, vb v9)] [some (.row 7 [.agg [eS 1 vt a0, eS 1 vt a1, eS 4 eRoad a2, eS 3 eGrand a3, vi a4, vi a5, .map 1]]), some (.mp (mpE vi (eM eArr2_Str vi) a6))]) ?_ ?_
 ·rintro ⟨v8, v9⟩ h
  refine sk (.i 8 (vi v8) (.i 9 (vb v9) .n)) ?_
  refine q3 ?_
  have h := si h
  subst h
  exact DoneS.ret Sees.refl rfl rfl
 intro k2 h
 refine sj ?_
 refine rk 5 (.d (.k4 (.k (.i 18 (eS 4 eRoad a2) .n)))) ?_
 refine jo 19 (.len 0 18) (ok_len_m rfl) ?_
 refine jk 1 (.d (.k4 (.k2 (.i 19 (vi (a2.length : Int)) (.i 20 (vi 0) .n))))) ?_
 refine q4 ?_
 refine ts (.k4 (.k3 (.i 20 (vi 0) .n))) ?_
 refine TriE.loopN h (fun (t : Int × Bool × Nat) => match t with | (v3, v4, v5) => St.mk [(1, vt a7), (2, vt a8), (3, vi a9), (10, vi v3), (11, vb v4), (18, eS 4 eRoad a2), (19, vi (a2.length : Int)), (20, vi v5)] [some (.row 7 [.agg [eS 1 vt a0, eS 1 vt a1, eS 4 eRoad a2, eS 3 eGrand a3, vi a4, vi a5, .map 1]]), some (.mp (mpE vi (eM eArr2_Str vi) a6))]) rfl ?_
 clear h
 rintro back ⟨v3, v4, v5⟩ h
 dsimp only [diary_plan_joined_L1] at h
 refine sj ?_
 refine jo 21 (.bin .lss false 20 19) (n_lss (i := v5) (j := a2.length) rfl rfl) ?_
 refine jf (.d (.k4 (.k4 (.i 21 (vb (decide (v5 < a2.length))) .n)))) ?_
 refine q1 ?_
 refine tc h (fun c1 h => ?_) (fun c1 h => ?_)
 ·refine q2 ?_
  refine TriE.seqK h (fun (t : Int × Bool) => match t with | (v6, v7) => St.mk [(1, vt a7), (2, vt a8), (3, vi a9), (18, eS 4 eRoad a2), (19, vi (a2.length : Int)), (20, vi v5), (10, vi v6), (11, vb v7)] [some (.row 7 [.agg [eS 1 vt a0, eS 1 vt a1, eS 4 eRoad a2, eS 3 eGrand a3, vi a4, vi a5, .map 1]]), some (.mp (mpE vi (eM eArr2_Str vi) a6))]) ?_ ?_
  ·rintro ⟨v6, v7⟩ h
   refine q6 ?_
   refine cK h fun c3 h => ?_
   refine jo 64 (.bin .add false 20 (ki 1)) (r_addn (i := v5) (j := 1) rfl rfl c3) ?_
   refine jk 1 (.d (.k4 (.k (.d (.k2 (.i 20 (vi ((v5 + 1 : Nat) : Int)) .n)))))) ?_
   exact Vs.intro sy ⟨(v6, v7, v5 + 1), rfl, h⟩
  intro k1 h
  refine q4 ?_
  refine sj ?_
  refine jo 22 (.iaddr 4 18 20) (ok_iaddr_m (j := v5) rfl rfl rfl c1) ?_
  refine jo 23 (.load true 4 22) (ok_load_fm (v := .agg [vt ((ix a2 v5).A), vt ((ix a2 v5).B), vi ((ix a2 v5).Minutes), vi ((ix a2 v5).Width)]) rfl c1 rfl) ?_
  refine jko 2 (.d2 (.k4 (.k4 (.i 13 (.ptr 2 0 0) .n)))) [some (.row 7 [.agg [eS 1 vt a0, eS 1 vt a1, eS 4 eRoad a2, eS 3 eGrand a3, vi a4, vi a5, .map 1]]), some (.mp (mpE vi (eM eArr2_Str vi) a6)), some (.row 4 [.agg [vt ((ix a2 v5).A), vt ((ix a2 v5).B), vi ((ix a2 v5).Minutes), vi ((ix a2 v5).Width)]])] ?_
  refine sj ?_
  refine rk 5 (.k4 (.k4 (.k (.i 28 (vb (((ix a2 v5).A) == a7)) .n)))) ?_
  refine gj (.ptr 2 0 1) 29 (.faddr 1 13) 28 true rfl ?_
  refine gk (vt ((ix a2 v5).B)) 30 (.load false 1 29) 28 true rfl (fun hg => (.cons hg .nil)) ?_
  refine gj (vt a8) 31 (.mov 2) 28 true rfl ?_
  refine gk (vb (((ix a2 v5).B) == a8)) 32 (.bin .eql false 30 31) 28 true rfl (fun hg => (.cons hg (.cons hg .nil))) ?_
  refine pa 33 28 32 rfl rfl ?_
  refine rk 1 (.d4 (.d (.k4 (.k4 (.k (.i 29 (.cond (((ix a2 v5).A) == a7) (.ptr 2 0 1)) (.i 30 (.cond (((ix a2 v5).A) == a7) (vt ((ix a2 v5).B))) (.i 31 (.cond (((ix a2 v5).A) == a7) (vt a8)) (.i 32 (.cond (((ix a2 v5).A) == a7) (vb (((ix a2 v5).B) == a8))) (.i 34 (vb ((((ix a2 v5).A) == a7) && (((ix a2 v5).B) == a8))) .n)))))))))) ?_
  refine gj (.ptr 2 0 0) 35 (.faddr 0 13) 34 false rfl ?_
  refine gk (vt ((ix a2 v5).A)) 36 (.load false 1 35) 34 false rfl (fun hg => (.cons hg .nil)) ?_
  refine gj (vt a8) 37 (.mov 2) 34 false rfl ?_
  refine gk (vb (((ix a2 v5).A) == a8)) 38 (.bin .eql false 36 37) 34 false rfl (fun hg => (.cons hg (.cons hg .nil))) ?_
  refine gk (vb (((ix a2 v5).A) == a8)) 39 (.mov 38) 34 false rfl (fun hg => (.cons hg .nil)) ?_
  refine gj (.ptr 2 0 1) 40 (.faddr 1 13) 39 true rfl ?_
  refine gk (vt ((ix a2 v5).B)) 41 (.load false 1 40) 39 true rfl (fun hg => (.cons hg .nil)) ?_
  refine gj (vt a7) 42 (.mov 1) 39 true rfl ?_
  refine gk (vb (((ix a2 v5).B) == a7)) 43 (.bin .eql false 41 42) 39 true rfl (fun hg => (.cons hg (.cons hg .nil))) ?_
  refine RegJ.op (Op1.andg (g := !((((ix a2 v5).A) == a7) && (((ix a2 v5).B) == a8))) (cy (IG 44 (.pick 39 43 (.c (.p (.bool false)))) 34 false)) rfl rfl rfl (fun hg => by first | exact hokA2 hg | exact hokA3 hg | exact hokA1 | exact hokA0 | (rw [hg]; simp) | simp_all)) ?_
  refine po 45 34 44 rfl rfl ?_
  refine rk 1 (.d4 (.d4 (.d3 (.k4 (.k4 (.k4 (.k (.i 35 (.cond (!((((ix a2 v5).A) == a7) && (((ix a2 v5).B) == a8))) (.ptr 2 0 0)) (.i 36 (.cond (!((((ix a2 v5).A) == a7) && (((ix a2 v5).B) == a8))) (vt ((ix a2 v5).A))) (.i 37 (.cond (!((((ix a2 v5).A) == a7) && (((ix a2 v5).B) == a8))) (vt a8)) (.i 38 (.cond (!((((ix a2 v5).A) == a7) && (((ix a2 v5).B) == a8))) (vb (((ix a2 v5).A) == a8))) (.i 39 (.cond (!((((ix a2 v5).A) == a7) && (((ix a2 v5).B) == a8))) (vb (((ix a2 v5).A) == a8))) (.i 40 (.cond ((!((((ix a2 v5).A) == a7) && (((ix a2 v5).B) == a8))) && (((ix a2 v5).A) == a8)) (.ptr 2 0 1)) (.i 41 (.cond ((!((((ix a2 v5).A) == a7) && (((ix a2 v5).B) == a8))) && (((ix a2 v5).A) == a8)) (vt ((ix a2 v5).B))) (.i 42 (.cond ((!((((ix a2 v5).A) == a7) && (((ix a2 v5).B) == a8))) && (((ix a2 v5).A) == a8)) (vt a7)) (.i 43 (.cond ((!((((ix a2 v5).A) == a7) && (((ix a2 v5).B) == a8))) && (((ix a2 v5).A) == a8)) (vb (((ix a2 v5).B) == a7))) (.i 44 (.cond (!((((ix a2 v5).A) == a7) && (((ix a2 v5).B) == a8))) (vb ((((ix a2 v5).A) == a8) && (((ix a2 v5).B) == a7)))) (.i 46 (vb (((((ix a2 v5).A) == a7) && (((ix a2 v5).B) == a8)) || ((((ix a2 v5).A) == a8) && (((ix a2 v5).B) == a7)))) .n)))))))))))))))))) ?_
  refine gj (.ptr 2 0 3) 47 (.faddr 3 13) 46 true rfl ?_
  refine gk (vi ((ix a2 v5).Width)) 48 (.load false 1 47) 46 true rfl (fun hg => (.cons hg .nil)) ?_
  refine gj (vi a9) 49 (.mov 3) 46 true rfl ?_
  refine gk (vb (decide (a9 ≤ ((ix a2 v5).Width)))) 50 (.bin .geq false 48 49) 46 true rfl (fun hg => (.cons hg (.cons hg .nil))) ?_
  refine pa 51 46 50 rfl rfl ?_
  refine rk 1 (.d4 (.d (.k4 (.k4 (.k4 (.k4 (.k4 (.k3 (.i 47 (.cond (((((ix a2 v5).A) == a7) && (((ix a2 v5).B) == a8)) || ((((ix a2 v5).A) == a8) && (((ix a2 v5).B) == a7))) (.ptr 2 0 3)) (.i 48 (.cond (((((ix a2 v5).A) == a7) && (((ix a2 v5).B) == a8)) || ((((ix a2 v5).A) == a8) && (((ix a2 v5).B) == a7))) (vi ((ix a2 v5).Width))) (.i 49 (.cond (((((ix a2 v5).A) == a7) && (((ix a2 v5).B) == a8)) || ((((ix a2 v5).A) == a8) && (((ix a2 v5).B) == a7))) (vi a9)) (.i 50 (.cond (((((ix a2 v5).A) == a7) && (((ix a2 v5).B) == a8)) || ((((ix a2 v5).A) == a8) && (((ix a2 v5).B) == a7))) (vb (decide (a9 ≤ ((ix a2 v5).Width))))) (.i 52 (vb ((((((ix a2 v5).A) == a7) && (((ix a2 v5).B) == a8)) || ((((ix a2 v5).A) == a8) && (((ix a2 v5).B) == a7))) && (decide (a9 ≤ ((ix a2 v5).Width))))) .n))))))))))))) ?_
  refine gj (vb v4) 53 (.mov 11) 52 true rfl ?_
  refine gk (vb (!v4)) 54 (.un .not 53) 52 true rfl (fun hg => (.cons hg .nil)) ?_
  refine gk (vb (!v4)) 55 (.mov 54) 52 true rfl (fun hg => (.cons hg .nil)) ?_
  refine gj (.ptr 2 0 2) 56 (.faddr 2 13) 55 false rfl ?_
  refine gk (vi ((ix a2 v5).Minutes)) 57 (.load false 1 56) 55 false rfl (fun hg => (.cons hg .nil)) ?_
  refine gj (vi v3) 58 (.mov 10) 55 false rfl ?_
  refine gk (vb (decide (((ix a2 v5).Minutes) < v3))) 59 (.bin .lss false 57 58) 55 false rfl (fun hg => (.cons hg (.cons hg .nil))) ?_
  refine RegJ.op (Op1.org (g := (((((ix a2 v5).A) == a7) && (((ix a2 v5).B) == a8)) || ((((ix a2 v5).A) == a8) && (((ix a2 v5).B) == a7))) && (decide (a9 ≤ ((ix a2 v5).Width)))) (cy (IG 60 (.pick 55 (.c (.p (.bool true))) 59) 52 true)) rfl rfl rfl (fun hg => by first | exact hokO2 hg | exact hokO3 hg | exact hokO1 | exact hokO0 | (rw [hg]; simp) | simp_all)) ?_
  refine pa 61 52 60 rfl rfl ?_
  refine jf (.d4 (.d4 (.d (.k4 (.k4 (.k (.i 61 (vb (((((((ix a2 v5).A) == a7) && (((ix a2 v5).B) == a8)) || ((((ix a2 v5).A) == a8) && (((ix a2 v5).B) == a7))) && (decide (a9 ≤ ((ix a2 v5).Width)))) && ((!v4) || (decide (((ix a2 v5).Minutes) < v3))))) .n))))))) ?_
  refine tc h (fun c2 h => ?_) (fun c2 h => ?_)
  ·refine tk (.k3 (.d2 (.k3 (.i 10 (vi ((ix a2 v5).Minutes)) (.i 11 (vb true) .n))))) ?_
   exact Vs.intro (sc [0, 1] (by decide) (by kernel_rfl) (.cons rfl (obRen_mp vi_frz (eM_frz eArr2_Str vi) rfl .nil)) rfl rfl) ⟨((ix a2 v5).Minutes, true), rfl, h⟩
  refine q2 ?_
  exact Vs.intro (sc [0, 1] (by decide) (by kernel_rfl) (.cons rfl (obRen_mp vi_frz (eM_frz eArr2_Str vi) rfl .nil)) rfl rfl) ⟨(v3, v4), rfl, h⟩
 refine q5 ?_
 exact Vs.intro sy ⟨(v3, v4), rfl, h⟩
set_option maxHeartbeats 1000000 in
theorem diary_plan_distances_ok (n : Nat) (a0 : List Str) (a1 : List Str) (a2 : List Road) (a3 : List Grand) (a4 : Int) (a5 : Int) (a6 : List (Int × List (Arr2_Str × Int))) (a7 : Int) (r : (List (Arr2_Str × Int)) × (List (Int × List (Arr2_Str × Int)))) (h : diary_plan_distances n a0 a1 a2 a3 a4 a5 a6 a7 = some r) : FnL Try.prog 111 [.ptr 0 0 0, vi a7] [some (.row 7 [.agg [eS 1 vt a0, eS 1 vt a1, eS 4 eRoad a2, eS 3 eGrand a3, vi a4, vi a5, .map 1]]), some (.mp (mpE vi (eM eArr2_Str vi) a6))] (eM eArr2_Str vi r.1) [some (.row 7 [.agg [eS 1 vt a0, eS 1 vt a1, eS 4 eRoad a2, eS 3 eGrand a3, vi a4, vi a5, .map 1]]), some (.mp (mpE vi (eM eArr2_Str vi) r.2))] := by
 dsimp only [diary_plan_distances] at h
 refine fob [4] Try.call111 Try.func111 rfl (.cons rfl (.cons rfl .nil)) ?_
 refine sk .a ?_
 refine q1 ?_
 refine TriE.seqK2 h (fun (_ : Unit) => St.mk [(0, .ptr 0 0 0), (1, vi a7), (5, eM eArr2_Str vi (Option.getD (List.lookup a7 a6) ([] : List (Arr2_Str × Int)))), (6, vb true)] [some (.row 7 [.agg [eS 1 vt a0, eS 1 vt a1, eS 4 eRoad a2, eS 3 eGrand a3, vi a4, vi a5, .map 1]]), some (.mp (mpE vi (eM eArr2_Str vi) a6))]) (fun (_ : Unit) => St.mk [(0, .ptr 0 0 0), (1, vi a7), (5, .p (.map none)), (6, vb false)] [some (.row 7 [.agg [eS 1 vt a0, eS 1 vt a1, eS 4 eRoad a2, eS 3 eGrand a3, vi a4, vi a5, .map 1]]), some (.mp (mpE vi (eM eArr2_Str vi) a6))]) ?_ ?_ ?_
 ·rintro ⟨⟩ h
  refine sk (.k3 (.i 35 (vb true) .n)) ?_
  refine TriE.cond (b := true) rfl (fun c2 => ?_) (fun c2 => ?_)
  rotate_left
  ·cases c2
  refine sk (.i 4 (eM eArr2_Str vi (Option.getD (List.lookup a7 a6) ([] : List (Arr2_Str × Int)))) .n) ?_
  refine q3 ?_
  have h := si h
  subst h
  exact DoneS.ret Sees.refl rfl rfl
 ·rintro ⟨⟩ h
  refine sk (.k3 (.i 35 (vb false) .n)) ?_
  refine TriE.cond (b := false) rfl (fun c3 => ?_) (fun c3 => ?_)
  ·cases c3
  refine q2 ?_
  refine sj ?_
  refine jx 37 .mkmap _ rfl rfl rfl ?_
  refine jk 1 (.d (.k2 (.i 7 (.map 2) .n))) ?_
  refine TriE.seqK h (fun (v17 : (List (Arr2_Str × Int))) => St.mk [(0, .ptr 0 0 0), (1, vi a7), (7, .map 2)] [some (.row 7 [.agg [eS 1 vt a0, eS 1 vt a1, eS 4 eRoad a2, eS 3 eGrand a3, vi a4, vi a5, .map 1]]), some (.mp (mpE vi (eM eArr2_Str vi) a6)), some (.mp (mpE eArr2_Str vi v17))]) ?_ ?_
  ·rintro v17 h
   refine TriE.seqK h (fun (v46 : (List (Arr2_Str × Int))) => St.mk [(0, .ptr 0 0 0), (1, vi a7), (7, .map 2)] [some (.row 7 [.agg [eS 1 vt a0, eS 1 vt a1, eS 4 eRoad a2, eS 3 eGrand a3, vi a4, vi a5, .map 1]]), some (.mp (mpE vi (eM eArr2_Str vi) a6)), some (.mp (mpE eArr2_Str vi v46))]) ?_ ?_
   ·rintro v46 h
    refine sj ?_
    refine rk 6 (.d2 (.k (.i 165 (.map 1) (.i 166 (vi a7) (.i 167 (.map 2) .n))))) ?_
    refine RegJ.sees (Sees.frzMap (ek := eArr2_Str) (ev := vi) (l := v46) 2 (fr' := [(7, eM eArr2_Str vi v46), (165, .map 1), (166, vi a7), (167, eM eArr2_Str vi v46)]) (ob' := [some (.row 7 [.agg [eS 1 vt a0, eS 1 vt a1, eS 4 eRoad a2, eS 3 eGrand a3, vi a4, vi a5, .map 1]]), some (.mp (mpE vi (eM eArr2_Str vi) a6)), none]) rfl eArr2_Str_frz vi_frz (.cons .map (.cons (.refl _) (.cons (.refl _) (.cons .map .nil)))) rfl) ?_
    refine jn (.mapset false 165 166 167) _ (ok_mapset_i (l := a6) (ev := (eM eArr2_Str vi)) (v := v46) rfl rfl rfl rfl) rfl rfl ?_
    refine jf (.k .n) ?_
    refine sk (.i 4 (eM eArr2_Str vi v46) .n) ?_
    refine q3 ?_
    have h := si h
    subst h
    exact DoneS.ret (S' := ⟨[(4, eM eArr2_Str vi v46)], [some (.row 7 [.agg [eS 1 vt a0, eS 1 vt a1, eS 4 eRoad a2, eS 3 eGrand a3, vi a4, vi a5, .map 1]]), some (.mp (mpE vi (eM eArr2_Str vi) (mPut a7 v46 a6)))]⟩) (sc [0, 1] (by decide) (by kernel_rfl) (.cons rfl (obRen_mp vi_frz (eM_frz eArr2_Str vi) rfl .nil)) rfl rfl) rfl rfl
   intro k9 h
   refine sj ?_
   refine rk 5 (.k3 (.i 87 (eS 1 vt a0) .n)) ?_
   refine jo 88 (.len 0 87) (ok_len_m rfl) ?_
   refine jk 1 (.d (.k4 (.i 88 (vi (a0.length : Int)) (.i 89 (vi 0) .n)))) ?_
   refine q4 ?_
   refine ts (.k4 (.k (.i 89 (vi 0) .n))) ?_
   refine TriE.loopN h (fun (t : Nat × (List (Arr2_Str × Int))) => match t with | (v31, v32) => St.mk [(0, .ptr 0 0 0), (1, vi a7), (7, .map 2), (87, eS 1 vt a0), (88, vi (a0.length : Int)), (89, vi v31)] [some (.row 7 [.agg [eS 1 vt a0, eS 1 vt a1, eS 4 eRoad a2, eS 3 eGrand a3, vi a4, vi a5, .map 1]]), some (.mp (mpE vi (eM eArr2_Str vi) a6)), some (.mp (mpE eArr2_Str vi v32))]) rfl ?_
   clear h
   rintro back ⟨v31, v32⟩ h
   dsimp only [diary_plan_distances_L5] at h
   refine sj ?_
   refine jo 90 (.bin .lss false 89 88) (n_lss (i := v31) (j := a0.length) rfl rfl) ?_
   refine jf (.d (.k4 (.k2 (.i 90 (vb (decide (v31 < a0.length))) .n)))) ?_
   refine q1 ?_
   refine tc h (fun c9 h => ?_) (fun c9 h => ?_)
   ·refine q2 ?_
    refine TriE.seqK h (fun (v45 : (List (Arr2_Str × Int))) => St.mk [(0, .ptr 0 0 0), (1, vi a7), (7, .map 2), (87, eS 1 vt a0), (88, vi (a0.length : Int)), (89, vi v31)] [some (.row 7 [.agg [eS 1 vt a0, eS 1 vt a1, eS 4 eRoad a2, eS 3 eGrand a3, vi a4, vi a5, .map 1]]), some (.mp (mpE vi (eM eArr2_Str vi) a6)), some (.mp (mpE eArr2_Str vi v45))]) ?_ ?_
    ·rintro v45 h
     refine q6 ?_
     refine cK h fun c17 h => ?_
     refine jo 161 (.bin .add false 89 (ki 1)) (r_addn (i := v31) (j := 1) rfl rfl c17) ?_
     refine jk 1 (.d (.k4 (.k (.i 89 (vi ((v31 + 1 : Nat) : Int)) .n)))) ?_
     exact Vs.intro sy ⟨(v31 + 1, v45), rfl, h⟩
    intro k8 h
    refine q4 ?_
    refine sj ?_
    refine jo 91 (.iaddr 1 87 89) (ok_iaddr_m (j := v31) rfl rfl rfl c9) ?_
    refine jo 92 (.load false 1 91) (ok_load_fm (v := vt (ix a0 v31)) rfl c9 rfl) ?_
    refine jk 1 (.d2 (.k4 (.k2 (.i 15 (vt (ix a0 v31)) .n)))) ?_
    refine sj ?_
    refine rk 5 (.k4 (.k3 (.i 97 (eS 1 vt a0) .n))) ?_
    refine jo 98 (.len 0 97) (ok_len_m rfl) ?_
    refine jk 1 (.d (.k4 (.k4 (.i 98 (vi (a0.length : Int)) (.i 99 (vi 0) .n))))) ?_
    refine q4 ?_
    refine ts (.k4 (.k4 (.k (.i 99 (vi 0) .n)))) ?_
    refine TriE.loopN h (fun (t : Nat × (List (Arr2_Str × Int))) => match t with | (v38, v39) => St.mk [(0, .ptr 0 0 0), (1, vi a7), (7, .map 2), (87, eS 1 vt a0), (88, vi (a0.length : Int)), (89, vi v31), (15, vt (ix a0 v31)), (97, eS 1 vt a0), (98, vi (a0.length : Int)), (99, vi v38)] [some (.row 7 [.agg [eS 1 vt a0, eS 1 vt a1, eS 4 eRoad a2, eS 3 eGrand a3, vi a4, vi a5, .map 1]]), some (.mp (mpE vi (eM eArr2_Str vi) a6)), some (.mp (mpE eArr2_Str vi v39))]) rfl ?_
    clear h
    rintro back ⟨v38, v39⟩ h
    dsimp only [diary_plan_distances_L4] at h
    refine sj ?_
    refine jo 100 (.bin .lss false 99 98) (n_lss (i := v38) (j := a0.length) rfl rfl) ?_
    refine jf (.d (.k4 (.k4 (.k2 (.i 100 (vb (decide (v38 < a0.length))) .n))))) ?_
    refine q1 ?_
    refine tc h (fun c10 h => ?_) (fun c10 h => ?_)
    ·refine q2 ?_
     refine TriE.seqK h (fun (v44 : (List (Arr2_Str × Int))) => St.mk [(0, .ptr 0 0 0), (1, vi a7), (7, .map 2), (87, eS 1 vt a0), (88, vi (a0.length : Int)), (89, vi v31), (15, vt (ix a0 v31)), (97, eS 1 vt a0), (98, vi (a0.length : Int)), (99, vi v38)] [some (.row 7 [.agg [eS 1 vt a0, eS 1 vt a1, eS 4 eRoad a2, eS 3 eGrand a3, vi a4, vi a5, .map 1]]), some (.mp (mpE vi (eM eArr2_Str vi) a6)), some (.mp (mpE eArr2_Str vi v44))]) ?_ ?_
     ·rintro v44 h
      refine q6 ?_
      refine cK h fun c16 h => ?_
      refine jo 160 (.bin .add false 99 (ki 1)) (r_addn (i := v38) (j := 1) rfl rfl c16) ?_
      refine jk 1 (.d (.k4 (.k4 (.k (.i 99 (vi ((v38 + 1 : Nat) : Int)) .n))))) ?_
      exact Vs.intro sy ⟨(v38 + 1, v44), rfl, h⟩
     intro k7 h
     refine q4 ?_
     refine sj ?_
     refine jo 101 (.iaddr 1 97 99) (ok_iaddr_m (j := v38) rfl rfl rfl c10) ?_
     refine jo 102 (.load false 1 101) (ok_load_fm (v := vt (ix a0 v38)) rfl c10 rfl) ?_
     refine jk 1 (.d2 (.k4 (.k4 (.k2 (.i 17 (vt (ix a0 v38)) .n))))) ?_
     refine sj ?_
     refine rk 5 (.k4 (.k4 (.k3 (.i 107 (eS 1 vt a0) .n)))) ?_
     refine jo 108 (.len 0 107) (ok_len_m rfl) ?_
     refine jk 1 (.d (.k4 (.k4 (.k4 (.i 108 (vi (a0.length : Int)) (.i 109 (vi 0) .n)))))) ?_
     refine q4 ?_
     refine ts (.k4 (.k4 (.k4 (.k (.i 109 (vi 0) .n))))) ?_
     refine TriE.loopN h (fun (t : Nat × (List (Arr2_Str × Int))) => match t with | (v41, v42) => St.mk [(0, .ptr 0 0 0), (1, vi a7), (7, .map 2), (87, eS 1 vt a0), (88, vi (a0.length : Int)), (89, vi v31), (15, vt (ix a0 v31)), (97, eS 1 vt a0), (98, vi (a0.length : Int)), (99, vi v38), (17, vt (ix a0 v38)), (107, eS 1 vt a0), (108, vi (a0.length : Int)), (109, vi v41)] [some (.row 7 [.agg [eS 1 vt a0, eS 1 vt a1, eS 4 eRoad a2, eS 3 eGrand a3, vi a4, vi a5, .map 1]]), some (.mp (mpE vi (eM eArr2_Str vi) a6)), some (.mp (mpE eArr2_Str vi v42))]) rfl ?_
     clear h
     rintro back ⟨v41, v42⟩ h
     dsimp only [diary_plan_distances_L3] at h
     refine sj ?_
     refine jo 110 (.bin .lss false 109 108) (n_lss (i := v41) (j := a0.length) rfl rfl) ?_
     refine jf (.d (.k4 (.k4 (.k4 (.k2 (.i 110 (vb (decide (v41 < a0.length))) .n)))))) ?_
     refine q1 ?_
     refine tc h (fun c11 h => ?_) (fun c11 h => ?_)
     ·refine q2 ?_
      refine TriE.seqK h (fun (v43 : (List (Arr2_Str × Int))) => St.mk [(0, .ptr 0 0 0), (1, vi a7), (7, .map 2), (87, eS 1 vt a0), (88, vi (a0.length : Int)), (89, vi v31), (15, vt (ix a0 v31)), (97, eS 1 vt a0), (98, vi (a0.length : Int)), (99, vi v38), (17, vt (ix a0 v38)), (107, eS 1 vt a0), (108, vi (a0.length : Int)), (109, vi v41)] [some (.row 7 [.agg [eS 1 vt a0, eS 1 vt a1, eS 4 eRoad a2, eS 3 eGrand a3, vi a4, vi a5, .map 1]]), some (.mp (mpE vi (eM eArr2_Str vi) a6)), some (.mp (mpE eArr2_Str vi v43))]) ?_ ?_
      ·rintro v43 h
       refine q6 ?_
       refine cK h fun c15 h => ?_
       refine jo 159 (.bin .add false 109 (ki 1)) (r_addn (i := v41) (j := 1) rfl rfl c15) ?_
       refine jk 1 (.d (.k4 (.k4 (.k4 (.k (.i 109 (vi ((v41 + 1 : Nat) : Int)) .n)))))) ?_
       exact Vs.intro sy ⟨(v41 + 1, v43), rfl, h⟩
      intro k6 h
      refine q4 ?_
      refine sj ?_
      refine jo 111 (.iaddr 1 107 109) (ok_iaddr_m (j := v41) rfl rfl rfl c11) ?_
      refine jo 112 (.load false 1 111) (ok_load_fm (v := vt (ix a0 v41)) rfl c11 rfl) ?_
      refine jk 1 (.d2 (.k4 (.k4 (.k4 (.k2 (.i 19 (vt (ix a0 v41)) .n)))))) ?_
      refine sj ?_
      refine rk 4 (.k4 (.k4 (.k4 (.k3 (.i 114 (.map 2) (.i 117 (.agg [vt (ix a0 v38), vt (ix a0 v31)]) .n)))))) ?_
      refine jo 118 (.lookup2 (.p (.int .i64 0)) true 114 117) (ok_lk2_o (l := v42) (ek := eArr2_Str) (ev := vi) (k := (Arr2_Str.mk (ix a0 v38) (ix a0 v31))) (z0 := (0 : Int)) eArr2_Str_key rfl rfl rfl rfl) ?_
      refine jk 5 (.d (.k4 (.k4 (.k4 (.k3 (.i 20 (vi (Option.getD (List.lookup (Arr2_Str.mk (ix a0 v38) (ix a0 v31)) v42) (0 : Int))) (.i 21 (vb (Option.isSome (List.lookup (Arr2_Str.mk (ix a0 v38) (ix a0 v31)) v42))) .n))))))) ?_
      refine sj ?_
      refine rk 4 (.k4 (.k4 (.k4 (.k4 (.k (.i 122 (.map 2) (.i 125 (.agg [vt (ix a0 v31), vt (ix a0 v41)]) .n))))))) ?_
      refine jo 126 (.lookup2 (.p (.int .i64 0)) true 122 125) (ok_lk2_o (l := v42) (ek := eArr2_Str) (ev := vi) (k := (Arr2_Str.mk (ix a0 v31) (ix a0 v41))) (z0 := (0 : Int)) eArr2_Str_key rfl rfl rfl rfl) ?_
      refine jk 5 (.d (.k4 (.k4 (.k4 (.k4 (.k (.i 22 (vi (Option.getD (List.lookup (Arr2_Str.mk (ix a0 v31) (ix a0 v41)) v42) (0 : Int))) (.i 23 (vb (Option.isSome (List.lookup (Arr2_Str.mk (ix a0 v31) (ix a0 v41)) v42))) .n)))))))) ?_
      refine sj ?_
      refine rk 4 (.k4 (.k4 (.k4 (.k4 (.k3 (.i 130 (.map 2) (.i 133 (.agg [vt (ix a0 v38), vt (ix a0 v41)]) .n))))))) ?_
      refine jo 134 (.lookup2 (.p (.int .i64 0)) true 130 133) (ok_lk2_o (l := v42) (ek := eArr2_Str) (ev := vi) (k := (Arr2_Str.mk (ix a0 v38) (ix a0 v41))) (z0 := (0 : Int)) eArr2_Str_key rfl rfl rfl rfl) ?_
      refine jk 5 (.d (.k4 (.k4 (.k4 (.k4 (.k3 (.i 24 (vi (Option.getD (List.lookup (Arr2_Str.mk (ix a0 v38) (ix a0 v41)) v42) (0 : Int))) (.i 25 (vb (Option.isSome (List.lookup (Arr2_Str.mk (ix a0 v38) (ix a0 v41)) v42))) .n)))))))) ?_
      refine sj ?_
      refine rk 2 (.k4 (.k4 (.k4 (.k4 (.d (.k4 (.i 138 (vb (Option.isSome (List.lookup (Arr2_Str.mk (ix a0 v38) (ix a0 v31)) v42))) .n))))))) ?_
      refine gj (vb (Option.isSome (List.lookup (Arr2_Str.mk (ix a0 v31) (ix a0 v41)) v42))) 139 (.mov 23) 138 true rfl ?_
      refine pa 140 138 139 rfl rfl ?_
      refine rk 1 (.d2 (.k4 (.k4 (.k4 (.k4 (.k (.d (.k2 (.i 139 (.cond (Option.isSome (List.lookup (Arr2_Str.mk (ix a0 v38) (ix a0 v31)) v42)) (vb (Option.isSome (List.lookup (Arr2_Str.mk (ix a0 v31) (ix a0 v41)) v42)))) (.i 141 (vb ((Option.isSome (List.lookup (Arr2_Str.mk (ix a0 v38) (ix a0 v31)) v42)) && (Option.isSome (List.lookup (Arr2_Str.mk (ix a0 v31) (ix a0 v41)) v42)))) .n)))))))))) ?_
      refine gj (vb (Option.isSome (List.lookup (Arr2_Str.mk (ix a0 v38) (ix a0 v41)) v42))) 142 (.mov 25) 141 true rfl ?_
      refine gk (vb (!(Option.isSome (List.lookup (Arr2_Str.mk (ix a0 v38) (ix a0 v41)) v42)))) 143 (.un .not 142) 141 true rfl (fun hg => (.cons hg .nil)) ?_
      refine gk (vb (!(Option.isSome (List.lookup (Arr2_Str.mk (ix a0 v38) (ix a0 v41)) v42)))) 144 (.mov 143) 141 true rfl (fun hg => (.cons hg .nil)) ?_
      refine gj (vi (Option.getD (List.lookup (Arr2_Str.mk (ix a0 v38) (ix a0 v31)) v42) (0 : Int))) 145 (.mov 20) 144 false rfl ?_
      refine gj (vi (Option.getD (List.lookup (Arr2_Str.mk (ix a0 v31) (ix a0 v41)) v42) (0 : Int))) 146 (.mov 22) 144 false rfl ?_
      refine cK h fun c12 h => ?_
      refine gv 147 (.bin .add false 145 146) 144 false rfl (fun hg => (r_add rfl rfl (gor c12 hg))) (fun hg => (.cons hg (.cons hg .nil))) ?_
      refine gj (vi (Option.getD (List.lookup (Arr2_Str.mk (ix a0 v38) (ix a0 v41)) v42) (0 : Int))) 148 (.mov 24) 144 false rfl ?_
      refine gk (vb (decide (((Option.getD (List.lookup (Arr2_Str.mk (ix a0 v38) (ix a0 v31)) v42) (0 : Int)) + (Option.getD (List.lookup (Arr2_Str.mk (ix a0 v31) (ix a0 v41)) v42) (0 : Int))) < (Option.getD (List.lookup (Arr2_Str.mk (ix a0 v38) (ix a0 v41)) v42) (0 : Int))))) 149 (.bin .lss false 147 148) 144 false rfl (fun hg => (.cons hg (.cons hg .nil))) ?_
      refine RegJ.op (Op1.org (g := (Option.isSome (List.lookup (Arr2_Str.mk (ix a0 v38) (ix a0 v31)) v42)) && (Option.isSome (List.lookup (Arr2_Str.mk (ix a0 v31) (ix a0 v41)) v42))) (cy (IG 150 (.pick 144 (.c (.p (.bool true))) 149) 141 true)) rfl rfl rfl (fun hg => by first | exact hokO2 hg | exact hokO3 hg | exact hokO1 | exact hokO0 | (rw [hg]; simp) | simp_all)) ?_
      refine pa 151 141 150 rfl rfl ?_
      refine jf (.d4 (.d4 (.d2 (.k4 (.k4 (.k4 (.k4 (.k (.i 151 (vb (((Option.isSome (List.lookup (Arr2_Str.mk (ix a0 v38) (ix a0 v31)) v42)) && (Option.isSome (List.lookup (Arr2_Str.mk (ix a0 v31) (ix a0 v41)) v42))) && ((!(Option.isSome (List.lookup (Arr2_Str.mk (ix a0 v38) (ix a0 v41)) v42))) || (decide (((Option.getD (List.lookup (Arr2_Str.mk (ix a0 v38) (ix a0 v31)) v42) (0 : Int)) + (Option.getD (List.lookup (Arr2_Str.mk (ix a0 v31) (ix a0 v41)) v42) (0 : Int))) < (Option.getD (List.lookup (Arr2_Str.mk (ix a0 v38) (ix a0 v41)) v42) (0 : Int))))))) .n))))))))) ?_
      refine tc h (fun c13 h => ?_) (fun c13 h => ?_)
      ·refine q6 ?_
       refine rk 6 (.k4 (.k4 (.k4 (.k2 (.i 152 (.map 2) (.i 155 (.agg [vt (ix a0 v38), vt (ix a0 v41)]) (.i 156 (vi (Option.getD (List.lookup (Arr2_Str.mk (ix a0 v38) (ix a0 v31)) v42) (0 : Int))) (.i 157 (vi (Option.getD (List.lookup (Arr2_Str.mk (ix a0 v31) (ix a0 v41)) v42) (0 : Int))) .n)))))))) ?_
       refine cK h fun c14 h => ?_
       refine jo 158 (.bin .add false 156 157) (r_add rfl rfl c14) ?_
       refine jn (.mapset2 152 155 158) _ (ok_mset_a (l := v42) (ek := eArr2_Str) (ev := vi) (k := (Arr2_Str.mk (ix a0 v38) (ix a0 v41))) (v := (Option.getD (List.lookup (Arr2_Str.mk (ix a0 v38) (ix a0 v31)) v42) (0 : Int)) + (Option.getD (List.lookup (Arr2_Str.mk (ix a0 v31) (ix a0 v41)) v42) (0 : Int))) eArr2_Str_key rfl rfl rfl rfl) rfl rfl ?_
       refine jf (.d (.k4 (.k4 (.k4 (.k2 .n))))) ?_
       exact Vs.intro Sees.refl ⟨(mPut (Arr2_Str.mk (ix a0 v38) (ix a0 v41)) ((Option.getD (List.lookup (Arr2_Str.mk (ix a0 v38) (ix a0 v31)) v42) (0 : Int)) + (Option.getD (List.lookup (Arr2_Str.mk (ix a0 v31) (ix a0 v41)) v42) (0 : Int))) v42), rfl, h⟩
      refine q2 ?_
      exact Vs.intro sy ⟨v42, rfl, h⟩
     refine q5 ?_
     exact Vs.intro sy ⟨v42, rfl, h⟩
    refine q5 ?_
    exact Vs.intro sy ⟨v39, rfl, h⟩
   refine q5 ?_
   exact Vs.intro sy ⟨v32, rfl, h⟩
  intro k5 h
  refine sj ?_
  refine rk 5 (.k3 (.i 42 (eS 1 vt a0) .n)) ?_
  refine jo 43 (.len 0 42) (ok_len_m rfl) ?_
  refine jk 1 (.d (.k4 (.i 43 (vi (a0.length : Int)) (.i 44 (vi 0) .n)))) ?_
  refine q4 ?_
  refine ts (.k4 (.k (.i 44 (vi 0) .n))) ?_
  refine TriE.loopN h (fun (t : Nat × (List (Arr2_Str × Int))) => match t with | (v8, v9) => St.mk [(0, .ptr 0 0 0), (1, vi a7), (7, .map 2), (42, eS 1 vt a0), (43, vi (a0.length : Int)), (44, vi v8)] [some (.row 7 [.agg [eS 1 vt a0, eS 1 vt a1, eS 4 eRoad a2, eS 3 eGrand a3, vi a4, vi a5, .map 1]]), some (.mp (mpE vi (eM eArr2_Str vi) a6)), some (.mp (mpE eArr2_Str vi v9))]) rfl ?_
  clear h
  rintro back ⟨v8, v9⟩ h
  dsimp only [diary_plan_distances_L2] at h
  refine sj ?_
  refine jo 45 (.bin .lss false 44 43) (n_lss (i := v8) (j := a0.length) rfl rfl) ?_
  refine jf (.d (.k4 (.k2 (.i 45 (vb (decide (v8 < a0.length))) .n)))) ?_
  refine q1 ?_
  refine tc h (fun c4 h => ?_) (fun c4 h => ?_)
  ·refine q2 ?_
   refine TriE.seqK h (fun (v16 : (List (Arr2_Str × Int))) => St.mk [(0, .ptr 0 0 0), (1, vi a7), (7, .map 2), (42, eS 1 vt a0), (43, vi (a0.length : Int)), (44, vi v8)] [some (.row 7 [.agg [eS 1 vt a0, eS 1 vt a1, eS 4 eRoad a2, eS 3 eGrand a3, vi a4, vi a5, .map 1]]), some (.mp (mpE vi (eM eArr2_Str vi) a6)), some (.mp (mpE eArr2_Str vi v16))]) ?_ ?_
   ·rintro v16 h
    refine q6 ?_
    refine cK h fun c8 h => ?_
    refine jo 82 (.bin .add false 44 (ki 1)) (r_addn (i := v8) (j := 1) rfl rfl c8) ?_
    refine jk 1 (.d (.k4 (.k (.i 44 (vi ((v8 + 1 : Nat) : Int)) .n)))) ?_
    exact Vs.intro sy ⟨(v8 + 1, v16), rfl, h⟩
   intro k4 h
   refine q4 ?_
   refine sj ?_
   refine jo 46 (.iaddr 1 42 44) (ok_iaddr_m (j := v8) rfl rfl rfl c4) ?_
   refine jo 47 (.load false 1 46) (ok_load_fm (v := vt (ix a0 v8)) rfl c4 rfl) ?_
   refine jk 1 (.d2 (.k4 (.k2 (.i 9 (vt (ix a0 v8)) .n)))) ?_
   refine sj ?_
   refine rk 4 (.k4 (.k3 (.i 48 (.map 2) (.i 51 (.agg [vt (ix a0 v8), vt (ix a0 v8)]) .n)))) ?_
   refine jn (.mapset2 48 51 (ki 0)) _ (ok_mset_a (l := v9) (ek := eArr2_Str) (ev := vi) (k := (Arr2_Str.mk (ix a0 v8) (ix a0 v8))) (v := 0) eArr2_Str_key rfl rfl rfl rfl) rfl rfl ?_
   refine jf (.k4 (.k3 .n)) ?_
   refine sj ?_
   refine rk 5 (.k4 (.k3 (.i 56 (eS 1 vt a0) .n))) ?_
   refine jo 57 (.len 0 56) (ok_len_m rfl) ?_
   refine jk 1 (.d (.k4 (.k4 (.i 57 (vi (a0.length : Int)) (.i 58 (vi 0) .n))))) ?_
   refine q4 ?_
   refine ts (.k4 (.k4 (.k (.i 58 (vi 0) .n)))) ?_
   refine TriE.loopN h (fun (t : Nat × (List (Arr2_Str × Int))) => match t with | (v12, v13) => St.mk [(0, .ptr 0 0 0), (1, vi a7), (7, .map 2), (42, eS 1 vt a0), (43, vi (a0.length : Int)), (44, vi v8), (9, vt (ix a0 v8)), (56, eS 1 vt a0), (57, vi (a0.length : Int)), (58, vi v12)] [some (.row 7 [.agg [eS 1 vt a0, eS 1 vt a1, eS 4 eRoad a2, eS 3 eGrand a3, vi a4, vi a5, .map 1]]), some (.mp (mpE vi (eM eArr2_Str vi) a6)), some (.mp (mpE eArr2_Str vi v13))]) rfl ?_
   clear h
   rintro back ⟨v12, v13⟩ h
   dsimp only [diary_plan_distances_L1] at h
   refine sj ?_
   refine jo 59 (.bin .lss false 58 57) (n_lss (i := v12) (j := a0.length) rfl rfl) ?_
   refine jf (.d (.k4 (.k4 (.k2 (.i 59 (vb (decide (v12 < a0.length))) .n))))) ?_
   refine q1 ?_
   refine tc h (fun c5 h => ?_) (fun c5 h => ?_)
   ·refine q2 ?_
    refine TriE.seqK h (fun (v15 : (List (Arr2_Str × Int))) => St.mk [(0, .ptr 0 0 0), (1, vi a7), (7, .map 2), (42, eS 1 vt a0), (43, vi (a0.length : Int)), (44, vi v8), (9, vt (ix a0 v8)), (56, eS 1 vt a0), (57, vi (a0.length : Int)), (58, vi v12)] [some (.row 7 [.agg [eS 1 vt a0, eS 1 vt a1, eS 4 eRoad a2, eS 3 eGrand a3, vi a4, vi a5, .map 1]]), some (.mp (mpE vi (eM eArr2_Str vi) a6)), some (.mp (mpE eArr2_Str vi v15))]) ?_ ?_
    ·rintro v15 h
     refine q6 ?_
     refine cK h fun c7 h => ?_
     refine jo 81 (.bin .add false 58 (ki 1)) (r_addn (i := v12) (j := 1) rfl rfl c7) ?_
     refine jk 1 (.d (.k4 (.k4 (.k (.i 58 (vi ((v12 + 1 : Nat) : Int)) .n))))) ?_
     exact Vs.intro sy ⟨(v12 + 1, v15), rfl, h⟩
    intro k3 h
    refine q4 ?_
    refine sj ?_
    refine jo 60 (.iaddr 1 56 58) (ok_iaddr_m (j := v12) rfl rfl rfl c5) ?_
    refine jo 61 (.load false 1 60) (ok_load_fm (v := vt (ix a0 v12)) rfl c5 rfl) ?_
    refine jk 1 (.d2 (.k4 (.k4 (.k2 (.i 11 (vt (ix a0 v12)) .n))))) ?_
    refine sj ?_
    refine rk 4 (.k4 (.k4 (.k3 (.i 63 (.ptr 0 0 0) (.i 64 (vt (ix a0 v8)) (.i 65 (vt (ix a0 v12)) (.i 66 (vi a7) .n))))))) ?_
    refine bK h fun y14 hy14 h => ?_
    refine jco (.tup [vi y14.1, vb y14.2]) 67 [63, 64, 65, 66] (diary_plan_joined_ok n a0 a1 a2 a3 a4 a5 a6 (ix a0 v8) (ix a0 v12) a7 y14 hy14) [0, 1] rfl (.cons rfl (.same (mp_ren vi_frz (eM_frz eArr2_Str vi) _ _) .nil)) (.cons rfl (.same (mp_ren vi_frz (eM_frz eArr2_Str vi) _ _) .nil)) rfl ?_
    refine jk 5 (.d (.k4 (.k4 (.k3 (.i 12 (vi y14.1) (.i 13 (vb y14.2) .n)))))) ?_
    refine sj ?_
    refine rk 2 (.k4 (.k4 (.k4 (.i 71 (vb y14.2) .n)))) ?_
    refine gj (vt (ix a0 v8)) 72 (.mov 9) 71 true rfl ?_
    refine gj (vt (ix a0 v12)) 73 (.mov 11) 71 true rfl ?_
    refine gk (vb (!((ix a0 v8) == (ix a0 v12)))) 74 (.bin .neq false 72 73) 71 true rfl (fun hg => (.cons hg (.cons hg .nil))) ?_
    refine pa 75 71 74 rfl rfl ?_
    refine jf (.d4 (.k4 (.k4 (.k4 (.i 75 (vb (y14.2 && (!((ix a0 v8) == (ix a0 v12))))) .n))))) ?_
    refine tc h (fun c6 h => ?_) (fun c6 h => ?_)
    ·refine q6 ?_
     refine rk 5 (.k4 (.k4 (.k2 (.i 76 (.map 2) (.i 79 (.agg [vt (ix a0 v8), vt (ix a0 v12)]) (.i 80 (vi y14.1) .n)))))) ?_
     refine jn (.mapset2 76 79 80) _ (ok_mset_a (l := v13) (ek := eArr2_Str) (ev := vi) (k := (Arr2_Str.mk (ix a0 v8) (ix a0 v12))) (v := y14.1) eArr2_Str_key rfl rfl rfl rfl) rfl rfl ?_
     refine jf (.k4 (.k4 (.k2 .n))) ?_
     exact Vs.intro Sees.refl ⟨(mPut (Arr2_Str.mk (ix a0 v8) (ix a0 v12)) y14.1 v13), rfl, h⟩
    refine q2 ?_
    exact Vs.intro sy ⟨v13, rfl, h⟩
   refine q5 ?_
   exact Vs.intro sy ⟨v13, rfl, h⟩
  refine q5 ?_
  exact Vs.intro sy ⟨v9, rfl, h⟩
 intro k1 k2 h
 refine q6 ?_
 refine rk 5 (.k2 (.i 30 (.map 1) (.i 31 (vi a7) .n))) ?_
 rcases Bool.eq_false_or_eq_true ((Option.isSome (List.lookup a7 a6))) with c1 | c1
 ·have h := cond_t h c1
  refine jo 32 (.lookup false (.p (.map none)) true 30 31) (ok_lkS_i (l := a6) (ev := (eM eArr2_Str vi)) (z0 := ([] : List (Arr2_Str × Int))) rfl rfl rfl c1) ?_
  refine jk 5 (.d (.k2 (.i 5 (eM eArr2_Str vi (Option.getD (List.lookup a7 a6) ([] : List (Arr2_Str × Int)))) (.i 6 (vb true) .n)))) ?_
  exact Vs.intro Sees.refl (.inl ⟨(), rfl, h⟩)
 have h := cond_f h c1
 refine jo 32 (.lookup false (.p (.map none)) true 30 31) (ok_lkN_i (l := a6) (ev := (eM eArr2_Str vi)) rfl rfl rfl c1) ?_
 refine jk 5 (.d (.k2 (.i 5 (.p (.map none)) (.i 6 (vb false) .n)))) ?_
 exact Vs.intro Sees.refl (.inr ⟨(), rfl, h⟩)
theorem diary_plan_distance_ok (n : Nat) (a0 : List Str) (a1 : List Str) (a2 : List Road) (a3 : List Grand) (a4 : Int) (a5 : Int) (a6 : List (Int × List (Arr2_Str × Int))) (a7 : Str) (a8 : Str) (a9 : Int) (r : Int × Bool × (List (Int × List (Arr2_Str × Int)))) (h : diary_plan_distance n a0 a1 a2 a3 a4 a5 a6 a7 a8 a9 = some r) : FnL Try.prog 75 [.ptr 0 0 0, vt a7, vt a8, vi a9] [some (.row 7 [.agg [eS 1 vt a0, eS 1 vt a1, eS 4 eRoad a2, eS 3 eGrand a3, vi a4, vi a5, .map 1]]), some (.mp (mpE vi (eM eArr2_Str vi) a6))] (.tup [vi r.1, vb r.2.1]) [some (.row 7 [.agg [eS 1 vt a0, eS 1 vt a1, eS 4 eRoad a2, eS 3 eGrand a3, vi a4, vi a5, .map 1]]), some (.mp (mpE vi (eM eArr2_Str vi) r.2.2))] := by
 dsimp only [diary_plan_distance] at h
 refine fob [8, 9] Try.call75 Try.func75 rfl (.cons rfl (.cons rfl .nil)) ?_
 refine sk .a ?_
 refine sj ?_
 refine rk 2 (.d (.k2 (.i 13 (.ptr 0 0 0) (.i 14 (vi a9) .n)))) ?_
 refine bK h fun y1 hy1 h => ?_
 refine jco (eM eArr2_Str vi y1.1) 15 [13, 14] (diary_plan_distances_ok n a0 a1 a2 a3 a4 a5 a6 a9 y1 hy1) [0, 1] rfl (.cons rfl (.same (mp_ren vi_frz (eM_frz eArr2_Str vi) _ _) .nil)) (.cons rfl (.same (mp_ren vi_frz (eM_frz eArr2_Str vi) _ _) .nil)) rfl ?_
 refine rk 3 (.k (.i 18 (.agg [vt a7, vt a8]) .n)) ?_
 refine jo 19 (.lookup2 (.p (.int .i64 0)) true 15 18) (ok_lk2_f (l := y1.1) (ek := eArr2_Str) (ev := vi) (k := (Arr2_Str.mk a7 a8)) (z0 := (0 : Int)) eArr2_Str_key rfl rfl rfl) ?_
 refine jk 5 (.i 10 (vi (Option.getD (List.lookup (Arr2_Str.mk a7 a8) y1.1) (0 : Int))) (.i 11 (vb (Option.isSome (List.lookup (Arr2_Str.mk a7 a8) y1.1))) .n)) ?_
 refine sk (.i 8 (vi (Option.getD (List.lookup (Arr2_Str.mk a7 a8) y1.1) (0 : Int))) (.i 9 (vb (Option.isSome (List.lookup (Arr2_Str.mk a7 a8) y1.1))) .n)) ?_
 refine q3 ?_
 have h := si h
 subst h
 exact DoneS.ret Sees.refl rfl rfl
theorem agraffelaw09_Evening_ok (n : Nat)  (r : Unit) (h : agraffelaw09_Evening n  = some r) : FnL Try.prog 60 [] [] (eS 7 eItem ([(Item.mk 1 0 40 ([103] : Str) ([104, 97, 108, 108] : Str) ([] : Str) 0), (Item.mk 0 50 110 ([103] : Str) ([104, 97, 108, 108] : Str) ([97, 110, 110] : Str) 0), (Item.mk 2 200 300 ([103] : Str) ([104, 97, 108, 108] : Str) ([] : Str) 0)] : List Item)) [] := by
 dsimp only [agraffelaw09_Evening] at h
 refine fo [0] Try.call60 Try.func60 rfl ?_
 refine sk .n ?_
 refine sko (.i 0 (.own 0 0 3) .n) [some (.row 7 [.agg [vi 1, vi 0, vi 40, vt ([103] : Str), vt ([104, 97, 108, 108] : Str), vt ([] : Str), vi 0], .agg [vi 0, vi 50, vi 110, vt ([103] : Str), vt ([104, 97, 108, 108] : Str), vt ([97, 110, 110] : Str), vi 0], .agg [vi 2, vi 200, vi 300, vt ([103] : Str), vt ([104, 97, 108, 108] : Str), vt ([] : Str), vi 0]])] ?_
 refine q3 ?_
 have h := si h
 subst h
 exact DoneS.ret (S' := ⟨[(0, eS 7 eItem ([(Item.mk 1 0 40 ([103] : Str) ([104, 97, 108, 108] : Str) ([] : Str) 0), (Item.mk 0 50 110 ([103] : Str) ([104, 97, 108, 108] : Str) ([97, 110, 110] : Str) 0), (Item.mk 2 200 300 ([103] : Str) ([104, 97, 108, 108] : Str) ([] : Str) 0)] : List Item))], []⟩) (Sees.trans (Sees.freeze 0 (fr' := [(0, eS 7 eItem ([(Item.mk 1 0 40 ([103] : Str) ([104, 97, 108, 108] : Str) ([] : Str) 0), (Item.mk 0 50 110 ([103] : Str) ([104, 97, 108, 108] : Str) ([97, 110, 110] : Str) 0), (Item.mk 2 200 300 ([103] : Str) ([104, 97, 108, 108] : Str) ([] : Str) 0)] : List Item))]) (ob' := [none]) rfl (frzs_cons rfl (frzs_cons rfl (frzs_cons rfl frzs_nil))) (.cons (.own rfl (Nat.le_of_ble_eq_true rfl)) .nil) rfl) (sc [] (by decide) (by kernel_rfl) ObRen.nil rfl rfl)) rfl rfl
theorem diary_plan_accept_ok (n : Nat) (a0 : List Item) (r : Int × Int) (h : diary_plan_accept n a0 = some r) : FnL Try.prog 73 [.p (.pointer none), eS 7 eItem a0] [] (.tup [vi r.1, vi r.2]) [] := by
 dsimp only [diary_plan_accept] at h
 refine fo [4, 5] Try.call73 Try.func73 rfl ?_
 refine sk .a ?_
 refine q1 ?_
 refine sj ?_
 refine rk 1 (.k2 (.i 12 (eS 7 eItem a0) .n)) ?_
 refine jo 13 (.len 0 12) (ok_len_m rfl) ?_
 refine jo 14 (.bin .gtr false 13 (ki 100)) (n_gtr (i := a0.length) (j := 100) rfl rfl) ?_
 refine jf (.d2 (.k2 (.i 14 (vb (decide (100 < a0.length))) .n))) ?_
 refine tc h (fun c1 h => ?_) (fun c1 h => ?_)
 ·refine sk (.i 4 (vi 0) (.i 5 (vi 8) .n)) ?_
  refine q3 ?_
  have h := si h
  subst h
  exact DoneS.ret Sees.refl rfl rfl
 refine q2 ?_
 refine TriE.seqK h (fun (_ : Unit) => St.mk [] []) ?_ ?_
 ·rintro ⟨⟩ h
  refine sk (.i 4 (vi (-1)) (.i 5 (vi 0) .n)) ?_
  refine q3 ?_
  have h := si h
  subst h
  exact DoneS.ret Sees.refl rfl rfl
 intro k1 h
 refine sj ?_
 refine rk 1 (.k2 (.i 15 (eS 7 eItem a0) .n)) ?_
 refine jo 16 (.len 0 15) (ok_len_m rfl) ?_
 refine jk 1 (.d (.k3 (.i 16 (vi (a0.length : Int)) (.i 17 (vi 0) .n)))) ?_
 refine q4 ?_
 refine TriE.loopN h (fun (_ : Unit) => St.mk [(0, .p (.pointer none)), (1, eS 7 eItem a0), (15, eS 7 eItem a0), (16, vi (a0.length : Int)), (17, vi 0)] []) rfl ?_
 clear h
 rintro back ⟨⟩ h
 dsimp only [diary_plan_accept_L1] at h
 refine sj ?_
 refine jo 18 (.bin .lss false 17 16) (n_lss (i := 0) (j := a0.length) rfl rfl) ?_
 refine jf (.d (.k4 (.k (.i 18 (vb (decide (0 < a0.length))) .n)))) ?_
 refine q1 ?_
 refine tc h (fun c2 h => ?_) (fun c2 h => ?_)
 ·refine q2 ?_
  refine q7 ?_
  refine sj ?_
  refine rk 1 (.k4 (.k (.i 19 (vi 0) .n))) ?_
  refine jo 20 (.iaddr 7 15 17) (ok_iaddr_m (j := 0) rfl rfl rfl c2) ?_
  refine jo 21 (.load true 7 20) (ok_load_fm (v := .agg [vi ((ix a0 0).Kind), vi ((ix a0 0).From), vi ((ix a0 0).To), vt ((ix a0 0).Grand), vt ((ix a0 0).Place), vt ((ix a0 0).Who), vi ((ix a0 0).Deposit)]) rfl c2 rfl) ?_
  refine jko 3 (.d2 (.k4 (.k (.i 7 (.ptr 0 0 0) (.i 6 (vi 0) .n))))) [some (.row 7 [.agg [vi ((ix a0 0).Kind), vi ((ix a0 0).From), vi ((ix a0 0).To), vt ((ix a0 0).Grand), vt ((ix a0 0).Place), vt ((ix a0 0).Who), vi ((ix a0 0).Deposit)]])] ?_
  refine q1 ?_
  refine q1 ?_
  refine ts .a ?_
  refine TriE.draw (by kernel_rfl) ?_
  refine dk 1 (.i 22 (.p (.pointer none)) .a) ?_
  cases h
 refine q5 ?_
 exact Vs.intro sy ⟨(), rfl, h⟩
theorem diary_grand_f1_ok (n : Nat) (a0 : Grand) (a1 : Str) (r : Unit) (h : diary_grand_f1 n a0 a1 = some r) : FnL Try.prog 120 [.agg [vt a0.Name, vt a0.Place, vi a0.Width], .ptr 0 0 0] [some (.row 1 [vt a1])] (vb (a0.Name == a1)) [some (.row 1 [vt a1])] := by
 dsimp only [diary_grand_f1] at h
 refine fob [3] Try.call120 Try.func120 rfl (.cons rfl .nil) ?_
 refine sko (.d (.k (.i 2 (.ptr 1 0 0) .n))) [some (.row 1 [vt a1]), some (.row 3 [.agg [vt a0.Name, vt a0.Place, vi a0.Width]])] ?_
 refine sk (.i 3 (vb (a0.Name == a1)) .n) ?_
 refine q3 ?_
 have h := si h
 subst h
 exact DoneS.ret (S' := ⟨[(3, vb (a0.Name == a1))], [some (.row 1 [vt a1])]⟩) (sc [0] (by decide) (by kernel_rfl) (.cons rfl .nil) rfl rfl) rfl rfl
theorem slices_IndexFunc_Grand_ok (n : Nat) (a0 : List Grand) (a1 : Str) (r : Int) (h : slices_IndexFunc_Grand n a0 a1 = some r) : FnL Try.prog 119 [eS 3 eGrand a0, .fn (.func 120) [] [.ptr 0 0 0]] [some (.row 1 [vt a1])] (vi r) [some (.row 1 [vt a1])] := by
 dsimp only [slices_IndexFunc_Grand] at h
 refine fob [4] Try.call119 Try.func119 rfl (.cons rfl .nil) ?_
 refine sk .a ?_
 refine TriE.seqK h (fun (_ : Unit) => St.mk [] [some (.row 1 [vt a1])]) ?_ ?_
 ·rintro ⟨⟩ h
  refine sk (.i 4 (vi (-1)) .n) ?_
  refine q3 ?_
  have h := si h
  subst h
  exact DoneS.ret Sees.refl rfl rfl
 intro k1 h
 refine sj ?_
 refine rk 1 (.k2 (.i 6 (eS 3 eGrand a0) .n)) ?_
 refine jo 7 (.len 0 6) (ok_len_m rfl) ?_
 refine jk 1 (.d (.k2 (.i 7 (vi (a0.length : Int)) (.i 8 (vi 0) .n)))) ?_
 refine q4 ?_
 refine ts (.k3 (.i 8 (vi 0) .n)) ?_
 refine TriE.loopN h (fun (v2 : Nat) => St.mk [(0, eS 3 eGrand a0), (1, .fn (.func 120) [] [.ptr 0 0 0]), (7, vi (a0.length : Int)), (8, vi v2)] [some (.row 1 [vt a1])]) rfl ?_
 clear h
 rintro back v2 h
 dsimp only [slices_IndexFunc_Grand_L1] at h
 refine sj ?_
 refine jo 9 (.bin .lss false 8 7) (n_lss (i := v2) (j := a0.length) rfl rfl) ?_
 refine jf (.d (.k4 (.i 9 (vb (decide (v2 < a0.length))) .n))) ?_
 refine q1 ?_
 refine tc h (fun c1 h => ?_) (fun c1 h => ?_)
 ·refine q2 ?_
  refine q7 ?_
  refine sk (.k4 (.i 5 (vi v2) .n)) ?_
  refine sj ?_
  refine rk 3 (.k4 (.k (.i 11 (.fn (.func 120) [] [.ptr 0 0 0]) (.i 12 (eS 3 eGrand a0) (.i 13 (vi v2) .n))))) ?_
  refine jo 14 (.iaddr 3 12 13) (ok_iaddr_m (j := v2) rfl rfl rfl c1) ?_
  refine jo 15 (.load true 3 14) (ok_load_fm (v := .agg [vt ((ix a0 v2).Name), vt ((ix a0 v2).Place), vi ((ix a0 v2).Width)]) rfl c1 rfl) ?_
  refine bK h fun y3 hy3 h => ?_
  refine jy (vb ((ix a0 v2).Name == a1)) 16 11 [15] rfl (diary_grand_f1_ok n (ix a0 v2) a1 y3 hy3) [0] rfl (.cons rfl .nil) (.cons rfl .nil) rfl ?_
  refine jf (.d3 (.k4 (.k (.i 16 (vb ((ix a0 v2).Name == a1)) .n)))) ?_
  refine tc h (fun c2 h => ?_) (fun c2 h => ?_)
  ·refine sk (.i 4 (vi v2) .n) ?_
   refine q3 ?_
   have h := si h
   subst h
   exact DoneS.ret Sees.refl rfl rfl
  refine q2 ?_
  refine q6 ?_
  refine cK h fun c3 h => ?_
  refine jo 18 (.bin .add false 8 (ki 1)) (r_addn (i := v2) (j := 1) rfl rfl c3) ?_
  refine jk 1 (.d (.k3 (.i 8 (vi ((v2 + 1 : Nat) : Int)) .n))) ?_
  exact Vs.intro sy ⟨(v2 + 1), rfl, h⟩
 refine q5 ?_
 exact Vs.intro sy ⟨(), rfl, h⟩
theorem diary_grand_ok (n : Nat) (a0 : Diary) (a1 : Str) (r : Str × Str × Int × Bool) (h : diary_grand n a0 a1 = some r) : FnL Try.prog 95 [.agg [eS 1 vt a0.Places, eS 1 vt a0.Technicians, eS 4 eRoad a0.Roads, eS 3 eGrand a0.Grands, vi a0.Change, vi a0.Lasts], vt a1] [] (.tup [.agg [vt r.1, vt r.2.1, vi r.2.2.1], vb r.2.2.2]) [] := by
 dsimp only [diary_grand] at h
 refine FnL.ofC [.cell 4 98, .tmp 5] Try.call95 Try.func95 rfl .nil ?_ (hl := rfl)
 refine sko (.i 2 (.ptr 0 0 0) (.i 3 (.ptr 1 0 0) (.i 4 (.ptr 2 0 0) .n))) [some (.row 6 [.agg [eS 1 vt a0.Places, eS 1 vt a0.Technicians, eS 4 eRoad a0.Roads, eS 3 eGrand a0.Grands, vi a0.Change, vi a0.Lasts]]), some (.row 1 [vt a1]), some (.row 3 [.agg [vt ([] : Str), vt ([] : Str), vi 0]])] ?_
 refine sj ?_
 refine rk 3 (.k (.d (.k (.i 8 (eS 3 eGrand a0.Grands) (.i 9 (.fn (.func 120) [] [.ptr 1 0 0]) .n))))) ?_
 refine bK h fun y1 hy1 h => ?_
 refine jco (vi y1) 10 [8, 9] (slices_IndexFunc_Grand_ok n a0.Grands a1 y1 hy1) [1] rfl (.cons rfl .nil) (.cons rfl .nil) rfl ?_
 refine jk 1 (.d (.k2 (.i 6 (vi y1) .n))) ?_
 refine q1 ?_
 refine sk (.k3 (.i 12 (vb (decide (y1 < (0 : Int)))) .n)) ?_
 refine tc h (fun c1 h => ?_) (fun c1 h => ?_)
 ·refine sk (.d (.k (.i 5 (vb false) .n))) ?_
  refine q3 ?_
  have h := si h
  subst h
  exact DoneC.ret (S' := ⟨[(4, .agg [vt ([] : Str), vt ([] : Str), vi 0]), (5, vb false)], []⟩) [.agg [vt ([] : Str), vt ([] : Str), vi 0], vb false] (sc [] (by decide) (by kernel_rfl) ObRen.nil rfl rfl) rfl rfl
 refine q2 ?_
 refine sj ?_
 refine rk 3 (.d (.k (.i 15 (eS 3 eGrand a0.Grands) (.i 16 (vi y1) .n)))) ?_
 refine cK h fun c2 h => ?_
 refine jo 17 (.iaddr 3 15 16) (ok_iaddr_m (j := y1.toNat) rfl rfl (inB_to c2) (inB_lt c2)) ?_
 refine cK h fun c3 h => ?_
 refine jo 18 (.load true 3 17) (ok_load_fm (v := .agg [vt ((ix a0.Grands y1.toNat).Name), vt ((ix a0.Grands y1.toNat).Place), vi ((ix a0.Grands y1.toNat).Width)]) rfl c3 rfl) ?_
 refine jko 2 (.d2 (.k (.i 5 (vb true) .n))) [some (.row 6 [.agg [eS 1 vt a0.Places, eS 1 vt a0.Technicians, eS 4 eRoad a0.Roads, eS 3 eGrand a0.Grands, vi a0.Change, vi a0.Lasts]]), some (.row 1 [vt a1]), some (.row 3 [.agg [vt ((ix a0.Grands y1.toNat).Name), vt ((ix a0.Grands y1.toNat).Place), vi ((ix a0.Grands y1.toNat).Width)]])] ?_
 refine q3 ?_
 have h := si h
 subst h
 exact DoneC.ret (S' := ⟨[(4, .agg [vt ((ix a0.Grands y1.toNat).Name), vt ((ix a0.Grands y1.toNat).Place), vi ((ix a0.Grands y1.toNat).Width)]), (5, vb true)], []⟩) [.agg [vt ((ix a0.Grands y1.toNat).Name), vt ((ix a0.Grands y1.toNat).Place), vi ((ix a0.Grands y1.toNat).Width)], vb true] (sc [] (by decide) (by kernel_rfl) ObRen.nil rfl rfl) rfl rfl
theorem diary_isMinute_ok (n : Nat) (a0 : Int) (r : Unit) (h : diary_isMinute n a0 = some r) : FnL Try.prog 96 [vi a0] [] (vb ((decide (0 ≤ a0)) && (decide (a0 ≤ 1000000)))) [] := by
 dsimp only [diary_isMinute] at h
 refine fo [2] Try.call96 Try.func96 rfl ?_
 refine sk .a ?_
 refine sj ?_
 refine rk 1 (.i 3 (vi a0) .n) ?_
 refine bK h fun y1 hy1 h => ?_
 refine jc 4 [3, (ki 0), (ki 1000000)] (diary_within_ok n a0 0 1000000 y1 hy1) ?_
 refine jk 1 (.i 2 (vb ((decide (0 ≤ a0)) && (decide (a0 ≤ 1000000)))) .n) ?_
 refine q3 ?_
 have h := si h
 subst h
 exact DoneS.ret Sees.refl rfl rfl
set_option maxHeartbeats 1000000 in
theorem diary_checkItem_ok (n : Nat) (a0 : Diary) (a1 : Item) (r : Int) (h : diary_checkItem n a0 a1 = some r) : FnL Try.prog 65 [.agg [eS 1 vt a0.Places, eS 1 vt a0.Technicians, eS 4 eRoad a0.Roads, eS 3 eGrand a0.Grands, vi a0.Change, vi a0.Lasts], .agg [vi a1.Kind, vi a1.From, vi a1.To, vt a1.Grand, vt a1.Place, vt a1.Who, vi a1.Deposit]] [] (vi r) [] := by
 dsimp only [diary_checkItem] at h
 refine fo [4] Try.call65 Try.func65 rfl ?_
 refine sko (.i 2 (.ptr 0 0 0) (.i 3 (.ptr 1 0 0) .n)) [some (.row 6 [.agg [eS 1 vt a0.Places, eS 1 vt a0.Technicians, eS 4 eRoad a0.Roads, eS 3 eGrand a0.Grands, vi a0.Change, vi a0.Lasts]]), some (.row 7 [.agg [vi a1.Kind, vi a1.From, vi a1.To, vt a1.Grand, vt a1.Place, vt a1.Who, vi a1.Deposit]])] ?_
 refine sj ?_
 refine rk 3 (.k2 (.i 8 (.agg [eS 1 vt a0.Places, eS 1 vt a0.Technicians, eS 4 eRoad a0.Roads, eS 3 eGrand a0.Grands, vi a0.Change, vi a0.Lasts]) (.i 10 (vt a1.Grand) .n))) ?_
 refine bK h fun y1 hy1 h => ?_
 refine jc 11 [8, 10] (diary_grand_ok n a0 a1.Grand y1 hy1) ?_
 refine jko 6 (.d (.k2 (.i 6 (vb y1.2.2.2) .n))) [some (.row 6 [.agg [eS 1 vt a0.Places, eS 1 vt a0.Technicians, eS 4 eRoad a0.Roads, eS 3 eGrand a0.Grands, vi a0.Change, vi a0.Lasts]]), some (.row 7 [.agg [vi a1.Kind, vi a1.From, vi a1.To, vt a1.Grand, vt a1.Place, vt a1.Who, vi a1.Deposit]]), some (.row 3 [.agg [vt y1.1, vt y1.2.1, vi y1.2.2.1]])] ?_
 refine q7 ?_
 refine sj ?_
 refine rk 2 (.k3 (.i 16 (vi a1.Kind) .n)) ?_
 refine bK h fun y2 hy2 h => ?_
 refine jc 17 [16, (ki 0), (ki 3)] (diary_within_ok n a1.Kind 0 3 y2 hy2) ?_
 refine jk 2 (.d (.k3 (.i 14 (vb (!((decide (0 ≤ a1.Kind)) && (decide (a1.Kind ≤ 3))))) .n))) ?_
 refine tc h (fun c1 h => ?_) (fun c1 h => ?_)
 ·refine sk (.i 4 (vi 15) .n) ?_
  refine q3 ?_
  have h := si h
  subst h
  exact DoneS.ret (S' := ⟨[(4, vi 15)], []⟩) (sc [] (by decide) (by kernel_rfl) ObRen.nil rfl rfl) rfl rfl
 refine sj ?_
 refine rk 2 (.k3 (.i 21 (vi a1.From) .n)) ?_
 refine bK h fun y3 hy3 h => ?_
 refine jc 22 [21] (diary_isMinute_ok n a1.From y3 hy3) ?_
 refine rk 2 (.d (.k3 (.i 24 (vb (!((decide (0 ≤ a1.From)) && (decide (a1.From ≤ 1000000))))) .n))) ?_
 refine gj (.ptr 1 0 2) 25 (.faddr 2 3) 24 false rfl ?_
 refine gk (vi a1.To) 26 (.load false 1 25) 24 false rfl (fun hg => (.cons hg .nil)) ?_
 refine bK h fun y4 hy4 h => ?_
 refine gc 27 [26] 24 false rfl (fun hg => diary_isMinute_ok n a1.To y4 (gcall_some hy4 hg)) (fun hg => (.cons rfl (.cons hg .nil))) (fun hg => by kernel_rfl) ?_
 refine gk (vb (!((decide (0 ≤ a1.To)) && (decide (a1.To ≤ 1000000))))) 28 (.un .not 27) 24 false rfl (fun hg => (.cons hg .nil)) ?_
 refine po 29 24 28 rfl rfl ?_
 refine jk 1 (.d4 (.d (.k3 (.i 19 (vb ((!((decide (0 ≤ a1.From)) && (decide (a1.From ≤ 1000000)))) || (!((decide (0 ≤ a1.To)) && (decide (a1.To ≤ 1000000)))))) .n)))) ?_
 refine tc h (fun c2 h => ?_) (fun c2 h => ?_)
 ·refine sk (.i 4 (vi 2) .n) ?_
  refine q3 ?_
  have h := si h
  subst h
  exact DoneS.ret (S' := ⟨[(4, vi 2)], []⟩) (sc [] (by decide) (by kernel_rfl) ObRen.nil rfl rfl) rfl rfl
 refine sk (.k3 (.i 30 (vb (decide (a1.To ≤ a1.From))) .n)) ?_
 refine tc h (fun c3 h => ?_) (fun c3 h => ?_)
 ·refine sk (.i 4 (vi 9) .n) ?_
  refine q3 ?_
  have h := si h
  subst h
  exact DoneS.ret (S' := ⟨[(4, vi 9)], []⟩) (sc [] (by decide) (by kernel_rfl) ObRen.nil rfl rfl) rfl rfl
 refine sj ?_
 refine rk 3 (.k2 (.i 39 (vb (!y1.2.2.2)) .n)) ?_
 refine gj (.ptr 0 0 0) 40 (.faddr 0 2) 39 false rfl ?_
 refine gk (eS 1 vt a0.Places) 41 (.load false 1 40) 39 false rfl (fun hg => (.cons hg .nil)) ?_
 refine gj (.ptr 1 0 4) 42 (.faddr 4 3) 39 false rfl ?_
 refine gk (vt a1.Place) 43 (.load false 1 42) 39 false rfl (fun hg => (.cons hg .nil)) ?_
 refine bK h fun y5 hy5 h => ?_
 refine gc 44 [41, 43] 39 false rfl (fun hg => slices_Contains_string_ok n a0.Places a1.Place y5 (gcall_some hy5 hg)) (fun hg => (.cons rfl (.cons hg (.cons hg .nil)))) (fun hg => by kernel_rfl) ?_
 refine gk (vb (!y5)) 45 (.un .not 44) 39 false rfl (fun hg => (.cons hg .nil)) ?_
 refine po 46 39 45 rfl rfl ?_
 refine jk 1 (.d4 (.d3 (.k2 (.i 36 (vb ((!y1.2.2.2) || (!y5))) .n)))) ?_
 refine tc h (fun c4 h => ?_) (fun c4 h => ?_)
 ·refine sk (.i 4 (vi 6) .n) ?_
  refine q3 ?_
  have h := si h
  subst h
  exact DoneS.ret (S' := ⟨[(4, vi 6)], []⟩) (sc [] (by decide) (by kernel_rfl) ObRen.nil rfl rfl) rfl rfl
 refine sj ?_
 refine rk 4 (.k2 (.i 51 (vb (a1.Kind == (0 : Int))) .n)) ?_
 refine gj (.ptr 0 0 1) 52 (.faddr 1 2) 51 true rfl ?_
 refine gk (eS 1 vt a0.Technicians) 53 (.load false 1 52) 51 true rfl (fun hg => (.cons hg .nil)) ?_
 refine gj (.ptr 1 0 5) 54 (.faddr 5 3) 51 true rfl ?_
 refine gk (vt a1.Who) 55 (.load false 1 54) 51 true rfl (fun hg => (.cons hg .nil)) ?_
 refine bK h fun y6 hy6 h => ?_
 refine gc 56 [53, 55] 51 true rfl (fun hg => slices_Contains_string_ok n a0.Technicians a1.Who y6 (gcall_some hy6 hg)) (fun hg => (.cons rfl (.cons hg (.cons hg .nil)))) (fun hg => by kernel_rfl) ?_
 refine gk (vb (!y6)) 57 (.un .not 56) 51 true rfl (fun hg => (.cons hg .nil)) ?_
 refine pa 58 51 57 rfl rfl ?_
 refine jk 1 (.d4 (.d4 (.k (.i 47 (vb ((a1.Kind == (0 : Int)) && (!y6))) .n)))) ?_
 refine tc h (fun c5 h => ?_) (fun c5 h => ?_)
 ·refine sk (.i 4 (vi 6) .n) ?_
  refine q3 ?_
  have h := si h
  subst h
  exact DoneS.ret (S' := ⟨[(4, vi 6)], []⟩) (sc [] (by decide) (by kernel_rfl) ObRen.nil rfl rfl) rfl rfl
 refine sj ?_
 refine rk 4 (.k (.i 63 (vb (a1.Kind == (3 : Int))) .n)) ?_
 refine gj (.ptr 1 0 5) 64 (.faddr 5 3) 63 true rfl ?_
 refine gk (vt a1.Who) 65 (.load false 1 64) 63 true rfl (fun hg => (.cons hg .nil)) ?_
 refine bK h fun y7 hy7 h => ?_
 refine gc 66 [65] 63 true rfl (fun hg => diary_isName_ok n a1.Who y7 (gcall_some hy7 hg)) (fun hg => (.cons rfl (.cons hg .nil))) (fun hg => by kernel_rfl) ?_
 refine gk (vb (!y7)) 67 (.un .not 66) 63 true rfl (fun hg => (.cons hg .nil)) ?_
 refine pa 68 63 67 rfl rfl ?_
 refine jk 1 (.d4 (.d (.k (.i 59 (vb ((a1.Kind == (3 : Int)) && (!y7))) .n)))) ?_
 refine tc h (fun c6 h => ?_) (fun c6 h => ?_)
 ·refine sk (.i 4 (vi 4) .n) ?_
  refine q3 ?_
  have h := si h
  subst h
  exact DoneS.ret (S' := ⟨[(4, vi 4)], []⟩) (sc [] (by decide) (by kernel_rfl) ObRen.nil rfl rfl) rfl rfl
 refine sj ?_
 refine rk 4 (.k (.i 73 (vb (a1.Kind == (3 : Int))) .n)) ?_
 refine gj (.ptr 1 0 6) 74 (.faddr 6 3) 73 true rfl ?_
 refine gk (vi a1.Deposit) 75 (.load false 1 74) 73 true rfl (fun hg => (.cons hg .nil)) ?_
 refine bK h fun y8 hy8 h => ?_
 refine gc 76 [75, (ki 0), (ki 1000000000)] 73 true rfl (fun hg => diary_within_ok n a1.Deposit 0 1000000000 y8 (gcall_some hy8 hg)) (fun hg => (.cons rfl (.cons hg (.cons rfl (.cons rfl .nil))))) (fun hg => by kernel_rfl) ?_
 refine gk (vb (!((decide (0 ≤ a1.Deposit)) && (decide (a1.Deposit ≤ 1000000000))))) 77 (.un .not 76) 73 true rfl (fun hg => (.cons hg .nil)) ?_
 refine pa 78 73 77 rfl rfl ?_
 refine jk 1 (.d4 (.d (.k (.i 69 (vb ((a1.Kind == (3 : Int)) && (!((decide (0 ≤ a1.Deposit)) && (decide (a1.Deposit ≤ 1000000000)))))) .n)))) ?_
 refine tc h (fun c7 h => ?_) (fun c7 h => ?_)
 ·refine sk (.i 4 (vi 2) .n) ?_
  refine q3 ?_
  have h := si h
  subst h
  exact DoneS.ret (S' := ⟨[(4, vi 2)], []⟩) (sc [] (by decide) (by kernel_rfl) ObRen.nil rfl rfl) rfl rfl
 refine TriE.seqK h (fun (v9 : Bool) => St.mk [(79, vb v9)] []) ?_ ?_
 ·rintro v9 h
  refine tc h (fun c9 h => ?_) (fun c9 h => ?_)
  ·refine sk (.i 4 (vi 3) .n) ?_
   refine q3 ?_
   have h := si h
   subst h
   exact DoneS.ret Sees.refl rfl rfl
  refine q2 ?_
  refine sk (.i 4 (vi 0) .n) ?_
  refine q3 ?_
  have h := si h
  subst h
  exact DoneS.ret Sees.refl rfl rfl
 intro k1 h
 refine sj ?_
 refine rk 4 (.k (.i 83 (vb (a1.Kind != (3 : Int))) .n)) ?_
 refine gj (.ptr 1 0 6) 84 (.faddr 6 3) 83 true rfl ?_
 refine gk (vi a1.Deposit) 85 (.load false 1 84) 83 true rfl (fun hg => (.cons hg .nil)) ?_
 refine gk (vb (a1.Deposit != (0 : Int))) 86 (.bin .neq false 85 (ki 0)) 83 true rfl (fun hg => (.cons hg (.cons rfl .nil))) ?_
 refine pa 87 83 86 rfl rfl ?_
 refine jk 1 (.d4 (.k (.i 79 (vb ((a1.Kind != (3 : Int)) && (a1.Deposit != (0 : Int)))) .n))) ?_
 refine tc h (fun c8 h => ?_) (fun c8 h => ?_)
 ·refine q2 ?_
  exact Vs.intro (sc [] (by decide) (by kernel_rfl) ObRen.nil rfl rfl) ⟨((a1.Kind != (3 : Int)) && (a1.Deposit != (0 : Int))), rfl, h⟩
 refine q6 ?_
 refine rk 4 (.k (.i 91 (vb (a1.Kind == (1 : Int))) .n)) ?_
 refine gj (.ptr 1 0 0) 92 (.faddr 0 3) 91 false rfl ?_
 refine gk (vi a1.Kind) 93 (.load false 1 92) 91 false rfl (fun hg => (.cons hg .nil)) ?_
 refine gk (vb (a1.Kind == (2 : Int))) 94 (.bin .eql false 93 (ki 2)) 91 false rfl (fun hg => (.cons hg (.cons rfl .nil))) ?_
 refine po 95 91 94 rfl rfl ?_
 refine rk 1 (.d4 (.k (.i 96 (vb ((a1.Kind == (1 : Int)) || (a1.Kind == (2 : Int)))) .n))) ?_
 refine gj (.ptr 1 0 5) 97 (.faddr 5 3) 96 true rfl ?_
 refine gk (vt a1.Who) 98 (.load false 1 97) 96 true rfl (fun hg => (.cons hg .nil)) ?_
 refine gk (vb (!(a1.Who == ([] : Str)))) 99 (.bin .neq false 98 (.c (.p (.string ⟨#[]⟩)))) 96 true rfl (fun hg => (.cons hg (.cons rfl .nil))) ?_
 refine pa 100 96 99 rfl rfl ?_
 refine jk 1 (.i 79 (vb (((a1.Kind == (1 : Int)) || (a1.Kind == (2 : Int))) && (!(a1.Who == ([] : Str))))) .n) ?_
 exact Vs.intro (sc [] (by decide) (by kernel_rfl) ObRen.nil rfl rfl) ⟨(((a1.Kind == (1 : Int)) || (a1.Kind == (2 : Int))) && (!(a1.Who == ([] : Str)))), rfl, h⟩
set_option maxHeartbeats 1000000 in
theorem diary_plan_changes_f1_ok (n : Nat) (a0 : Item) (a1 : Int) (a2 : Int) (a3 : Int) (a4 : Str) (a5 : Str) (a6 : Str) (a7 : Int) (a8 : List Str) (a9 : List Str) (a10 : List Road) (a11 : List Grand) (a12 : Int) (a13 : Int) (a14 : List (Int × List (Arr2_Str × Int))) (r : Unit) (h : diary_plan_changes_f1 n a0 a1 a2 a3 a4 a5 a6 a7 a8 a9 a10 a11 a12 a13 a14 = some r) : FnL Try.prog 123 [.agg [vi a0.Kind, vi a0.From, vi a0.To, vt a0.Grand, vt a0.Place, vt a0.Who, vi a0.Deposit], .ptr 0 0 0, .ptr 1 0 0] [some (.row 7 [.agg [vi a1, vi a2, vi a3, vt a4, vt a5, vt a6, vi a7]]), some (.row 1 [.ptr 2 0 0]), some (.row 7 [.agg [eS 1 vt a8, eS 1 vt a9, eS 4 eRoad a10, eS 3 eGrand a11, vi a12, vi a13, .map 3]]), some (.mp (mpE vi (eM eArr2_Str vi) a14))] (vb ((a0.Grand == a4) && (decide (a2 < (a0.To + a12))))) [some (.row 7 [.agg [vi a1, vi a2, vi a3, vt a4, vt a5, vt a6, vi a7]]), some (.row 1 [.ptr 2 0 0]), some (.row 7 [.agg [eS 1 vt a8, eS 1 vt a9, eS 4 eRoad a10, eS 3 eGrand a11, vi a12, vi a13, .map 3]]), some (.mp (mpE vi (eM eArr2_Str vi) a14))] := by
  dsimp only [diary_plan_changes_f1] at h
  refine FnL.ofS (ts := [4]) Try.call123 Try.func123 rfl rfl (Nat.le_of_ble_eq_true rfl) (Nat.le_of_ble_eq_true rfl) (hall_of (.cons rfl (.cons rfl (.cons rfl (.cons rfl .nil))))) ?_
  show TriE _ _ _ _ _ (St.mk [(0, .agg [vi a0.Kind, vi a0.From, vi a0.To, vt a0.Grand, vt a0.Place, vt a0.Who, vi a0.Deposit]), (1, .ptr 0 0 0), (2, .ptr 1 0 0)] [some (.row 7 [.agg [vi a1, vi a2, vi a3, vt a4, vt a5, vt a6, vi a7]]), some (.row 1 [.ptr 2 0 0]), some (.row 7 [.agg [eS 1 vt a8, eS 1 vt a9, eS 4 eRoad a10, eS 3 eGrand a11, vi a12, vi a13, .map 3]]), some (.mp (mpE vi (eM eArr2_Str vi) a14))]) _
  refine TriE.seq ?_
  refine TriE.run [(1, .ptr 0 0 0), (2, .ptr 1 0 0), (3, .ptr 4 0 0)] [some (.row 7 [.agg [vi a1, vi a2, vi a3, vt a4, vt a5, vt a6, vi a7]]), some (.row 1 [.ptr 2 0 0]), some (.row 7 [.agg [eS 1 vt a8, eS 1 vt a9, eS 4 eRoad a10, eS 3 eGrand a11, vi a12, vi a13, .map 3]]), some (.mp (mpE vi (eM eArr2_Str vi) a14)), some (.row 7 [.agg [vi a0.Kind, vi a0.From, vi a0.To, vt a0.Grand, vt a0.Place, vt a0.Who, vi a0.Deposit]])] (by kernel_rfl) ?_
  refine TriE.seq ?_
  refine TriE.sees (Sees.less (fr' := [(1, .ptr 0 0 0), (2, .ptr 1 0 0), (3, .ptr 4 0 0)]) (.cons rfl (.cons rfl (.cons rfl .nil)))) ?_
  refine TriE.draw (by kernel_rfl) ?_
  refine RegD.run 6 [(10, vb (a0.Grand == a4)), (9, vb (a0.Grand == a4)), (8, vt a4), (7, .ptr 0 0 3), (6, vt a0.Grand), (5, .ptr 4 0 3), (1, .ptr 0 0 0), (2, .ptr 1 0 0), (3, .ptr 4 0 0)] [some (.row 7 [.agg [vi a1, vi a2, vi a3, vt a4, vt a5, vt a6, vi a7]]), some (.row 1 [.ptr 2 0 0]), some (.row 7 [.agg [eS 1 vt a8, eS 1 vt a9, eS 4 eRoad a10, eS 3 eGrand a11, vi a12, vi a13, .map 3]]), some (.mp (mpE vi (eM eArr2_Str vi) a14)), some (.row 7 [.agg [vi a0.Kind, vi a0.From, vi a0.To, vt a0.Grand, vt a0.Place, vt a0.Who, vi a0.Deposit]]), none, none, none, none, none, none] (by kernel_rfl) ?_
  refine RegD.op (OpD.valk (g := (a0.Grand == a4)) (v := .ptr 0 0 1) _ _ (cz (IG 11 (.faddr 1 (.t 1)) 10 true) (by kernel_rfl)) rfl (by kernel_rfl) (fun hg => (.cons rfl .nil))) ?_
  refine RegD.op (OpD.valk (g := (a0.Grand == a4)) (v := vi a2) _ _ (cz (IG 12 (.load false 1 (.t 11)) 10 true) (by kernel_rfl)) rfl (by kernel_rfl) (fun hg => (.cons hg .nil))) ?_
  refine RegD.op (OpD.valk (g := (a0.Grand == a4)) (v := .ptr 4 0 2) _ _ (cz (IG 13 (.faddr 2 (.t 3)) 10 true) (by kernel_rfl)) rfl (by kernel_rfl) (fun hg => (.cons rfl .nil))) ?_
  refine RegD.op (OpD.valk (g := (a0.Grand == a4)) (v := vi a0.To) _ _ (cz (IG 14 (.load false 1 (.t 13)) 10 true) (by kernel_rfl)) rfl (by kernel_rfl) (fun hg => (.cons hg .nil))) ?_
  refine RegD.op (OpD.valk (g := (a0.Grand == a4)) (v := .ptr 2 0 0) _ _ (cz (IG 15 (.load false 1 (.t 2)) 10 true) (by kernel_rfl)) rfl (by kernel_rfl) (fun hg => (.cons rfl .nil))) ?_
  refine RegD.op (OpD.valk (g := (a0.Grand == a4)) (v := .ptr 2 0 0) _ _ (cz (IG 16 (.nilchk (.t 15)) 10 true) (by kernel_rfl)) rfl (by kernel_rfl) (fun hg => (.cons hg .nil))) ?_
  refine RegD.op (OpD.valk (g := (a0.Grand == a4)) (v := .ptr 2 0 0) _ _ (cz (IG 17 (.faddr 0 (.t 16)) 10 true) (by kernel_rfl)) rfl (by kernel_rfl) (fun hg => (.cons hg .nil))) ?_
  refine RegD.op (OpD.valk (g := (a0.Grand == a4)) (v := .ptr 2 0 4) _ _ (cz (IG 18 (.faddr 4 (.t 17)) 10 true) (by kernel_rfl)) rfl (by kernel_rfl) (fun hg => (.cons hg .nil))) ?_
  refine RegD.op (OpD.valk (g := (a0.Grand == a4)) (v := vi a12) _ _ (cz (IG 19 (.load false 1 (.t 18)) 10 true) (by kernel_rfl)) rfl (by kernel_rfl) (fun hg => (.cons hg .nil))) ?_
  refine cK h fun c1 h => ?_
  refine RegD.op (OpD.valg (g := (a0.Grand == a4)) (v := vi (a0.To + a12)) _ _ (cz (IG 20 (.bin .add false (.t 14) (.t 19)) 10 true) (by kernel_rfl)) rfl (fun hg => (r_add rfl rfl (gor c1 hg))) (fun hg => (.cons hg (.cons hg .nil)))) ?_
  refine RegD.op (OpD.valk (g := (a0.Grand == a4)) (v := vb (decide (a2 < (a0.To + a12)))) _ _ (cz (IG 21 (.bin .lss false (.t 12) (.t 20)) 10 true) (by kernel_rfl)) rfl (by kernel_rfl) (fun hg => (.cons hg (.cons hg .nil)))) ?_
  refine RegD.op (OpD.and (cz (I0 22 (.pick (.t 10) (.t 21) (.c (.p (.bool false))))) (by kernel_rfl)) rfl rfl (by first | exact hokA1 | exact hokA0 | simp)) ?_
  refine RegD.run 1 [(4, vb ((a0.Grand == a4) && (decide (a2 < (a0.To + a12))))), (22, vb ((a0.Grand == a4) && (decide (a2 < (a0.To + a12))))), (21, .cond (a0.Grand == a4) (vb (decide (a2 < (a0.To + a12))))), (20, .cond (a0.Grand == a4) (vi (a0.To + a12))), (19, .cond (a0.Grand == a4) (vi a12)), (18, .cond (a0.Grand == a4) (.ptr 2 0 4)), (17, .cond (a0.Grand == a4) (.ptr 2 0 0)), (16, .cond (a0.Grand == a4) (.ptr 2 0 0)), (15, .cond (a0.Grand == a4) (.ptr 2 0 0)), (14, .cond (a0.Grand == a4) (vi a0.To)), (13, .cond (a0.Grand == a4) (.ptr 4 0 2)), (12, .cond (a0.Grand == a4) (vi a2)), (11, .cond (a0.Grand == a4) (.ptr 0 0 1)), (10, vb (a0.Grand == a4)), (9, vb (a0.Grand == a4)), (8, vt a4), (7, .ptr 0 0 3), (6, vt a0.Grand), (5, .ptr 4 0 3), (1, .ptr 0 0 0), (2, .ptr 1 0 0), (3, .ptr 4 0 0)] [some (.row 7 [.agg [vi a1, vi a2, vi a3, vt a4, vt a5, vt a6, vi a7]]), some (.row 1 [.ptr 2 0 0]), some (.row 7 [.agg [eS 1 vt a8, eS 1 vt a9, eS 4 eRoad a10, eS 3 eGrand a11, vi a12, vi a13, .map 3]]), some (.mp (mpE vi (eM eArr2_Str vi) a14)), some (.row 7 [.agg [vi a0.Kind, vi a0.From, vi a0.To, vt a0.Grand, vt a0.Place, vt a0.Who, vi a0.Deposit]]), none, none, none, none, none, none, none, none, none, none, none, none, none, none, none, none, none, none, none] (by kernel_rfl) ?_
  refine RegD.done rfl (by kernel_rfl) (S' := ⟨[(4, vb ((a0.Grand == a4) && (decide (a2 < (a0.To + a12)))))], [some (.row 7 [.agg [vi a1, vi a2, vi a3, vt a4, vt a5, vt a6, vi a7]]), some (.row 1 [.ptr 2 0 0]), some (.row 7 [.agg [eS 1 vt a8, eS 1 vt a9, eS 4 eRoad a10, eS 3 eGrand a11, vi a12, vi a13, .map 3]]), some (.mp (mpE vi (eM eArr2_Str vi) a14))]⟩) (sc [0, 1, 2, 3] (by decide) (by kernel_rfl) (.cons rfl (.cons rfl (.cons rfl (obRen_mp vi_frz (eM_frz eArr2_Str vi) rfl .nil)))) rfl rfl) ?_
  refine TriE.ret ?_
  have h := Option.some.inj h
  subst h
  exact DoneS.ret (S' := ⟨[(4, vb ((a0.Grand == a4) && (decide (a2 < (a0.To + a12)))))], [some (.row 7 [.agg [vi a1, vi a2, vi a3, vt a4, vt a5, vt a6, vi a7]]), some (.row 1 [.ptr 2 0 0]), some (.row 7 [.agg [eS 1 vt a8, eS 1 vt a9, eS 4 eRoad a10, eS 3 eGrand a11, vi a12, vi a13, .map 3]]), some (.mp (mpE vi (eM eArr2_Str vi) a14))]⟩) Sees.refl rfl rfl
theorem slices_IndexFunc_Item_ok (n : Nat) (a0 : List Item) (a1 : Int) (a2 : Int) (a3 : Int) (a4 : Str) (a5 : Str) (a6 : Str) (a7 : Int) (a8 : List Str) (a9 : List Str) (a10 : List Road) (a11 : List Grand) (a12 : Int) (a13 : Int) (a14 : List (Int × List (Arr2_Str × Int))) (r : Int) (h : slices_IndexFunc_Item n a0 a1 a2 a3 a4 a5 a6 a7 a8 a9 a10 a11 a12 a13 a14 = some r) : FnL Try.prog 121 [eS 7 eItem a0, .fn (.func 123) [] [.ptr 0 0 0, .ptr 1 0 0]] [some (.row 7 [.agg [vi a1, vi a2, vi a3, vt a4, vt a5, vt a6, vi a7]]), some (.row 1 [.ptr 2 0 0]), some (.row 7 [.agg [eS 1 vt a8, eS 1 vt a9, eS 4 eRoad a10, eS 3 eGrand a11, vi a12, vi a13, .map 3]]), some (.mp (mpE vi (eM eArr2_Str vi) a14))] (vi r) [some (.row 7 [.agg [vi a1, vi a2, vi a3, vt a4, vt a5, vt a6, vi a7]]), some (.row 1 [.ptr 2 0 0]), some (.row 7 [.agg [eS 1 vt a8, eS 1 vt a9, eS 4 eRoad a10, eS 3 eGrand a11, vi a12, vi a13, .map 3]]), some (.mp (mpE vi (eM eArr2_Str vi) a14))] := by
 dsimp only [slices_IndexFunc_Item] at h
 refine fob [4] Try.call121 Try.func121 rfl (.cons rfl (.cons rfl (.cons rfl (.cons rfl .nil)))) ?_
 refine sk .a ?_
 refine TriE.seqK h (fun (_ : Unit) => St.mk [] [some (.row 7 [.agg [vi a1, vi a2, vi a3, vt a4, vt a5, vt a6, vi a7]]), some (.row 1 [.ptr 2 0 0]), some (.row 7 [.agg [eS 1 vt a8, eS 1 vt a9, eS 4 eRoad a10, eS 3 eGrand a11, vi a12, vi a13, .map 3]]), some (.mp (mpE vi (eM eArr2_Str vi) a14))]) ?_ ?_
 ·rintro ⟨⟩ h
  refine sk (.i 4 (vi (-1)) .n) ?_
  refine q3 ?_
  have h := si h
  subst h
  exact DoneS.ret Sees.refl rfl rfl
 intro k1 h
 refine sj ?_
 refine rk 1 (.k2 (.i 6 (eS 7 eItem a0) .n)) ?_
 refine jo 7 (.len 0 6) (ok_len_m rfl) ?_
 refine jk 1 (.d (.k2 (.i 7 (vi (a0.length : Int)) (.i 8 (vi 0) .n)))) ?_
 refine q4 ?_
 refine ts (.k3 (.i 8 (vi 0) .n)) ?_
 refine TriE.loopN h (fun (v2 : Nat) => St.mk [(0, eS 7 eItem a0), (1, .fn (.func 123) [] [.ptr 0 0 0, .ptr 1 0 0]), (7, vi (a0.length : Int)), (8, vi v2)] [some (.row 7 [.agg [vi a1, vi a2, vi a3, vt a4, vt a5, vt a6, vi a7]]), some (.row 1 [.ptr 2 0 0]), some (.row 7 [.agg [eS 1 vt a8, eS 1 vt a9, eS 4 eRoad a10, eS 3 eGrand a11, vi a12, vi a13, .map 3]]), some (.mp (mpE vi (eM eArr2_Str vi) a14))]) rfl ?_
 clear h
 rintro back v2 h
 dsimp only [slices_IndexFunc_Item_L1] at h
 refine sj ?_
 refine jo 9 (.bin .lss false 8 7) (n_lss (i := v2) (j := a0.length) rfl rfl) ?_
 refine jf (.d (.k4 (.i 9 (vb (decide (v2 < a0.length))) .n))) ?_
 refine q1 ?_
 refine tc h (fun c1 h => ?_) (fun c1 h => ?_)
 ·refine q2 ?_
  refine q7 ?_
  refine sk (.k4 (.i 5 (vi v2) .n)) ?_
  refine sj ?_
  refine rk 3 (.k4 (.k (.i 11 (.fn (.func 123) [] [.ptr 0 0 0, .ptr 1 0 0]) (.i 12 (eS 7 eItem a0) (.i 13 (vi v2) .n))))) ?_
  refine jo 14 (.iaddr 7 12 13) (ok_iaddr_m (j := v2) rfl rfl rfl c1) ?_
  refine jo 15 (.load true 7 14) (ok_load_fm (v := .agg [vi ((ix a0 v2).Kind), vi ((ix a0 v2).From), vi ((ix a0 v2).To), vt ((ix a0 v2).Grand), vt ((ix a0 v2).Place), vt ((ix a0 v2).Who), vi ((ix a0 v2).Deposit)]) rfl c1 rfl) ?_
  refine bK h fun y3 hy3 h => ?_
  refine jy (vb (((ix a0 v2).Grand == a4) && (decide (a2 < ((ix a0 v2).To + a12))))) 16 11 [15] rfl (diary_plan_changes_f1_ok n (ix a0 v2) a1 a2 a3 a4 a5 a6 a7 a8 a9 a10 a11 a12 a13 a14 y3 hy3) [0, 1, 2, 3] rfl (.cons rfl (.cons rfl (.cons rfl (.same (mp_ren vi_frz (eM_frz eArr2_Str vi) _ _) .nil)))) (.cons rfl (.cons rfl (.cons rfl (.same (mp_ren vi_frz (eM_frz eArr2_Str vi) _ _) .nil)))) rfl ?_
  refine jf (.d3 (.k4 (.k (.i 16 (vb (((ix a0 v2).Grand == a4) && (decide (a2 < ((ix a0 v2).To + a12))))) .n)))) ?_
  refine tc h (fun c2 h => ?_) (fun c2 h => ?_)
  ·refine sk (.i 4 (vi v2) .n) ?_
   refine q3 ?_
   have h := si h
   subst h
   exact DoneS.ret Sees.refl rfl rfl
  refine q2 ?_
  refine q6 ?_
  refine cK h fun c3 h => ?_
  refine jo 18 (.bin .add false 8 (ki 1)) (r_addn (i := v2) (j := 1) rfl rfl c3) ?_
  refine jk 1 (.d (.k3 (.i 8 (vi ((v2 + 1 : Nat) : Int)) .n))) ?_
  exact Vs.intro sy ⟨(v2 + 1), rfl, h⟩
 refine q5 ?_
 exact Vs.intro sy ⟨(), rfl, h⟩
theorem slices_ContainsFunc_Item_ok (n : Nat) (a0 : List Item) (a1 : Int) (a2 : Int) (a3 : Int) (a4 : Str) (a5 : Str) (a6 : Str) (a7 : Int) (a8 : List Str) (a9 : List Str) (a10 : List Road) (a11 : List Grand) (a12 : Int) (a13 : Int) (a14 : List (Int × List (Arr2_Str × Int))) (r : Bool) (h : slices_ContainsFunc_Item n a0 a1 a2 a3 a4 a5 a6 a7 a8 a9 a10 a11 a12 a13 a14 = some r) : FnL Try.prog 98 [eS 7 eItem a0, .fn (.func 123) [] [.ptr 0 0 0, .ptr 1 0 0]] [some (.row 7 [.agg [vi a1, vi a2, vi a3, vt a4, vt a5, vt a6, vi a7]]), some (.row 1 [.ptr 2 0 0]), some (.row 7 [.agg [eS 1 vt a8, eS 1 vt a9, eS 4 eRoad a10, eS 3 eGrand a11, vi a12, vi a13, .map 3]]), some (.mp (mpE vi (eM eArr2_Str vi) a14))] (vb r) [some (.row 7 [.agg [vi a1, vi a2, vi a3, vt a4, vt a5, vt a6, vi a7]]), some (.row 1 [.ptr 2 0 0]), some (.row 7 [.agg [eS 1 vt a8, eS 1 vt a9, eS 4 eRoad a10, eS 3 eGrand a11, vi a12, vi a13, .map 3]]), some (.mp (mpE vi (eM eArr2_Str vi) a14))] := by
 dsimp only [slices_ContainsFunc_Item] at h
 refine fob [4] Try.call98 Try.func98 rfl (.cons rfl (.cons rfl (.cons rfl (.cons rfl .nil)))) ?_
 refine sk .a ?_
 refine sj ?_
 refine rk 2 (.i 5 (eS 7 eItem a0) (.i 6 (.fn (.func 123) [] [.ptr 0 0 0, .ptr 1 0 0]) .n)) ?_
 refine bK h fun y1 hy1 h => ?_
 refine jco (vi y1) 7 [5, 6] (slices_IndexFunc_Item_ok n a0 a1 a2 a3 a4 a5 a6 a7 a8 a9 a10 a11 a12 a13 a14 y1 hy1) [0, 1, 2, 3] rfl (.cons rfl (.cons rfl (.cons rfl (.same (mp_ren vi_frz (eM_frz eArr2_Str vi) _ _) .nil)))) (.cons rfl (.cons rfl (.cons rfl (.same (mp_ren vi_frz (eM_frz eArr2_Str vi) _ _) .nil)))) rfl ?_
 refine jk 2 (.i 4 (vb (decide ((0 : Int) ≤ y1))) .n) ?_
 refine q3 ?_
 have h := si h
 subst h
 exact DoneS.ret Sees.refl rfl rfl
theorem diary_plan_changes_ok (n : Nat) (a0 : List Str) (a1 : List Str) (a2 : List Road) (a3 : List Grand) (a4 : Int) (a5 : Int) (a6 : List (Int × List (Arr2_Str × Int))) (a7 : List Item) (a8 : Item) (r : Int) (h : diary_plan_changes n a0 a1 a2 a3 a4 a5 a6 a7 a8 = some r) : FnL Try.prog 107 [.ptr 0 0 0, eS 7 eItem a7, .agg [vi a8.Kind, vi a8.From, vi a8.To, vt a8.Grand, vt a8.Place, vt a8.Who, vi a8.Deposit]] [some (.row 7 [.agg [eS 1 vt a0, eS 1 vt a1, eS 4 eRoad a2, eS 3 eGrand a3, vi a4, vi a5, .map 1]]), some (.mp (mpE vi (eM eArr2_Str vi) a6))] (vi r) [some (.row 7 [.agg [eS 1 vt a0, eS 1 vt a1, eS 4 eRoad a2, eS 3 eGrand a3, vi a4, vi a5, .map 1]]), some (.mp (mpE vi (eM eArr2_Str vi) a6))] := by
 dsimp only [diary_plan_changes] at h
 refine fob [6] Try.call107 Try.func107 rfl (.cons rfl (.cons rfl .nil)) ?_
 refine sko (.d (.k (.i 3 (.ptr 2 0 0) (.i 5 (.ptr 3 0 0) .n)))) [some (.row 7 [.agg [eS 1 vt a0, eS 1 vt a1, eS 4 eRoad a2, eS 3 eGrand a3, vi a4, vi a5, .map 1]]), some (.mp (mpE vi (eM eArr2_Str vi) a6)), some (.row 1 [.ptr 0 0 0]), some (.row 7 [.agg [vi a8.Kind, vi a8.From, vi a8.To, vt a8.Grand, vt a8.Place, vt a8.Who, vi a8.Deposit]])] ?_
 refine q1 ?_
 refine sj ?_
 refine rk 2 (.i 7 (eS 7 eItem a7) (.i 8 (.fn (.func 123) [] [.ptr 3 0 0, .ptr 2 0 0]) .n)) ?_
 refine bK h fun y1 hy1 h => ?_
 refine jco (vb y1) 9 [7, 8] (slices_ContainsFunc_Item_ok n a7 a8.Kind a8.From a8.To a8.Grand a8.Place a8.Who a8.Deposit a0 a1 a2 a3 a4 a5 a6 y1 hy1) [3, 2, 0, 1] rfl (.cons rfl (.cons rfl (.cons rfl (.same (mp_ren vi_frz (eM_frz eArr2_Str vi) _ _) .nil)))) (.cons rfl (.cons rfl (.cons rfl (.same (mp_ren vi_frz (eM_frz eArr2_Str vi) _ _) .nil)))) rfl ?_
 refine jf (.k .n) ?_
 refine tc h (fun c1 h => ?_) (fun c1 h => ?_)
 ·refine sk (.i 6 (vi 17) .n) ?_
  refine q3 ?_
  have h := si h
  subst h
  exact DoneS.ret (S' := ⟨[(6, vi 17)], [some (.row 7 [.agg [eS 1 vt a0, eS 1 vt a1, eS 4 eRoad a2, eS 3 eGrand a3, vi a4, vi a5, .map 1]]), some (.mp (mpE vi (eM eArr2_Str vi) a6))]⟩) (sc [0, 1] (by decide) (by kernel_rfl) (.cons rfl (obRen_mp vi_frz (eM_frz eArr2_Str vi) rfl .nil)) rfl rfl) rfl rfl
 refine q2 ?_
 refine sk (.i 6 (vi 0) .n) ?_
 refine q3 ?_
 have h := si h
 subst h
 exact DoneS.ret (S' := ⟨[(6, vi 0)], [some (.row 7 [.agg [eS 1 vt a0, eS 1 vt a1, eS 4 eRoad a2, eS 3 eGrand a3, vi a4, vi a5, .map 1]]), some (.mp (mpE vi (eM eArr2_Str vi) a6))]⟩) (sc [0, 1] (by decide) (by kernel_rfl) (.cons rfl (obRen_mp vi_frz (eM_frz eArr2_Str vi) rfl .nil)) rfl rfl) rfl rfl
set_option maxHeartbeats 1000000 in
theorem diary_plan_place_ok (n : Nat) (a0 : List Str) (a1 : List Str) (a2 : List Road) (a3 : List Grand) (a4 : Int) (a5 : Int) (a6 : List (Int × List (Arr2_Str × Int))) (a7 : List Item) (a8 : Str) (a9 : Int) (r : Str) (h : diary_plan_place n a0 a1 a2 a3 a4 a5 a6 a7 a8 a9 = some r) : FnL Try.prog 99 [.ptr 0 0 0, eS 7 eItem a7, vt a8, vi a9] [some (.row 7 [.agg [eS 1 vt a0, eS 1 vt a1, eS 4 eRoad a2, eS 3 eGrand a3, vi a4, vi a5, .map 1]]), some (.mp (mpE vi (eM eArr2_Str vi) a6))] (vt r) [some (.row 7 [.agg [eS 1 vt a0, eS 1 vt a1, eS 4 eRoad a2, eS 3 eGrand a3, vi a4, vi a5, .map 1]]), some (.mp (mpE vi (eM eArr2_Str vi) a6))] := by
 dsimp only [diary_plan_place] at h
 refine fob [8] Try.call99 Try.func99 rfl (.cons rfl (.cons rfl .nil)) ?_
 refine sk .a ?_
 refine sj ?_
 refine rk 5 (.d (.k3 (.i 18 (.agg [eS 1 vt a0, eS 1 vt a1, eS 4 eRoad a2, eS 3 eGrand a3, vi a4, vi a5]) (.i 19 (vt a8) .n)))) ?_
 refine bK h fun y1 hy1 h => ?_
 refine jc 20 [18, 19] (diary_grand_ok n (Diary.mk a0 a1 a2 a3 a4 a5) a8 y1 hy1) ?_
 refine jko 6 (.d (.k3 (.i 9 (.ptr 2 0 0) .n))) [some (.row 7 [.agg [eS 1 vt a0, eS 1 vt a1, eS 4 eRoad a2, eS 3 eGrand a3, vi a4, vi a5, .map 1]]), some (.mp (mpE vi (eM eArr2_Str vi) a6)), some (.row 3 [.agg [vt y1.1, vt y1.2.1, vi y1.2.2.1]])] ?_
 refine sk (.k3 (.i 11 (vt y1.2.1) .n)) ?_
 refine TriE.seqK h (fun (v6 : Str) => St.mk [(11, vt v6)] [some (.row 7 [.agg [eS 1 vt a0, eS 1 vt a1, eS 4 eRoad a2, eS 3 eGrand a3, vi a4, vi a5, .map 1]]), some (.mp (mpE vi (eM eArr2_Str vi) a6))]) ?_ ?_
 ·rintro v6 h
  refine sk (.i 8 (vt v6) .n) ?_
  refine q3 ?_
  have h := si h
  subst h
  exact DoneS.ret Sees.refl rfl rfl
 intro k2 h
 refine sj ?_
 refine rk 1 (.d (.k3 (.i 25 (eS 7 eItem a7) .n))) ?_
 refine jo 26 (.len 0 25) (ok_len_m rfl) ?_
 refine jk 1 (.d (.k4 (.i 26 (vi (a7.length : Int)) (.i 27 (vi 0) .n)))) ?_
 refine q4 ?_
 refine TriE.sees (S' := ⟨[(2, vt a8), (3, vi a9), (11, vt y1.2.1), (25, eS 7 eItem a7), (26, vi (a7.length : Int)), (27, vi 0)], [some (.row 7 [.agg [eS 1 vt a0, eS 1 vt a1, eS 4 eRoad a2, eS 3 eGrand a3, vi a4, vi a5, .map 1]]), some (.mp (mpE vi (eM eArr2_Str vi) a6))]⟩) (sc [0, 1] (by decide) (by kernel_rfl) (.cons rfl (obRen_mp vi_frz (eM_frz eArr2_Str vi) rfl .nil)) rfl rfl) ?_
 refine TriE.loopN h (fun (t : Str × Nat) => match t with | (v3, v4) => St.mk [(2, vt a8), (3, vi a9), (11, vt v3), (25, eS 7 eItem a7), (26, vi (a7.length : Int)), (27, vi v4)] [some (.row 7 [.agg [eS 1 vt a0, eS 1 vt a1, eS 4 eRoad a2, eS 3 eGrand a3, vi a4, vi a5, .map 1]]), some (.mp (mpE vi (eM eArr2_Str vi) a6))]) rfl ?_
 clear h
 rintro back ⟨v3, v4⟩ h
 dsimp only [diary_plan_place_L1] at h
 refine sj ?_
 refine jo 28 (.bin .lss false 27 26) (n_lss (i := v4) (j := a7.length) rfl rfl) ?_
 refine jf (.d (.k4 (.k2 (.i 28 (vb (decide (v4 < a7.length))) .n)))) ?_
 refine q1 ?_
 refine tc h (fun c1 h => ?_) (fun c1 h => ?_)
 ·refine q2 ?_
  refine TriE.seqK h (fun (v5 : Str) => St.mk [(2, vt a8), (3, vi a9), (25, eS 7 eItem a7), (26, vi (a7.length : Int)), (27, vi v4), (11, vt v5)] [some (.row 7 [.agg [eS 1 vt a0, eS 1 vt a1, eS 4 eRoad a2, eS 3 eGrand a3, vi a4, vi a5, .map 1]]), some (.mp (mpE vi (eM eArr2_Str vi) a6))]) ?_ ?_
  ·rintro v5 h
   refine q6 ?_
   refine cK h fun c3 h => ?_
   refine jo 48 (.bin .add false 27 (ki 1)) (r_addn (i := v4) (j := 1) rfl rfl c3) ?_
   refine jk 1 (.d (.k4 (.d (.k (.i 27 (vi ((v4 + 1 : Nat) : Int)) .n))))) ?_
   exact Vs.intro sy ⟨(v5, v4 + 1), rfl, h⟩
  intro k1 h
  refine q4 ?_
  refine sj ?_
  refine jo 29 (.iaddr 7 25 27) (ok_iaddr_m (j := v4) rfl rfl rfl c1) ?_
  refine jo 30 (.load true 7 29) (ok_load_fm (v := .agg [vi ((ix a7 v4).Kind), vi ((ix a7 v4).From), vi ((ix a7 v4).To), vt ((ix a7 v4).Grand), vt ((ix a7 v4).Place), vt ((ix a7 v4).Who), vi ((ix a7 v4).Deposit)]) rfl c1 rfl) ?_
  refine jko 2 (.d2 (.k4 (.k2 (.i 13 (.ptr 2 0 0) .n)))) [some (.row 7 [.agg [eS 1 vt a0, eS 1 vt a1, eS 4 eRoad a2, eS 3 eGrand a3, vi a4, vi a5, .map 1]]), some (.mp (mpE vi (eM eArr2_Str vi) a6)), some (.row 7 [.agg [vi ((ix a7 v4).Kind), vi ((ix a7 v4).From), vi ((ix a7 v4).To), vt ((ix a7 v4).Grand), vt ((ix a7 v4).Place), vt ((ix a7 v4).Who), vi ((ix a7 v4).Deposit)]])] ?_
  refine sj ?_
  refine rk 4 (.k4 (.k3 (.i 34 (vb (((ix a7 v4).Kind) == (1 : Int))) .n))) ?_
  refine gj (.ptr 2 0 3) 35 (.faddr 3 13) 34 true rfl ?_
  refine gk (vt ((ix a7 v4).Grand)) 36 (.load false 1 35) 34 true rfl (fun hg => (.cons hg .nil)) ?_
  refine gj (vt a8) 37 (.mov 2) 34 true rfl ?_
  refine gk (vb (((ix a7 v4).Grand) == a8)) 38 (.bin .eql false 36 37) 34 true rfl (fun hg => (.cons hg (.cons hg .nil))) ?_
  refine pa 39 34 38 rfl rfl ?_
  refine rk 1 (.d4 (.d (.k4 (.k3 (.i 35 (.cond (((ix a7 v4).Kind) == (1 : Int)) (.ptr 2 0 3)) (.i 36 (.cond (((ix a7 v4).Kind) == (1 : Int)) (vt ((ix a7 v4).Grand))) (.i 37 (.cond (((ix a7 v4).Kind) == (1 : Int)) (vt a8)) (.i 38 (.cond (((ix a7 v4).Kind) == (1 : Int)) (vb (((ix a7 v4).Grand) == a8))) (.i 40 (vb ((((ix a7 v4).Kind) == (1 : Int)) && (((ix a7 v4).Grand) == a8))) .n))))))))) ?_
  refine gj (.ptr 2 0 2) 41 (.faddr 2 13) 40 true rfl ?_
  refine gk (vi ((ix a7 v4).To)) 42 (.load false 1 41) 40 true rfl (fun hg => (.cons hg .nil)) ?_
  refine gj (vi a9) 43 (.mov 3) 40 true rfl ?_
  refine gk (vb (decide (((ix a7 v4).To) ≤ a9))) 44 (.bin .leq false 42 43) 40 true rfl (fun hg => (.cons hg (.cons hg .nil))) ?_
  refine pa 45 40 44 rfl rfl ?_
  refine jf (.d4 (.d (.k4 (.k3 (.i 45 (vb (((((ix a7 v4).Kind) == (1 : Int)) && (((ix a7 v4).Grand) == a8)) && (decide (((ix a7 v4).To) ≤ a9)))) .n))))) ?_
  refine tc h (fun c2 h => ?_) (fun c2 h => ?_)
  ·refine tk (.k2 (.d (.k3 (.i 11 (vt ((ix a7 v4).Place)) .n)))) ?_
   exact Vs.intro (sc [0, 1] (by decide) (by kernel_rfl) (.cons rfl (obRen_mp vi_frz (eM_frz eArr2_Str vi) rfl .nil)) rfl rfl) ⟨((ix a7 v4).Place), rfl, h⟩
  refine q2 ?_
  exact Vs.intro (sc [0, 1] (by decide) (by kernel_rfl) (.cons rfl (obRen_mp vi_frz (eM_frz eArr2_Str vi) rfl .nil)) rfl rfl) ⟨v3, rfl, h⟩
 refine q5 ?_
 exact Vs.intro sy ⟨v3, rfl, h⟩
set_option maxHeartbeats 1000000 in
theorem diary_plan_stands_ok (n : Nat) (a0 : List Str) (a1 : List Str) (a2 : List Road) (a3 : List Grand) (a4 : Int) (a5 : Int) (a6 : List (Int × List (Arr2_Str × Int))) (a7 : List Item) (a8 : Item) (r : Int × (List (Int × List (Arr2_Str × Int)))) (h : diary_plan_stands n a0 a1 a2 a3 a4 a5 a6 a7 a8 = some r) : FnL Try.prog 108 [.ptr 0 0 0, eS 7 eItem a7, .agg [vi a8.Kind, vi a8.From, vi a8.To, vt a8.Grand, vt a8.Place, vt a8.Who, vi a8.Deposit]] [some (.row 7 [.agg [eS 1 vt a0, eS 1 vt a1, eS 4 eRoad a2, eS 3 eGrand a3, vi a4, vi a5, .map 1]]), some (.mp (mpE vi (eM eArr2_Str vi) a6))] (vi r.1) [some (.row 7 [.agg [eS 1 vt a0, eS 1 vt a1, eS 4 eRoad a2, eS 3 eGrand a3, vi a4, vi a5, .map 1]]), some (.mp (mpE vi (eM eArr2_Str vi) r.2))] := by
 dsimp only [diary_plan_stands] at h
 refine fob [6] Try.call108 Try.func108 rfl (.cons rfl (.cons rfl .nil)) ?_
 refine sko (.k2 (.i 5 (.ptr 2 0 0) .n)) [some (.row 7 [.agg [eS 1 vt a0, eS 1 vt a1, eS 4 eRoad a2, eS 3 eGrand a3, vi a4, vi a5, .map 1]]), some (.mp (mpE vi (eM eArr2_Str vi) a6)), some (.row 7 [.agg [vi a8.Kind, vi a8.From, vi a8.To, vt a8.Grand, vt a8.Place, vt a8.Who, vi a8.Deposit]])] ?_
 refine sj ?_
 refine rk 6 (.k (.d (.k (.i 12 (.ptr 0 0 0) (.i 13 (eS 7 eItem a7) (.i 15 (vt a8.Grand) (.i 17 (vi a8.From) .n))))))) ?_
 refine bK h fun y1 hy1 h => ?_
 refine jco (vt y1) 18 [12, 13, 15, 17] (diary_plan_place_ok n a0 a1 a2 a3 a4 a5 a6 a7 a8.Grand a8.From y1 hy1) [0, 1] rfl (.cons rfl (.same (mp_ren vi_frz (eM_frz eArr2_Str vi) _ _) .nil)) (.cons rfl (.same (mp_ren vi_frz (eM_frz eArr2_Str vi) _ _) .nil)) rfl ?_
 refine jk 1 (.d (.k2 (.i 7 (vt y1) .n))) ?_
 refine q1 ?_
 refine sk (.k3 (.i 21 (vb (a8.Kind != (1 : Int))) .n)) ?_
 refine tc h (fun c1 h => ?_) (fun c1 h => ?_)
 ·refine q1 ?_
  refine sk (.i 25 (vb (!(y1 == a8.Place))) .n) ?_
  refine tc h (fun c2 h => ?_) (fun c2 h => ?_)
  ·refine sk (.i 6 (vi 13) .n) ?_
   refine q3 ?_
   have h := si h
   subst h
   exact DoneS.ret (S' := ⟨[(6, vi 13)], [some (.row 7 [.agg [eS 1 vt a0, eS 1 vt a1, eS 4 eRoad a2, eS 3 eGrand a3, vi a4, vi a5, .map 1]]), some (.mp (mpE vi (eM eArr2_Str vi) a6))]⟩) (sc [0, 1] (by decide) (by kernel_rfl) (.cons rfl (obRen_mp vi_frz (eM_frz eArr2_Str vi) rfl .nil)) rfl rfl) rfl rfl
  refine q2 ?_
  refine sk (.i 6 (vi 0) .n) ?_
  refine q3 ?_
  have h := si h
  subst h
  exact DoneS.ret (S' := ⟨[(6, vi 0)], [some (.row 7 [.agg [eS 1 vt a0, eS 1 vt a1, eS 4 eRoad a2, eS 3 eGrand a3, vi a4, vi a5, .map 1]]), some (.mp (mpE vi (eM eArr2_Str vi) a6))]⟩) (sc [0, 1] (by decide) (by kernel_rfl) (.cons rfl (obRen_mp vi_frz (eM_frz eArr2_Str vi) rfl .nil)) rfl rfl) rfl rfl
 refine q2 ?_
 refine q1 ?_
 refine ts (.k3 .n) ?_
 refine TriE.draw (by kernel_rfl) ?_
 refine dk 6 (.i 32 (vt a8.Grand) (.i 31 (.ptr 2 0 3) (.i 30 (.agg [eS 1 vt a0, eS 1 vt a1, eS 4 eRoad a2, eS 3 eGrand a3, vi a4, vi a5]) (.i 29 (.ptr 0 0 0) (.i 28 (.ptr 0 0 0) (.i 27 (.ptr 0 0 0) .a)))))) ?_
 refine bK h fun y2 hy2 h => ?_
 refine dc (.tup [.agg [vt y2.1, vt y2.2.1, vi y2.2.2.1], vb y2.2.2.2]) 0 33 [30, 32] (diary_grand_ok n (Diary.mk a0 a1 a2 a3 a4 a5) a8.Grand y2 hy2) [] rfl ObsRen.nil ObsRen.nil rfl (.inr ⟨rfl, rfl⟩) ?_
 refine dko 6 (.i 9 (vb y2.2.2.2) (.i 8 (.ptr 13 0 0) (.i 35 (vb y2.2.2.2) (.i 34 (.agg [vt y2.1, vt y2.2.1, vi y2.2.2.1]) (.i 26 (.tup [.agg [vt y2.1, vt y2.2.1, vi y2.2.2.1], vb y2.2.2.2]) .a))))) [some (.row 7 [.agg [eS 1 vt a0, eS 1 vt a1, eS 4 eRoad a2, eS 3 eGrand a3, vi a4, vi a5, .map 1]]), some (.mp (mpE vi (eM eArr2_Str vi) a6)), some (.row 7 [.agg [vi a8.Kind, vi a8.From, vi a8.To, vt a8.Grand, vt a8.Place, vt a8.Who, vi a8.Deposit]]), none, none, none, none, none, none, none, none, none, none, some (.row 3 [.agg [vt y2.1, vt y2.2.1, vi y2.2.2.1]]), none, none] ?_
 refine dfi (ob' := [some (.row 7 [.agg [eS 1 vt a0, eS 1 vt a1, eS 4 eRoad a2, eS 3 eGrand a3, vi a4, vi a5, .map 1]]), some (.mp (mpE vi (eM eArr2_Str vi) a6)), some (.row 7 [.agg [vi a8.Kind, vi a8.From, vi a8.To, vt a8.Grand, vt a8.Place, vt a8.Who, vi a8.Deposit]]), some (.row 3 [.agg [vt y2.1, vt y2.2.1, vi y2.2.2.1]])]) (.d4 (.d4 (.d4 (.k3 (.i 8 (.ptr 3 0 0) .n))))) [0, 1, 2, 13] (.cons rfl (obRen_mp vi_frz (eM_frz eArr2_Str vi) rfl (.cons rfl (.cons rfl .nil)))) ?_
 refine sj ?_
 refine rk 6 (.d (.k2 (.i 37 (.ptr 0 0 0) (.i 38 (vt y1) (.i 40 (vt a8.Place) (.i 42 (vi y2.2.2.1) .n)))))) ?_
 refine bK h fun y3 hy3 h => ?_
 refine jco (.tup [vi y3.1, vb y3.2.1]) 43 [37, 38, 40, 42] (diary_plan_distance_ok n a0 a1 a2 a3 a4 a5 a6 y1 a8.Place y2.2.2.1 y3 hy3) [0, 1] rfl (.cons rfl (.same (mp_ren vi_frz (eM_frz eArr2_Str vi) _ _) .nil)) (.cons rfl (.same (mp_ren vi_frz (eM_frz eArr2_Str vi) _ _) .nil)) rfl ?_
 refine jk 5 (.d (.k2 (.i 10 (vi y3.1) (.i 11 (vb y3.2.1) .n)))) ?_
 refine q7 ?_
 refine sk (.k (.d (.k2 (.i 46 (vb (y1 == a8.Place)) .n)))) ?_
 refine tc h (fun c3 h => ?_) (fun c3 h => ?_)
 ·refine sk (.i 6 (vi 24) .n) ?_
  refine q3 ?_
  have h := si h
  subst h
  exact DoneS.ret (S' := ⟨[(6, vi 24)], [some (.row 7 [.agg [eS 1 vt a0, eS 1 vt a1, eS 4 eRoad a2, eS 3 eGrand a3, vi a4, vi a5, .map 1]]), some (.mp (mpE vi (eM eArr2_Str vi) y3.2.2))]⟩) (sc [0, 1] (by decide) (by kernel_rfl) (.cons rfl (obRen_mp vi_frz (eM_frz eArr2_Str vi) rfl .nil)) rfl rfl) rfl rfl
 refine sk (.k2 (.i 51 (vb (!y3.2.1)) .n)) ?_
 refine tc h (fun c4 h => ?_) (fun c4 h => ?_)
 ·refine sk (.i 6 (vi 12) .n) ?_
  refine q3 ?_
  have h := si h
  subst h
  exact DoneS.ret (S' := ⟨[(6, vi 12)], [some (.row 7 [.agg [eS 1 vt a0, eS 1 vt a1, eS 4 eRoad a2, eS 3 eGrand a3, vi a4, vi a5, .map 1]]), some (.mp (mpE vi (eM eArr2_Str vi) y3.2.2))]⟩) (sc [0, 1] (by decide) (by kernel_rfl) (.cons rfl (obRen_mp vi_frz (eM_frz eArr2_Str vi) rfl .nil)) rfl rfl) rfl rfl
 refine sj ?_
 refine rk 5 (.i 55 (vi y3.1) (.i 57 (vi a8.To) (.i 59 (vi a8.From) .n))) ?_
 refine cK h fun c5 h => ?_
 refine jo 60 (.bin .sub false 57 59) (r_sub rfl rfl c5) ?_
 refine jk 2 (.i 54 (vb (decide ((a8.To - a8.From) < y3.1))) .n) ?_
 refine tc h (fun c6 h => ?_) (fun c6 h => ?_)
 ·refine sk (.i 6 (vi 18) .n) ?_
  refine q3 ?_
  have h := si h
  subst h
  exact DoneS.ret (S' := ⟨[(6, vi 18)], [some (.row 7 [.agg [eS 1 vt a0, eS 1 vt a1, eS 4 eRoad a2, eS 3 eGrand a3, vi a4, vi a5, .map 1]]), some (.mp (mpE vi (eM eArr2_Str vi) y3.2.2))]⟩) (sc [0, 1] (by decide) (by kernel_rfl) (.cons rfl (obRen_mp vi_frz (eM_frz eArr2_Str vi) rfl .nil)) rfl rfl) rfl rfl
 refine q2 ?_
 refine sk (.i 6 (vi 0) .n) ?_
 refine q3 ?_
 have h := si h
 subst h
 exact DoneS.ret (S' := ⟨[(6, vi 0)], [some (.row 7 [.agg [eS 1 vt a0, eS 1 vt a1, eS 4 eRoad a2, eS 3 eGrand a3, vi a4, vi a5, .map 1]]), some (.mp (mpE vi (eM eArr2_Str vi) y3.2.2))]⟩) (sc [0, 1] (by decide) (by kernel_rfl) (.cons rfl (obRen_mp vi_frz (eM_frz eArr2_Str vi) rfl .nil)) rfl rfl) rfl rfl
set_option maxHeartbeats 1000000 in
theorem diary_plan_travels_ok (n : Nat) (a0 : List Str) (a1 : List Str) (a2 : List Road) (a3 : List Grand) (a4 : Int) (a5 : Int) (a6 : List (Int × List (Arr2_Str × Int))) (a7 : List Item) (a8 : Item) (r : Int × (List (Int × List (Arr2_Str × Int)))) (h : diary_plan_travels n a0 a1 a2 a3 a4 a5 a6 a7 a8 = some r) : FnL Try.prog 109 [.ptr 0 0 0, eS 7 eItem a7, .agg [vi a8.Kind, vi a8.From, vi a8.To, vt a8.Grand, vt a8.Place, vt a8.Who, vi a8.Deposit]] [some (.row 7 [.agg [eS 1 vt a0, eS 1 vt a1, eS 4 eRoad a2, eS 3 eGrand a3, vi a4, vi a5, .map 1]]), some (.mp (mpE vi (eM eArr2_Str vi) a6))] (vi r.1) [some (.row 7 [.agg [eS 1 vt a0, eS 1 vt a1, eS 4 eRoad a2, eS 3 eGrand a3, vi a4, vi a5, .map 1]]), some (.mp (mpE vi (eM eArr2_Str vi) r.2))] := by
 dsimp only [diary_plan_travels] at h
 refine fob [6] Try.call109 Try.func109 rfl (.cons rfl (.cons rfl .nil)) ?_
 refine sko (.k2 (.i 5 (.ptr 2 0 0) .n)) [some (.row 7 [.agg [eS 1 vt a0, eS 1 vt a1, eS 4 eRoad a2, eS 3 eGrand a3, vi a4, vi a5, .map 1]]), some (.mp (mpE vi (eM eArr2_Str vi) a6)), some (.row 7 [.agg [vi a8.Kind, vi a8.From, vi a8.To, vt a8.Grand, vt a8.Place, vt a8.Who, vi a8.Deposit]])] ?_
 refine q1 ?_
 refine sk (.k3 (.i 13 (vb (a8.Kind != (0 : Int))) .n)) ?_
 refine tc h (fun c1 h => ?_) (fun c1 h => ?_)
 ·refine sk (.i 6 (vi 0) .n) ?_
  refine q3 ?_
  have h := si h
  subst h
  exact DoneS.ret (S' := ⟨[(6, vi 0)], [some (.row 7 [.agg [eS 1 vt a0, eS 1 vt a1, eS 4 eRoad a2, eS 3 eGrand a3, vi a4, vi a5, .map 1]]), some (.mp (mpE vi (eM eArr2_Str vi) a6))]⟩) (sc [0, 1] (by decide) (by kernel_rfl) (.cons rfl (obRen_mp vi_frz (eM_frz eArr2_Str vi) rfl .nil)) rfl rfl) rfl rfl
 refine q2 ?_
 refine TriE.seqK h (fun (v7 : (List (Int × List (Arr2_Str × Int)))) => St.mk [] [some (.row 7 [.agg [eS 1 vt a0, eS 1 vt a1, eS 4 eRoad a2, eS 3 eGrand a3, vi a4, vi a5, .map 1]]), some (.mp (mpE vi (eM eArr2_Str vi) v7))]) ?_ ?_
 ·rintro v7 h
  refine sk (.i 6 (vi 0) .n) ?_
  refine q3 ?_
  have h := si h
  subst h
  exact DoneS.ret Sees.refl rfl rfl
 intro k2 h
 refine sj ?_
 refine rk 1 (.k (.d (.k (.i 14 (eS 7 eItem a7) .n)))) ?_
 refine jo 15 (.len 0 14) (ok_len_m rfl) ?_
 refine jk 1 (.d (.k3 (.i 15 (vi (a7.length : Int)) (.i 16 (vi 0) .n)))) ?_
 refine q4 ?_
 refine ts (.k4 (.i 16 (vi 0) .n)) ?_
 refine TriE.loopN h (fun (t : Nat × (List (Int × List (Arr2_Str × Int)))) => match t with | (v3, v4) => St.mk [(0, .ptr 0 0 0), (5, .ptr 2 0 0), (14, eS 7 eItem a7), (15, vi (a7.length : Int)), (16, vi v3)] [some (.row 7 [.agg [eS 1 vt a0, eS 1 vt a1, eS 4 eRoad a2, eS 3 eGrand a3, vi a4, vi a5, .map 1]]), some (.mp (mpE vi (eM eArr2_Str vi) v4)), some (.row 7 [.agg [vi a8.Kind, vi a8.From, vi a8.To, vt a8.Grand, vt a8.Place, vt a8.Who, vi a8.Deposit]])]) rfl ?_
 clear h
 rintro back ⟨v3, v4⟩ h
 dsimp only [diary_plan_travels_L1] at h
 refine sj ?_
 refine jo 17 (.bin .lss false 16 15) (n_lss (i := v3) (j := a7.length) rfl rfl) ?_
 refine jf (.d (.k4 (.k (.i 17 (vb (decide (v3 < a7.length))) .n)))) ?_
 refine q1 ?_
 refine tc h (fun c2 h => ?_) (fun c2 h => ?_)
 ·refine q2 ?_
  refine TriE.seqK h (fun (v6 : (List (Int × List (Arr2_Str × Int)))) => St.mk [(0, .ptr 0 0 0), (5, .ptr 2 0 0), (14, eS 7 eItem a7), (15, vi (a7.length : Int)), (16, vi v3)] [some (.row 7 [.agg [eS 1 vt a0, eS 1 vt a1, eS 4 eRoad a2, eS 3 eGrand a3, vi a4, vi a5, .map 1]]), some (.mp (mpE vi (eM eArr2_Str vi) v6)), some (.row 7 [.agg [vi a8.Kind, vi a8.From, vi a8.To, vt a8.Grand, vt a8.Place, vt a8.Who, vi a8.Deposit]])]) ?_ ?_
  ·rintro v6 h
   refine q6 ?_
   refine cK h fun c6 h => ?_
   refine jo 50 (.bin .add false 16 (ki 1)) (r_addn (i := v3) (j := 1) rfl rfl c6) ?_
   refine jk 1 (.d (.k4 (.i 16 (vi ((v3 + 1 : Nat) : Int)) .n))) ?_
   exact Vs.intro sy ⟨(v3 + 1, v6), rfl, h⟩
  intro k1 h
  refine q4 ?_
  refine sj ?_
  refine jo 18 (.iaddr 7 14 16) (ok_iaddr_m (j := v3) rfl rfl rfl c2) ?_
  refine jo 19 (.load true 7 18) (ok_load_fm (v := .agg [vi ((ix a7 v3).Kind), vi ((ix a7 v3).From), vi ((ix a7 v3).To), vt ((ix a7 v3).Grand), vt ((ix a7 v3).Place), vt ((ix a7 v3).Who), vi ((ix a7 v3).Deposit)]) rfl c2 rfl) ?_
  refine jko 2 (.d2 (.k4 (.k (.i 8 (.ptr 3 0 0) .n)))) [some (.row 7 [.agg [eS 1 vt a0, eS 1 vt a1, eS 4 eRoad a2, eS 3 eGrand a3, vi a4, vi a5, .map 1]]), some (.mp (mpE vi (eM eArr2_Str vi) v4)), some (.row 7 [.agg [vi a8.Kind, vi a8.From, vi a8.To, vt a8.Grand, vt a8.Place, vt a8.Who, vi a8.Deposit]]), some (.row 7 [.agg [vi ((ix a7 v3).Kind), vi ((ix a7 v3).From), vi ((ix a7 v3).To), vt ((ix a7 v3).Grand), vt ((ix a7 v3).Place), vt ((ix a7 v3).Who), vi ((ix a7 v3).Deposit)]])] ?_
  refine q1 ?_
  refine sj ?_
  refine rk 4 (.k4 (.k2 (.i 23 (vb (((ix a7 v3).Kind) != (0 : Int))) .n))) ?_
  refine gj (.ptr 3 0 5) 24 (.faddr 5 8) 23 false rfl ?_
  refine gk (vt ((ix a7 v3).Who)) 25 (.load false 1 24) 23 false rfl (fun hg => (.cons hg .nil)) ?_
  refine gj (.ptr 2 0 5) 26 (.faddr 5 5) 23 false rfl ?_
  refine gk (vt a8.Who) 27 (.load false 1 26) 23 false rfl (fun hg => (.cons hg .nil)) ?_
  refine gk (vb (!(((ix a7 v3).Who) == a8.Who))) 28 (.bin .neq false 25 27) 23 false rfl (fun hg => (.cons hg (.cons hg .nil))) ?_
  refine po 29 23 28 rfl rfl ?_
  refine jf (.d4 (.d2 (.k4 (.k2 (.i 29 (vb ((((ix a7 v3).Kind) != (0 : Int)) || (!(((ix a7 v3).Who) == a8.Who)))) .n))))) ?_
  refine tc h (fun c3 h => ?_) (fun c3 h => ?_)
  ·refine q5 ?_
   exact Vs.intro (sc [0, 1, 2] (by decide) (by kernel_rfl) (.cons rfl (obRen_mp vi_frz (eM_frz eArr2_Str vi) rfl (.cons rfl .nil))) rfl rfl) ⟨v4, rfl, h⟩
  refine q2 ?_
  refine sj ?_
  refine rk 5 (.k4 (.k2 (.i 31 (.ptr 0 0 0) (.i 33 (vt ((ix a7 v3).Place)) (.i 35 (vt a8.Place) .n))))) ?_
  refine bK h fun y5 hy5 h => ?_
  refine jco (.tup [vi y5.1, vb y5.2.1]) 36 [31, 33, 35, (ki 1)] (diary_plan_distance_ok n a0 a1 a2 a3 a4 a5 v4 ((ix a7 v3).Place) a8.Place 1 y5 hy5) [0, 1] rfl (.cons rfl (.same (mp_ren vi_frz (eM_frz eArr2_Str vi) _ _) .nil)) (.cons rfl (.same (mp_ren vi_frz (eM_frz eArr2_Str vi) _ _) .nil)) rfl ?_
  refine jk 5 (.d (.k4 (.k2 (.i 9 (vi y5.1) (.i 10 (vb y5.2.1) .n))))) ?_
  refine sj ?_
  refine rk 3 (.k4 (.k3 (.i 41 (vb (!y5.2.1)) .n))) ?_
  refine gj (.ptr 2 0 1) 42 (.faddr 1 5) 41 false rfl ?_
  refine gk (vi a8.From) 43 (.load false 1 42) 41 false rfl (fun hg => (.cons hg .nil)) ?_
  refine gj (.ptr 3 0 2) 44 (.faddr 2 8) 41 false rfl ?_
  refine gk (vi ((ix a7 v3).To)) 45 (.load false 1 44) 41 false rfl (fun hg => (.cons hg .nil)) ?_
  refine gj (vi y5.1) 46 (.mov 9) 41 false rfl ?_
  refine cK h fun c4 h => ?_
  refine gv 47 (.bin .add false 45 46) 41 false rfl (fun hg => (r_add rfl rfl (gor c4 hg))) (fun hg => (.cons hg (.cons hg .nil))) ?_
  refine gk (vb (decide (a8.From < (((ix a7 v3).To) + y5.1)))) 48 (.bin .lss false 43 47) 41 false rfl (fun hg => (.cons hg (.cons hg .nil))) ?_
  refine po 49 41 48 rfl rfl ?_
  refine jf (.d4 (.d4 (.k4 (.k (.i 49 (vb ((!y5.2.1) || (decide (a8.From < (((ix a7 v3).To) + y5.1))))) .n))))) ?_
  refine tc h (fun c5 h => ?_) (fun c5 h => ?_)
  ·refine sk (.i 6 (vi 16) .n) ?_
   refine q3 ?_
   have h := si h
   subst h
   exact DoneS.ret (S' := ⟨[(6, vi 16)], [some (.row 7 [.agg [eS 1 vt a0, eS 1 vt a1, eS 4 eRoad a2, eS 3 eGrand a3, vi a4, vi a5, .map 1]]), some (.mp (mpE vi (eM eArr2_Str vi) y5.2.2))]⟩) (sc [0, 1] (by decide) (by kernel_rfl) (.cons rfl (obRen_mp vi_frz (eM_frz eArr2_Str vi) rfl .nil)) rfl rfl) rfl rfl
  refine q2 ?_
  exact Vs.intro (sc [0, 1, 2] (by decide) (by kernel_rfl) (.cons rfl (obRen_mp vi_frz (eM_frz eArr2_Str vi) rfl (.cons rfl .nil))) rfl rfl) ⟨y5.2.2, rfl, h⟩
 refine q5 ?_
 exact Vs.intro (sc [0, 1] (by decide) (by kernel_rfl) (.cons rfl (obRen_mp vi_frz (eM_frz eArr2_Str vi) rfl .nil)) rfl rfl) ⟨v4, rfl, h⟩
theorem diary_plan_tuning_ok (n : Nat) (a0 : List Str) (a1 : List Str) (a2 : List Road) (a3 : List Grand) (a4 : Int) (a5 : Int) (a6 : List (Int × List (Arr2_Str × Int))) (a7 : List Item) (a8 : Item) (r : Int) (h : diary_plan_tuning n a0 a1 a2 a3 a4 a5 a6 a7 a8 = some r) : FnL Try.prog 94 [.ptr 0 0 0, eS 7 eItem a7, .agg [vi a8.Kind, vi a8.From, vi a8.To, vt a8.Grand, vt a8.Place, vt a8.Who, vi a8.Deposit]] [some (.row 7 [.agg [eS 1 vt a0, eS 1 vt a1, eS 4 eRoad a2, eS 3 eGrand a3, vi a4, vi a5, .map 1]]), some (.mp (mpE vi (eM eArr2_Str vi) a6))] (vi r) [some (.row 7 [.agg [eS 1 vt a0, eS 1 vt a1, eS 4 eRoad a2, eS 3 eGrand a3, vi a4, vi a5, .map 1]]), some (.mp (mpE vi (eM eArr2_Str vi) a6))] := by
 refine cK h fun c h => ?_
 cases h
 exact FnL_tune (k := 7) (l := a7) (hall_of (.cons rfl (.cons rfl .nil))) rfl (Nat.zero_lt_succ _) (by decide) rfl (els_fr2 (e := eItem) (l := a7) rfl) (fun _ h => nomatch h) (of_decide_eq_true c)
theorem diary_plan_isTuned_ok (n : Nat) (a0 : List Str) (a1 : List Str) (a2 : List Road) (a3 : List Grand) (a4 : Int) (a5 : Int) (a6 : List (Int × List (Arr2_Str × Int))) (a7 : List Item) (a8 : Item) (r : Int) (h : diary_plan_isTuned n a0 a1 a2 a3 a4 a5 a6 a7 a8 = some r) : FnL Try.prog 110 [.ptr 0 0 0, eS 7 eItem a7, .agg [vi a8.Kind, vi a8.From, vi a8.To, vt a8.Grand, vt a8.Place, vt a8.Who, vi a8.Deposit]] [some (.row 7 [.agg [eS 1 vt a0, eS 1 vt a1, eS 4 eRoad a2, eS 3 eGrand a3, vi a4, vi a5, .map 1]]), some (.mp (mpE vi (eM eArr2_Str vi) a6))] (vi r) [some (.row 7 [.agg [eS 1 vt a0, eS 1 vt a1, eS 4 eRoad a2, eS 3 eGrand a3, vi a4, vi a5, .map 1]]), some (.mp (mpE vi (eM eArr2_Str vi) a6))] := by
 dsimp only [diary_plan_isTuned] at h
 refine fob [6] Try.call110 Try.func110 rfl (.cons rfl (.cons rfl .nil)) ?_
 refine sko (.k2 (.i 5 (.ptr 2 0 0) .n)) [some (.row 7 [.agg [eS 1 vt a0, eS 1 vt a1, eS 4 eRoad a2, eS 3 eGrand a3, vi a4, vi a5, .map 1]]), some (.mp (mpE vi (eM eArr2_Str vi) a6)), some (.row 7 [.agg [vi a8.Kind, vi a8.From, vi a8.To, vt a8.Grand, vt a8.Place, vt a8.Who, vi a8.Deposit]])] ?_
 refine q1 ?_
 refine sj ?_
 refine rk 4 (.k3 (.i 10 (vb (a8.Kind == (2 : Int))) .n)) ?_
 refine gj (.ptr 0 0 0) 11 (.mov 0) 10 true rfl ?_
 refine gj (eS 7 eItem a7) 12 (.mov 1) 10 true rfl ?_
 refine gj (.agg [vi a8.Kind, vi a8.From, vi a8.To, vt a8.Grand, vt a8.Place, vt a8.Who, vi a8.Deposit]) 13 (.load true 7 5) 10 true rfl ?_
 refine bK h fun y1 hy1 h => ?_
 refine RegJ.op (Op1.callg (g := (a8.Kind == (2 : Int))) (y' := vi y1) (obx := [some (.row 7 [.agg [eS 1 vt a0, eS 1 vt a1, eS 4 eRoad a2, eS 3 eGrand a3, vi a4, vi a5, .map 1]]), some (.mp (mpE vi (eM eArr2_Str vi) a6))]) _ _ (cy (IG 14 (.call 94 [11, 12, 13]) 10 true)) rfl (fun hg => diary_plan_tuning_ok n a0 a1 a2 a3 a4 a5 a6 a7 a8 y1 (gcall_some hy1 hg)) [0, 1] (fun hg => by kernel_rfl) (fun hg => (.cons rfl (.cons hg (.cons hg (.cons hg .nil))))) (by kernel_rfl) (by kernel_rfl) (.cons rfl (.same (mp_ren vi_frz (eM_frz eArr2_Str vi) _ _) .nil)) (by kernel_rfl) (by kernel_rfl)) ?_
 refine gk (vb (decide (y1 < (0 : Int)))) 15 (.bin .lss false 14 (ki 0)) 10 true rfl (fun hg => (.cons hg (.cons rfl .nil))) ?_
 refine pa 16 10 15 rfl rfl ?_
 refine jf (.i 16 (vb ((a8.Kind == (2 : Int)) && (decide (y1 < (0 : Int))))) .n) ?_
 refine tc h (fun c1 h => ?_) (fun c1 h => ?_)
 ·refine sk (.i 6 (vi 26) .n) ?_
  refine q3 ?_
  have h := si h
  subst h
  exact DoneS.ret (S' := ⟨[(6, vi 26)], [some (.row 7 [.agg [eS 1 vt a0, eS 1 vt a1, eS 4 eRoad a2, eS 3 eGrand a3, vi a4, vi a5, .map 1]]), some (.mp (mpE vi (eM eArr2_Str vi) a6))]⟩) (sc [0, 1] (by decide) (by kernel_rfl) (.cons rfl (obRen_mp vi_frz (eM_frz eArr2_Str vi) rfl .nil)) rfl rfl) rfl rfl
 refine q2 ?_
 refine sk (.i 6 (vi 0) .n) ?_
 refine q3 ?_
 have h := si h
 subst h
 exact DoneS.ret (S' := ⟨[(6, vi 0)], [some (.row 7 [.agg [eS 1 vt a0, eS 1 vt a1, eS 4 eRoad a2, eS 3 eGrand a3, vi a4, vi a5, .map 1]]), some (.mp (mpE vi (eM eArr2_Str vi) a6))]⟩) (sc [0, 1] (by decide) (by kernel_rfl) (.cons rfl (obRen_mp vi_frz (eM_frz eArr2_Str vi) rfl .nil)) rfl rfl) rfl rfl
set_option maxHeartbeats 1000000 in
theorem diary_plan_accept_2_ok (n : Nat) (a0 : List Str) (a1 : List Str) (a2 : List Road) (a3 : List Grand) (a4 : Int) (a5 : Int) (a6 : List (Int × List (Arr2_Str × Int))) (a7 : List Item) (r : Int × Int × (List (Int × List (Arr2_Str × Int)))) (h : diary_plan_accept_2 n a0 a1 a2 a3 a4 a5 a6 a7 = some r) : FnL Try.prog 73 [.ptr 0 0 0, eS 7 eItem a7] [some (.row 7 [.agg [eS 1 vt a0, eS 1 vt a1, eS 4 eRoad a2, eS 3 eGrand a3, vi a4, vi a5, .map 1]]), some (.mp (mpE vi (eM eArr2_Str vi) a6))] (.tup [vi r.1, vi r.2.1]) [some (.row 7 [.agg [eS 1 vt a0, eS 1 vt a1, eS 4 eRoad a2, eS 3 eGrand a3, vi a4, vi a5, .map 1]]), some (.mp (mpE vi (eM eArr2_Str vi) r.2.2))] := by
 dsimp only [diary_plan_accept_2] at h
 refine fob [4, 5] Try.call73 Try.func73 rfl (.cons rfl (.cons rfl .nil)) ?_
 refine sk .a ?_
 refine q1 ?_
 refine sj ?_
 refine rk 1 (.k2 (.i 12 (eS 7 eItem a7) .n)) ?_
 refine jo 13 (.len 0 12) (ok_len_m rfl) ?_
 refine jo 14 (.bin .gtr false 13 (ki 100)) (n_gtr (i := a7.length) (j := 100) rfl rfl) ?_
 refine jf (.d2 (.k2 (.i 14 (vb (decide (100 < a7.length))) .n))) ?_
 refine tc h (fun c1 h => ?_) (fun c1 h => ?_)
 ·refine sk (.i 4 (vi 0) (.i 5 (vi 8) .n)) ?_
  refine q3 ?_
  have h := si h
  subst h
  exact DoneS.ret Sees.refl rfl rfl
 refine q2 ?_
 refine TriE.seqK h (fun (v13 : (List (Int × List (Arr2_Str × Int)))) => St.mk [] [some (.row 7 [.agg [eS 1 vt a0, eS 1 vt a1, eS 4 eRoad a2, eS 3 eGrand a3, vi a4, vi a5, .map 1]]), some (.mp (mpE vi (eM eArr2_Str vi) v13))]) ?_ ?_
 ·rintro v13 h
  refine sk (.i 4 (vi (-1)) (.i 5 (vi 0) .n)) ?_
  refine q3 ?_
  have h := si h
  subst h
  exact DoneS.ret Sees.refl rfl rfl
 intro k1 h
 refine sj ?_
 refine rk 1 (.k2 (.i 15 (eS 7 eItem a7) .n)) ?_
 refine jo 16 (.len 0 15) (ok_len_m rfl) ?_
 refine jk 1 (.d (.k3 (.i 16 (vi (a7.length : Int)) (.i 17 (vi 0) .n)))) ?_
 refine q4 ?_
 refine TriE.loopN h (fun (t : Int × (List (Int × List (Arr2_Str × Int)))) => match t with | (v6, v7) => St.mk [(0, .ptr 0 0 0), (1, eS 7 eItem a7), (15, eS 7 eItem a7), (16, vi (a7.length : Int)), (17, vi v6)] [some (.row 7 [.agg [eS 1 vt a0, eS 1 vt a1, eS 4 eRoad a2, eS 3 eGrand a3, vi a4, vi a5, .map 1]]), some (.mp (mpE vi (eM eArr2_Str vi) v7))]) rfl ?_
 clear h
 rintro back ⟨v6, v7⟩ h
 dsimp only [diary_plan_accept_2_L1] at h
 refine sk (.k4 (.k (.i 18 (vb (decide (v6 < (a7.length : Int)))) .n))) ?_
 refine q1 ?_
 refine tc h (fun c2 h => ?_) (fun c2 h => ?_)
 ·refine q2 ?_
  refine q7 ?_
  refine sj ?_
  refine rk 1 (.k4 (.k (.i 19 (vi v6) .n))) ?_
  refine cK h fun c3 h => ?_
  refine jo 20 (.iaddr 7 15 17) (ok_iaddr_m (j := v6.toNat) rfl rfl (inB_to c3) (inB_lt c3)) ?_
  refine cK h fun c4 h => ?_
  refine jo 21 (.load true 7 20) (ok_load_fm (v := .agg [vi ((ix a7 v6.toNat).Kind), vi ((ix a7 v6.toNat).From), vi ((ix a7 v6.toNat).To), vt ((ix a7 v6.toNat).Grand), vt ((ix a7 v6.toNat).Place), vt ((ix a7 v6.toNat).Who), vi ((ix a7 v6.toNat).Deposit)]) rfl c4 rfl) ?_
  refine jko 3 (.d2 (.k4 (.k (.i 7 (.ptr 2 0 0) (.i 6 (vi v6) .n))))) [some (.row 7 [.agg [eS 1 vt a0, eS 1 vt a1, eS 4 eRoad a2, eS 3 eGrand a3, vi a4, vi a5, .map 1]]), some (.mp (mpE vi (eM eArr2_Str vi) v7)), some (.row 7 [.agg [vi ((ix a7 v6.toNat).Kind), vi ((ix a7 v6.toNat).From), vi ((ix a7 v6.toNat).To), vt ((ix a7 v6.toNat).Grand), vt ((ix a7 v6.toNat).Place), vt ((ix a7 v6.toNat).Who), vi ((ix a7 v6.toNat).Deposit)]])] ?_
  refine q1 ?_
  refine q1 ?_
  refine ts .a ?_
  refine TriE.draw (by kernel_rfl) ?_
  refine dk 5 (.i 26 (.agg [vi ((ix a7 v6.toNat).Kind), vi ((ix a7 v6.toNat).From), vi ((ix a7 v6.toNat).To), vt ((ix a7 v6.toNat).Grand), vt ((ix a7 v6.toNat).Place), vt ((ix a7 v6.toNat).Who), vi ((ix a7 v6.toNat).Deposit)]) (.i 25 (.agg [eS 1 vt a0, eS 1 vt a1, eS 4 eRoad a2, eS 3 eGrand a3, vi a4, vi a5]) (.i 24 (.ptr 0 0 0) (.i 23 (.ptr 0 0 0) (.i 22 (.ptr 0 0 0) .a))))) ?_
  refine bK h fun y8 hy8 h => ?_
  refine dc (vi y8) 0 27 [25, 26] (diary_checkItem_ok n (Diary.mk a0 a1 a2 a3 a4 a5) (ix a7 v6.toNat) y8 hy8) [] rfl ObsRen.nil ObsRen.nil rfl (.inr ⟨rfl, rfl⟩) ?_
  refine dk 1 (.i 8 (vi y8) .a) ?_
  refine dfi (ob' := [some (.row 7 [.agg [eS 1 vt a0, eS 1 vt a1, eS 4 eRoad a2, eS 3 eGrand a3, vi a4, vi a5, .map 1]]), some (.mp (mpE vi (eM eArr2_Str vi) v7)), some (.row 7 [.agg [vi ((ix a7 v6.toNat).Kind), vi ((ix a7 v6.toNat).From), vi ((ix a7 v6.toNat).To), vt ((ix a7 v6.toNat).Grand), vt ((ix a7 v6.toNat).Place), vt ((ix a7 v6.toNat).Who), vi ((ix a7 v6.toNat).Deposit)]])]) (.d4 (.d3 (.k4 (.k3 (.i 8 (vi y8) .n))))) [0, 1, 2] (.cons rfl (obRen_mp vi_frz (eM_frz eArr2_Str vi) rfl (.cons rfl .nil))) ?_
  refine sk (.k4 (.k4 (.i 29 (vb (y8 != (0 : Int))) .n))) ?_
  refine tc h (fun c5 h => ?_) (fun c5 h => ?_)
  ·refine sk (.i 4 (vi v6) (.i 5 (vi y8) .n)) ?_
   refine q3 ?_
   have h := si h
   subst h
   exact DoneS.ret (S' := ⟨[(4, vi v6), (5, vi y8)], [some (.row 7 [.agg [eS 1 vt a0, eS 1 vt a1, eS 4 eRoad a2, eS 3 eGrand a3, vi a4, vi a5, .map 1]]), some (.mp (mpE vi (eM eArr2_Str vi) v7))]⟩) (sc [0, 1] (by decide) (by kernel_rfl) (.cons rfl (obRen_mp vi_frz (eM_frz eArr2_Str vi) rfl .nil)) rfl rfl) rfl rfl
  refine q2 ?_
  refine q1 ?_
  refine q1 ?_
  refine ts (.k4 (.k3 .n)) ?_
  refine TriE.draw (by kernel_rfl) ?_
  refine dk 3 (.i 34 (vb (decide ((0 : Int) < v6))) (.i 33 (vb (decide ((0 : Int) < v6))) (.i 32 (vi v6) .a))) ?_
  refine gd (decide ((0 : Int) < v6)) (.ptr 2 0 1) 35 (.faddr 1 7) 34 true rfl (fun hg => (.cons rfl .nil)) ?_
  refine gd (decide ((0 : Int) < v6)) (vi ((ix a7 v6.toNat).From)) 36 (.load false 1 35) 34 true rfl (fun hg => (.cons hg .nil)) ?_
  refine gd (decide ((0 : Int) < v6)) (eS 7 eItem a7) 37 (.mov 1) 34 true rfl (fun hg => (.cons rfl .nil)) ?_
  refine gd (decide ((0 : Int) < v6)) (vi v6) 38 (.mov 6) 34 true rfl (fun hg => (.cons rfl .nil)) ?_
  refine cK h fun c6 h => ?_
  refine gu (decide ((0 : Int) < v6)) 39 (.bin .sub false 38 (ki 1)) 34 true rfl (fun hg => (r_sub rfl rfl (gor c6 hg))) (fun hg => (.cons hg (.cons rfl .nil))) ?_
  refine cK h fun c7 h => ?_
  refine gu (decide ((0 : Int) < v6)) 40 (.iaddr 7 37 39) 34 true rfl (fun hg => (ok_iaddr_m (j := (v6 - 1).toNat) rfl rfl (inB_to (gor c7 hg)) (inB_lt (gor c7 hg)))) (fun hg => (.cons hg (.cons hg .nil))) ?_
  refine gd (decide ((0 : Int) < v6)) (.fptr 7 (List.map eItem a7) ((v6 - 1).toNat) 1) 41 (.faddr 1 40) 34 true rfl (fun hg => (.cons hg .nil)) ?_
  refine cK h fun c8 h => ?_
  refine gu (decide ((0 : Int) < v6)) 42 (.load false 1 41) 34 true rfl (fun hg => (ok_load_fm (v := vi ((ix a7 ((v6 - 1).toNat)).From)) rfl (gor c8 hg) rfl)) (fun hg => (.cons hg .nil)) ?_
  refine gd (decide ((0 : Int) < v6)) (vb (decide (((ix a7 v6.toNat).From) < ((ix a7 ((v6 - 1).toNat)).From)))) 43 (.bin .lss false 36 42) 34 true rfl (fun hg => (.cons hg (.cons hg .nil))) ?_
  refine RegD.op (OpD.and (cy (I0 44 (.pick 34 43 (.c (.p (.bool false)))))) rfl rfl (by first | exact hokA1 | exact hokA0 | simp)) ?_
  refine dfi (ob' := [some (.row 7 [.agg [eS 1 vt a0, eS 1 vt a1, eS 4 eRoad a2, eS 3 eGrand a3, vi a4, vi a5, .map 1]]), some (.mp (mpE vi (eM eArr2_Str vi) v7)), some (.row 7 [.agg [vi ((ix a7 v6.toNat).Kind), vi ((ix a7 v6.toNat).From), vi ((ix a7 v6.toNat).To), vt ((ix a7 v6.toNat).Grand), vt ((ix a7 v6.toNat).Place), vt ((ix a7 v6.toNat).Who), vi ((ix a7 v6.toNat).Deposit)]])]) (.d4 (.d4 (.d4 (.d (.k4 (.k3 (.i 44 (vb ((decide ((0 : Int) < v6)) && (decide (((ix a7 v6.toNat).From) < ((ix a7 ((v6 - 1).toNat)).From))))) .n))))))) [0, 1, 2] (.cons rfl (obRen_mp vi_frz (eM_frz eArr2_Str vi) rfl (.cons rfl .nil))) ?_
  refine tc h (fun c9 h => ?_) (fun c9 h => ?_)
  ·refine sk (.i 4 (vi v6) (.i 5 (vi 9) .n)) ?_
   refine q3 ?_
   have h := si h
   subst h
   exact DoneS.ret (S' := ⟨[(4, vi v6), (5, vi 9)], [some (.row 7 [.agg [eS 1 vt a0, eS 1 vt a1, eS 4 eRoad a2, eS 3 eGrand a3, vi a4, vi a5, .map 1]]), some (.mp (mpE vi (eM eArr2_Str vi) v7))]⟩) (sc [0, 1] (by decide) (by kernel_rfl) (.cons rfl (obRen_mp vi_frz (eM_frz eArr2_Str vi) rfl .nil)) rfl rfl) rfl rfl
  refine q2 ?_
  refine sk (.k4 (.k3 (.i 54 (.agg [.fn (.func 107) [.ptr 0 0 0] [], .fn (.func 108) [.ptr 0 0 0] [], .fn (.func 109) [.ptr 0 0 0] [], .fn (.func 110) [.ptr 0 0 0] []]) (.i 55 (vi 0) .n)))) ?_
  refine q4 ?_
  refine TriE.rnd 5 ?_
  refine RndE.seq ?_
  refine sk (.k4 (.k4 (.k (.i 56 (vb true) .n)))) ?_
  refine q1 ?_
  refine TriE.cond (b := true) rfl (fun c10 => ?_) (fun c10 => ?_)
  rotate_left
  ·cases c10
  refine q2 ?_
  refine q7 ?_
  refine sk (.k4 (.k4 (.k (.i 10 (.fn (.func 107) [.ptr 0 0 0] []) .n)))) ?_
  refine q1 ?_
  refine ts .a ?_
  refine TriE.draw (by kernel_rfl) ?_
  refine dk 3 (.i 60 (vi v6) (.i 59 (eS 7 eItem a7) (.i 58 (.fn (.func 107) [.ptr 0 0 0] []) .a))) ?_
  refine cK h fun c11 h => ?_
  refine dp 61 (.slc 7 59 none (some 60) none) (ok_slc_hi (j := v6.toNat) rfl rfl (inC_to c11) (inC_le c11)) ?_
  refine dk 1 (.i 62 (.agg [vi ((ix a7 v6.toNat).Kind), vi ((ix a7 v6.toNat).From), vi ((ix a7 v6.toNat).To), vt ((ix a7 v6.toNat).Grand), vt ((ix a7 v6.toNat).Place), vt ((ix a7 v6.toNat).Who), vi ((ix a7 v6.toNat).Deposit)]) .a) ?_
  refine bK h fun y9 hy9 h => ?_
  refine RegD.op (OpD.dyn (y' := vi y9) (obx := [some (.row 7 [.agg [eS 1 vt a0, eS 1 vt a1, eS 4 eRoad a2, eS 3 eGrand a3, vi a4, vi a5, .map 1]]), some (.mp (mpE vi (eM eArr2_Str vi) v7))]) (oby := [some (.row 7 [.agg [eS 1 vt a0, eS 1 vt a1, eS 4 eRoad a2, eS 3 eGrand a3, vi a4, vi a5, .map 1]]), some (.mp (mpE vi (eM eArr2_Str vi) v7))]) (ob2 := [some (.row 7 [.agg [eS 1 vt a0, eS 1 vt a1, eS 4 eRoad a2, eS 3 eGrand a3, vi a4, vi a5, .map 1]]), some (.mp (mpE vi (eM eArr2_Str vi) v7)), some (.row 7 [.agg [vi ((ix a7 v6.toNat).Kind), vi ((ix a7 v6.toNat).From), vi ((ix a7 v6.toNat).To), vt ((ix a7 v6.toNat).Grand), vt ((ix a7 v6.toNat).Place), vt ((ix a7 v6.toNat).Who), vi ((ix a7 v6.toNat).Deposit)]]), none, none, none, none, none, none]) (tch := []) 0 _ _ _ (cy (I0 63 (.dyn 58 [61, 62]))) rfl (diary_plan_changes_ok n a0 a1 a2 a3 a4 a5 v7 (List.take v6.toNat a7) (ix a7 v6.toNat) y9 hy9) [0, 1] (by kernel_rfl) (.cons rfl (.cons rfl (.cons rfl .nil))) (by kernel_rfl) (by kernel_rfl) (.cons rfl (.same (mp_ren vi_frz (eM_frz eArr2_Str vi) _ _) .nil)) (by kernel_rfl) (.cons rfl (.same (mp_ren vi_frz (eM_frz eArr2_Str vi) _ _) .nil)) (by kernel_rfl) rfl (.inr ⟨rfl, rfl⟩)) ?_
  refine dk 1 (.i 11 (vi y9) .a) ?_
  refine dfi (ob' := [some (.row 7 [.agg [eS 1 vt a0, eS 1 vt a1, eS 4 eRoad a2, eS 3 eGrand a3, vi a4, vi a5, .map 1]]), some (.mp (mpE vi (eM eArr2_Str vi) v7)), some (.row 7 [.agg [vi ((ix a7 v6.toNat).Kind), vi ((ix a7 v6.toNat).From), vi ((ix a7 v6.toNat).To), vt ((ix a7 v6.toNat).Grand), vt ((ix a7 v6.toNat).Place), vt ((ix a7 v6.toNat).Who), vi ((ix a7 v6.toNat).Deposit)]])]) (.d4 (.d3 (.k4 (.k4 (.k (.i 11 (vi y9) .n)))))) [0, 1, 2] (.cons rfl (obRen_mp vi_frz (eM_frz eArr2_Str vi) rfl (.cons rfl .nil))) ?_
  refine sk (.k4 (.k4 (.k2 (.i 65 (vb (y9 != (0 : Int))) .n)))) ?_
  refine tc h (fun c12 h => ?_) (fun c12 h => ?_)
  ·refine sk (.i 4 (vi v6) (.i 5 (vi y9) .n)) ?_
   refine q3 ?_
   have h := si h
   subst h
   exact DoneS.ret (S' := ⟨[(4, vi v6), (5, vi y9)], [some (.row 7 [.agg [eS 1 vt a0, eS 1 vt a1, eS 4 eRoad a2, eS 3 eGrand a3, vi a4, vi a5, .map 1]]), some (.mp (mpE vi (eM eArr2_Str vi) v7))]⟩) (sc [0, 1] (by decide) (by kernel_rfl) (.cons rfl (obRen_mp vi_frz (eM_frz eArr2_Str vi) rfl .nil)) rfl rfl) rfl rfl
  refine q2 ?_
  refine q6 ?_
  refine jo 68 (.bin .add false 55 (ki 1)) (r_addn (i := 0) (j := 1) rfl rfl rfl) ?_
  refine jk 1 (.d (.k4 (.k4 (.i 55 (vi 1) .n)))) ?_
  refine RndE.seq ?_
  refine sk (.k4 (.k4 (.k (.i 56 (vb true) .n)))) ?_
  refine q1 ?_
  refine TriE.cond (b := true) rfl (fun c13 => ?_) (fun c13 => ?_)
  rotate_left
  ·cases c13
  refine q2 ?_
  refine q7 ?_
  refine sk (.k4 (.k4 (.k (.i 10 (.fn (.func 108) [.ptr 0 0 0] []) .n)))) ?_
  refine q1 ?_
  refine ts .a ?_
  refine TriE.draw (by kernel_rfl) ?_
  refine dk 3 (.i 60 (vi v6) (.i 59 (eS 7 eItem a7) (.i 58 (.fn (.func 108) [.ptr 0 0 0] []) .a))) ?_
  refine dp 61 (.slc 7 59 none (some 60) none) (ok_slc_hi (j := v6.toNat) rfl rfl (inC_to c11) (inC_le c11)) ?_
  refine dk 1 (.i 62 (.agg [vi ((ix a7 v6.toNat).Kind), vi ((ix a7 v6.toNat).From), vi ((ix a7 v6.toNat).To), vt ((ix a7 v6.toNat).Grand), vt ((ix a7 v6.toNat).Place), vt ((ix a7 v6.toNat).Who), vi ((ix a7 v6.toNat).Deposit)]) .a) ?_
  refine bK h fun y10 hy10 h => ?_
  refine RegD.op (OpD.dyn (y' := vi y10.1) (obx := [some (.row 7 [.agg [eS 1 vt a0, eS 1 vt a1, eS 4 eRoad a2, eS 3 eGrand a3, vi a4, vi a5, .map 1]]), some (.mp (mpE vi (eM eArr2_Str vi) v7))]) (oby := [some (.row 7 [.agg [eS 1 vt a0, eS 1 vt a1, eS 4 eRoad a2, eS 3 eGrand a3, vi a4, vi a5, .map 1]]), some (.mp (mpE vi (eM eArr2_Str vi) y10.2))]) (ob2 := [some (.row 7 [.agg [eS 1 vt a0, eS 1 vt a1, eS 4 eRoad a2, eS 3 eGrand a3, vi a4, vi a5, .map 1]]), some (.mp (mpE vi (eM eArr2_Str vi) y10.2)), some (.row 7 [.agg [vi ((ix a7 v6.toNat).Kind), vi ((ix a7 v6.toNat).From), vi ((ix a7 v6.toNat).To), vt ((ix a7 v6.toNat).Grand), vt ((ix a7 v6.toNat).Place), vt ((ix a7 v6.toNat).Who), vi ((ix a7 v6.toNat).Deposit)]]), none, none, none, none, none, none]) (tch := [0, 1]) 0 _ _ _ (cy (I0 63 (.dyn 58 [61, 62]))) rfl (diary_plan_stands_ok n a0 a1 a2 a3 a4 a5 v7 (List.take v6.toNat a7) (ix a7 v6.toNat) y10 hy10) [0, 1] (by kernel_rfl) (.cons rfl (.cons rfl (.cons rfl .nil))) (by kernel_rfl) (by kernel_rfl) (.cons rfl (.same (mp_ren vi_frz (eM_frz eArr2_Str vi) _ _) .nil)) (by kernel_rfl) (.cons rfl (.same (mp_ren vi_frz (eM_frz eArr2_Str vi) _ _) .nil)) (by kernel_rfl) rfl (.inl rfl)) ?_
  refine dk 1 (.i 11 (vi y10.1) .a) ?_
  refine dfi (ob' := [some (.row 7 [.agg [eS 1 vt a0, eS 1 vt a1, eS 4 eRoad a2, eS 3 eGrand a3, vi a4, vi a5, .map 1]]), some (.mp (mpE vi (eM eArr2_Str vi) y10.2)), some (.row 7 [.agg [vi ((ix a7 v6.toNat).Kind), vi ((ix a7 v6.toNat).From), vi ((ix a7 v6.toNat).To), vt ((ix a7 v6.toNat).Grand), vt ((ix a7 v6.toNat).Place), vt ((ix a7 v6.toNat).Who), vi ((ix a7 v6.toNat).Deposit)]])]) (.d4 (.d3 (.k4 (.k4 (.k (.i 11 (vi y10.1) .n)))))) [0, 1, 2] (.cons rfl (obRen_mp vi_frz (eM_frz eArr2_Str vi) rfl (.cons rfl .nil))) ?_
  refine sk (.k4 (.k4 (.k2 (.i 65 (vb (y10.1 != (0 : Int))) .n)))) ?_
  refine tc h (fun c14 h => ?_) (fun c14 h => ?_)
  ·refine sk (.i 4 (vi v6) (.i 5 (vi y10.1) .n)) ?_
   refine q3 ?_
   have h := si h
   subst h
   exact DoneS.ret (S' := ⟨[(4, vi v6), (5, vi y10.1)], [some (.row 7 [.agg [eS 1 vt a0, eS 1 vt a1, eS 4 eRoad a2, eS 3 eGrand a3, vi a4, vi a5, .map 1]]), some (.mp (mpE vi (eM eArr2_Str vi) y10.2))]⟩) (sc [0, 1] (by decide) (by kernel_rfl) (.cons rfl (obRen_mp vi_frz (eM_frz eArr2_Str vi) rfl .nil)) rfl rfl) rfl rfl
  refine q2 ?_
  refine q6 ?_
  refine jo 68 (.bin .add false 55 (ki 1)) (r_addn (i := 1) (j := 1) rfl rfl rfl) ?_
  refine jk 1 (.d (.k4 (.k4 (.i 55 (vi 2) .n)))) ?_
  refine RndE.seq ?_
  refine sk (.k4 (.k4 (.k (.i 56 (vb true) .n)))) ?_
  refine q1 ?_
  refine TriE.cond (b := true) rfl (fun c15 => ?_) (fun c15 => ?_)
  rotate_left
  ·cases c15
  refine q2 ?_
  refine q7 ?_
  refine sk (.k4 (.k4 (.k (.i 10 (.fn (.func 109) [.ptr 0 0 0] []) .n)))) ?_
  refine q1 ?_
  refine ts .a ?_
  refine TriE.draw (by kernel_rfl) ?_
  refine dk 3 (.i 60 (vi v6) (.i 59 (eS 7 eItem a7) (.i 58 (.fn (.func 109) [.ptr 0 0 0] []) .a))) ?_
  refine dp 61 (.slc 7 59 none (some 60) none) (ok_slc_hi (j := v6.toNat) rfl rfl (inC_to c11) (inC_le c11)) ?_
  refine dk 1 (.i 62 (.agg [vi ((ix a7 v6.toNat).Kind), vi ((ix a7 v6.toNat).From), vi ((ix a7 v6.toNat).To), vt ((ix a7 v6.toNat).Grand), vt ((ix a7 v6.toNat).Place), vt ((ix a7 v6.toNat).Who), vi ((ix a7 v6.toNat).Deposit)]) .a) ?_
  refine bK h fun y11 hy11 h => ?_
  refine RegD.op (OpD.dyn (y' := vi y11.1) (obx := [some (.row 7 [.agg [eS 1 vt a0, eS 1 vt a1, eS 4 eRoad a2, eS 3 eGrand a3, vi a4, vi a5, .map 1]]), some (.mp (mpE vi (eM eArr2_Str vi) y10.2))]) (oby := [some (.row 7 [.agg [eS 1 vt a0, eS 1 vt a1, eS 4 eRoad a2, eS 3 eGrand a3, vi a4, vi a5, .map 1]]), some (.mp (mpE vi (eM eArr2_Str vi) y11.2))]) (ob2 := [some (.row 7 [.agg [eS 1 vt a0, eS 1 vt a1, eS 4 eRoad a2, eS 3 eGrand a3, vi a4, vi a5, .map 1]]), some (.mp (mpE vi (eM eArr2_Str vi) y11.2)), some (.row 7 [.agg [vi ((ix a7 v6.toNat).Kind), vi ((ix a7 v6.toNat).From), vi ((ix a7 v6.toNat).To), vt ((ix a7 v6.toNat).Grand), vt ((ix a7 v6.toNat).Place), vt ((ix a7 v6.toNat).Who), vi ((ix a7 v6.toNat).Deposit)]]), none, none, none, none, none, none]) (tch := [0, 1]) 0 _ _ _ (cy (I0 63 (.dyn 58 [61, 62]))) rfl (diary_plan_travels_ok n a0 a1 a2 a3 a4 a5 y10.2 (List.take v6.toNat a7) (ix a7 v6.toNat) y11 hy11) [0, 1] (by kernel_rfl) (.cons rfl (.cons rfl (.cons rfl .nil))) (by kernel_rfl) (by kernel_rfl) (.cons rfl (.same (mp_ren vi_frz (eM_frz eArr2_Str vi) _ _) .nil)) (by kernel_rfl) (.cons rfl (.same (mp_ren vi_frz (eM_frz eArr2_Str vi) _ _) .nil)) (by kernel_rfl) rfl (.inl rfl)) ?_
  refine dk 1 (.i 11 (vi y11.1) .a) ?_
  refine dfi (ob' := [some (.row 7 [.agg [eS 1 vt a0, eS 1 vt a1, eS 4 eRoad a2, eS 3 eGrand a3, vi a4, vi a5, .map 1]]), some (.mp (mpE vi (eM eArr2_Str vi) y11.2)), some (.row 7 [.agg [vi ((ix a7 v6.toNat).Kind), vi ((ix a7 v6.toNat).From), vi ((ix a7 v6.toNat).To), vt ((ix a7 v6.toNat).Grand), vt ((ix a7 v6.toNat).Place), vt ((ix a7 v6.toNat).Who), vi ((ix a7 v6.toNat).Deposit)]])]) (.d4 (.d3 (.k4 (.k4 (.k (.i 11 (vi y11.1) .n)))))) [0, 1, 2] (.cons rfl (obRen_mp vi_frz (eM_frz eArr2_Str vi) rfl (.cons rfl .nil))) ?_
  refine sk (.k4 (.k4 (.k2 (.i 65 (vb (y11.1 != (0 : Int))) .n)))) ?_
  refine tc h (fun c16 h => ?_) (fun c16 h => ?_)
  ·refine sk (.i 4 (vi v6) (.i 5 (vi y11.1) .n)) ?_
   refine q3 ?_
   have h := si h
   subst h
   exact DoneS.ret (S' := ⟨[(4, vi v6), (5, vi y11.1)], [some (.row 7 [.agg [eS 1 vt a0, eS 1 vt a1, eS 4 eRoad a2, eS 3 eGrand a3, vi a4, vi a5, .map 1]]), some (.mp (mpE vi (eM eArr2_Str vi) y11.2))]⟩) (sc [0, 1] (by decide) (by kernel_rfl) (.cons rfl (obRen_mp vi_frz (eM_frz eArr2_Str vi) rfl .nil)) rfl rfl) rfl rfl
  refine q2 ?_
  refine q6 ?_
  refine jo 68 (.bin .add false 55 (ki 1)) (r_addn (i := 2) (j := 1) rfl rfl rfl) ?_
  refine jk 1 (.d (.k4 (.k4 (.i 55 (vi 3) .n)))) ?_
  refine RndE.seq ?_
  refine sk (.k4 (.k4 (.k (.i 56 (vb true) .n)))) ?_
  refine q1 ?_
  refine TriE.cond (b := true) rfl (fun c17 => ?_) (fun c17 => ?_)
  rotate_left
  ·cases c17
  refine q2 ?_
  refine q7 ?_
  refine sk (.k4 (.k4 (.k (.i 10 (.fn (.func 110) [.ptr 0 0 0] []) .n)))) ?_
  refine q1 ?_
  refine ts .a ?_
  refine TriE.draw (by kernel_rfl) ?_
  refine dk 3 (.i 60 (vi v6) (.i 59 (eS 7 eItem a7) (.i 58 (.fn (.func 110) [.ptr 0 0 0] []) .a))) ?_
  refine dp 61 (.slc 7 59 none (some 60) none) (ok_slc_hi (j := v6.toNat) rfl rfl (inC_to c11) (inC_le c11)) ?_
  refine dk 1 (.i 62 (.agg [vi ((ix a7 v6.toNat).Kind), vi ((ix a7 v6.toNat).From), vi ((ix a7 v6.toNat).To), vt ((ix a7 v6.toNat).Grand), vt ((ix a7 v6.toNat).Place), vt ((ix a7 v6.toNat).Who), vi ((ix a7 v6.toNat).Deposit)]) .a) ?_
  refine bK h fun y12 hy12 h => ?_
  refine RegD.op (OpD.dyn (y' := vi y12) (obx := [some (.row 7 [.agg [eS 1 vt a0, eS 1 vt a1, eS 4 eRoad a2, eS 3 eGrand a3, vi a4, vi a5, .map 1]]), some (.mp (mpE vi (eM eArr2_Str vi) y11.2))]) (oby := [some (.row 7 [.agg [eS 1 vt a0, eS 1 vt a1, eS 4 eRoad a2, eS 3 eGrand a3, vi a4, vi a5, .map 1]]), some (.mp (mpE vi (eM eArr2_Str vi) y11.2))]) (ob2 := [some (.row 7 [.agg [eS 1 vt a0, eS 1 vt a1, eS 4 eRoad a2, eS 3 eGrand a3, vi a4, vi a5, .map 1]]), some (.mp (mpE vi (eM eArr2_Str vi) y11.2)), some (.row 7 [.agg [vi ((ix a7 v6.toNat).Kind), vi ((ix a7 v6.toNat).From), vi ((ix a7 v6.toNat).To), vt ((ix a7 v6.toNat).Grand), vt ((ix a7 v6.toNat).Place), vt ((ix a7 v6.toNat).Who), vi ((ix a7 v6.toNat).Deposit)]]), none, none, none, none, none, none]) (tch := []) 0 _ _ _ (cy (I0 63 (.dyn 58 [61, 62]))) rfl (diary_plan_isTuned_ok n a0 a1 a2 a3 a4 a5 y11.2 (List.take v6.toNat a7) (ix a7 v6.toNat) y12 hy12) [0, 1] (by kernel_rfl) (.cons rfl (.cons rfl (.cons rfl .nil))) (by kernel_rfl) (by kernel_rfl) (.cons rfl (.same (mp_ren vi_frz (eM_frz eArr2_Str vi) _ _) .nil)) (by kernel_rfl) (.cons rfl (.same (mp_ren vi_frz (eM_frz eArr2_Str vi) _ _) .nil)) (by kernel_rfl) rfl (.inr ⟨rfl, rfl⟩)) ?_
  refine dk 1 (.i 11 (vi y12) .a) ?_
  refine dfi (ob' := [some (.row 7 [.agg [eS 1 vt a0, eS 1 vt a1, eS 4 eRoad a2, eS 3 eGrand a3, vi a4, vi a5, .map 1]]), some (.mp (mpE vi (eM eArr2_Str vi) y11.2)), some (.row 7 [.agg [vi ((ix a7 v6.toNat).Kind), vi ((ix a7 v6.toNat).From), vi ((ix a7 v6.toNat).To), vt ((ix a7 v6.toNat).Grand), vt ((ix a7 v6.toNat).Place), vt ((ix a7 v6.toNat).Who), vi ((ix a7 v6.toNat).Deposit)]])]) (.d4 (.d3 (.k4 (.k4 (.k (.i 11 (vi y12) .n)))))) [0, 1, 2] (.cons rfl (obRen_mp vi_frz (eM_frz eArr2_Str vi) rfl (.cons rfl .nil))) ?_
  refine sk (.k4 (.k4 (.k2 (.i 65 (vb (y12 != (0 : Int))) .n)))) ?_
  refine tc h (fun c18 h => ?_) (fun c18 h => ?_)
  ·refine sk (.i 4 (vi v6) (.i 5 (vi y12) .n)) ?_
   refine q3 ?_
   have h := si h
   subst h
   exact DoneS.ret (S' := ⟨[(4, vi v6), (5, vi y12)], [some (.row 7 [.agg [eS 1 vt a0, eS 1 vt a1, eS 4 eRoad a2, eS 3 eGrand a3, vi a4, vi a5, .map 1]]), some (.mp (mpE vi (eM eArr2_Str vi) y11.2))]⟩) (sc [0, 1] (by decide) (by kernel_rfl) (.cons rfl (obRen_mp vi_frz (eM_frz eArr2_Str vi) rfl .nil)) rfl rfl) rfl rfl
  refine q2 ?_
  refine q6 ?_
  refine jo 68 (.bin .add false 55 (ki 1)) (r_addn (i := 3) (j := 1) rfl rfl rfl) ?_
  refine jk 1 (.d (.k4 (.k4 (.i 55 (vi 4) .n)))) ?_
  refine RndE.seq ?_
  refine sk (.k4 (.k4 (.k (.i 56 (vb false) .n)))) ?_
  refine q1 ?_
  refine TriE.cond (b := false) rfl (fun c19 => ?_) (fun c19 => ?_)
  ·cases c19
  refine q5 ?_
  refine q6 ?_
  refine cK h fun c20 h => ?_
  refine jo 69 (.bin .add false 17 (ki 1)) (r_add rfl rfl c20) ?_
  refine jk 1 (.d (.k4 (.i 17 (vi (v6 + 1)) .n))) ?_
  exact Vs.intro (sc [0, 1] (by decide) (by kernel_rfl) (.cons rfl (obRen_mp vi_frz (eM_frz eArr2_Str vi) rfl .nil)) rfl rfl) ⟨(v6 + 1, y11.2), rfl, h⟩
 refine q5 ?_
 exact Vs.intro sy ⟨v7, rfl, h⟩
theorem diary_Accept_ok (n : Nat) (a0 : Diary) (a1 : List Item) (r : Int × Int) (h : diary_Accept n a0 a1 = some r) : FnL Try.prog 22 [.agg [eS 1 vt a0.Places, eS 1 vt a0.Technicians, eS 4 eRoad a0.Roads, eS 3 eGrand a0.Grands, vi a0.Change, vi a0.Lasts], eS 7 eItem a1] [] (.tup [vi r.2, vi r.1]) [] := by
 dsimp only [diary_Accept] at h
 refine fo [4, 5] Try.call22 Try.func22 rfl ?_
 refine sko (.d (.k (.i 2 (.ptr 0 0 0) .n))) [some (.row 6 [.agg [eS 1 vt a0.Places, eS 1 vt a0.Technicians, eS 4 eRoad a0.Roads, eS 3 eGrand a0.Grands, vi a0.Change, vi a0.Lasts]])] ?_
 refine TriE.seqK2 h (fun (v4 : Int) => St.mk [(1, eS 7 eItem a1), (6, .p (.pointer none)), (7, vi v4)] []) (fun (_ : Unit) => St.mk [(1, eS 7 eItem a1), (6, .ptr 1 0 0), (7, vi 0)] [some (.mp (mpE vi (eM eArr2_Str vi) ([] : List (Int × List (Arr2_Str × Int))))), some (.row 7 [.agg [eS 1 vt a0.Places, eS 1 vt a0.Technicians, eS 4 eRoad a0.Roads, eS 3 eGrand a0.Grands, vi a0.Change, vi a0.Lasts, .map 0]])]) ?_ ?_ ?_
 ·rintro v4 h
  refine q1 ?_
  refine sk (.k3 (.i 14 (vb (v4 != (0 : Int))) .n)) ?_
  refine tc h (fun c1 h => ?_) (fun c1 h => ?_)
  ·refine sk (.i 4 (vi 0) (.i 5 (vi v4) .n)) ?_
   refine q3 ?_
   have h := si h
   subst h
   exact DoneS.ret Sees.refl rfl rfl
  refine q2 ?_
  refine sj ?_
  refine rk 2 (.i 16 (.p (.pointer none)) (.i 17 (eS 7 eItem a1) .n)) ?_
  refine bK h fun y5 hy5 h => ?_
  refine jc 18 [16, 17] (diary_plan_accept_ok n a1 y5 hy5) ?_
  refine jk 4 (.i 4 (vi y5.1) (.i 5 (vi y5.2) .n)) ?_
  refine q3 ?_
  have h := si h
  subst h
  exact DoneS.ret Sees.refl rfl rfl
 ·rintro ⟨⟩ h
  refine q1 ?_
  refine sk (.k3 (.i 14 (vb false) .n)) ?_
  refine TriE.cond (b := false) rfl (fun c2 => ?_) (fun c2 => ?_)
  ·cases c2
  refine q2 ?_
  refine sj ?_
  refine rk 2 (.i 16 (.ptr 1 0 0) (.i 17 (eS 7 eItem a1) .n)) ?_
  refine bK h fun y6 hy6 h => ?_
  refine jco (.tup [vi y6.1, vi y6.2.1]) 18 [16, 17] (diary_plan_accept_2_ok n a0.Places a0.Technicians a0.Roads a0.Grands a0.Change a0.Lasts ([] : List (Int × List (Arr2_Str × Int))) a1 y6 hy6) [1, 0] rfl (.cons rfl (.same (mp_ren vi_frz (eM_frz eArr2_Str vi) _ _) .nil)) (.cons rfl (.same (mp_ren vi_frz (eM_frz eArr2_Str vi) _ _) .nil)) rfl ?_
  refine jk 4 (.i 4 (vi y6.1) (.i 5 (vi y6.2.1) .n)) ?_
  refine q3 ?_
  have h := si h
  subst h
  exact DoneS.ret (S' := ⟨[(4, vi y6.1), (5, vi y6.2.1)], []⟩) (sc [] (by decide) (by kernel_rfl) ObRen.nil rfl rfl) rfl rfl
 intro k1 k2 h
 refine q6 ?_
 refine rk 1 (.k (.i 9 (.agg [eS 1 vt a0.Places, eS 1 vt a0.Technicians, eS 4 eRoad a0.Roads, eS 3 eGrand a0.Grands, vi a0.Change, vi a0.Lasts]) .n)) ?_
 refine bK h fun y1 hy1 h => ?_
 rcases y1 with y1 | y1
 ·dsimp only at h
  refine jc 10 [9] (diary_open_ok n a0 (Sum.inl y1) hy1) ?_
  refine jk 5 (.d (.k (.i 6 (.p (.pointer none)) (.i 7 (vi y1) .n)))) ?_
  exact Vs.intro (sc [] (by decide) (by kernel_rfl) ObRen.nil rfl rfl) (.inl ⟨y1, rfl, h⟩)
 dsimp only at h
 refine jco (.tup [.ptr 2 0 0, vi 0]) 10 [9] (diary_open_ok n a0 (Sum.inr y1) hy1) [] rfl ObsRen.nil (.same (mp_ren vi_frz (eM_frz eArr2_Str vi) _ _) (.cons rfl .nil)) rfl ?_
 refine jk 5 (.d (.k (.i 6 (.ptr 2 0 0) (.i 7 (vi 0) .n)))) ?_
 exact Vs.intro (sc [1, 2] (by decide) (by kernel_rfl) (obRen_mp vi_frz (eM_frz eArr2_Str vi) rfl (.cons rfl .nil)) rfl rfl) (.inr ⟨(), rfl, h⟩)
theorem diary_read_ok (n : Nat) (a0 : Diary) (a1 : List Item) (r : Int ⊕ (Int × (List (Int × List (Arr2_Str × Int))))) (h : diary_read n a0 a1 = some r) : FnL Try.prog 74 [.agg [eS 1 vt a0.Places, eS 1 vt a0.Technicians, eS 4 eRoad a0.Roads, eS 3 eGrand a0.Grands, vi a0.Change, vi a0.Lasts], eS 7 eItem a1] [] (match r with | .inl r => .tup [.p (.pointer none), vi r] | .inr r => .tup [.ptr 1 0 0, vi r.1]) (match r with | .inl r => [] | .inr r => [some (.mp (mpE vi (eM eArr2_Str vi) r.2)), some (.row 7 [.agg [eS 1 vt a0.Places, eS 1 vt a0.Technicians, eS 4 eRoad a0.Roads, eS 3 eGrand a0.Grands, vi a0.Change, vi a0.Lasts, .map 0]])]) := by
 dsimp only [diary_read] at h
 refine FnL.ofS (ts := [4, 5]) Try.call74 Try.func74 rfl rfl (Nat.le_of_ble_eq_true rfl) (by rcases r with r | r <;> exact Nat.le_of_ble_eq_true rfl) (fun j h => absurd h (Nat.not_lt_zero j)) ?_
 refine sko (.d (.k (.i 2 (.ptr 0 0 0) .n))) [some (.row 6 [.agg [eS 1 vt a0.Places, eS 1 vt a0.Technicians, eS 4 eRoad a0.Roads, eS 3 eGrand a0.Grands, vi a0.Change, vi a0.Lasts]])] ?_
 refine TriE.seqK2 h (fun (v4 : Int) => St.mk [(1, eS 7 eItem a1), (6, .p (.pointer none)), (7, vi v4)] []) (fun (_ : Unit) => St.mk [(1, eS 7 eItem a1), (6, .ptr 1 0 0), (7, vi 0)] [some (.mp (mpE vi (eM eArr2_Str vi) ([] : List (Int × List (Arr2_Str × Int))))), some (.row 7 [.agg [eS 1 vt a0.Places, eS 1 vt a0.Technicians, eS 4 eRoad a0.Roads, eS 3 eGrand a0.Grands, vi a0.Change, vi a0.Lasts, .map 0]])]) ?_ ?_ ?_
 ·rintro v4 h
  refine q1 ?_
  refine sk (.k3 (.i 14 (vb (v4 != (0 : Int))) .n)) ?_
  refine tc h (fun c1 h => ?_) (fun c1 h => ?_)
  ·refine sk (.i 4 (.p (.pointer none)) (.i 5 (vi v4) .n)) ?_
   refine q3 ?_
   have h := si h
   subst h
   exact DoneS.ret Sees.refl rfl rfl
  refine q2 ?_
  refine sj ?_
  refine rk 2 (.d (.k (.i 17 (.p (.pointer none)) (.i 18 (eS 7 eItem a1) .n)))) ?_
  refine bK h fun y5 hy5 h => ?_
  refine jc 19 [17, 18] (diary_plan_accept_ok n a1 y5 hy5) ?_
  refine jk 4 (.d (.k (.i 7 (vi y5.2) .n))) ?_
  refine sk (.i 4 (.p (.pointer none)) (.i 5 (vi y5.2) .n)) ?_
  refine q3 ?_
  have h := si h
  subst h
  exact DoneS.ret Sees.refl rfl rfl
 ·rintro ⟨⟩ h
  refine q1 ?_
  refine sk (.k3 (.i 14 (vb false) .n)) ?_
  refine TriE.cond (b := false) rfl (fun c2 => ?_) (fun c2 => ?_)
  ·cases c2
  refine q2 ?_
  refine sj ?_
  refine rk 2 (.d (.k (.i 17 (.ptr 1 0 0) (.i 18 (eS 7 eItem a1) .n)))) ?_
  refine bK h fun y6 hy6 h => ?_
  refine jco (.tup [vi y6.1, vi y6.2.1]) 19 [17, 18] (diary_plan_accept_2_ok n a0.Places a0.Technicians a0.Roads a0.Grands a0.Change a0.Lasts ([] : List (Int × List (Arr2_Str × Int))) a1 y6 hy6) [1, 0] rfl (.cons rfl (.same (mp_ren vi_frz (eM_frz eArr2_Str vi) _ _) .nil)) (.cons rfl (.same (mp_ren vi_frz (eM_frz eArr2_Str vi) _ _) .nil)) rfl ?_
  refine jk 4 (.d (.k (.i 7 (vi y6.2.1) .n))) ?_
  refine sk (.i 4 (.ptr 1 0 0) (.i 5 (vi y6.2.1) .n)) ?_
  refine q3 ?_
  have h := si h
  subst h
  exact DoneS.ret Sees.refl rfl rfl
 intro k1 k2 h
 refine q6 ?_
 refine rk 1 (.k (.i 9 (.agg [eS 1 vt a0.Places, eS 1 vt a0.Technicians, eS 4 eRoad a0.Roads, eS 3 eGrand a0.Grands, vi a0.Change, vi a0.Lasts]) .n)) ?_
 refine bK h fun y1 hy1 h => ?_
 rcases y1 with y1 | y1
 ·dsimp only at h
  refine jc 10 [9] (diary_open_ok n a0 (Sum.inl y1) hy1) ?_
  refine jk 5 (.d (.k (.i 6 (.p (.pointer none)) (.i 7 (vi y1) .n)))) ?_
  exact Vs.intro (sc [] (by decide) (by kernel_rfl) ObRen.nil rfl rfl) (.inl ⟨y1, rfl, h⟩)
 dsimp only at h
 refine jco (.tup [.ptr 2 0 0, vi 0]) 10 [9] (diary_open_ok n a0 (Sum.inr y1) hy1) [] rfl ObsRen.nil (.same (mp_ren vi_frz (eM_frz eArr2_Str vi) _ _) (.cons rfl .nil)) rfl ?_
 refine jk 5 (.d (.k (.i 6 (.ptr 2 0 0) (.i 7 (vi 0) .n)))) ?_
 exact Vs.intro (sc [1, 2] (by decide) (by kernel_rfl) (obRen_mp vi_frz (eM_frz eArr2_Str vi) rfl (.cons rfl .nil)) rfl rfl) (.inr ⟨(), rfl, h⟩)
theorem agraffelaw09_short_ok (n : Nat) (a0 : List Str) (a1 : Int) (a2 : Int) (r : Bool) (h : agraffelaw09_short n a0 a1 a2 = some r) : FnL Try.prog 26 [eS 1 vt a0, vi a1, vi a2] [] (vb r) [] := by
 dsimp only [agraffelaw09_short] at h
 refine fo [6] Try.call26 Try.func26 rfl ?_
 refine sk .a ?_
 refine TriE.seqK h (fun (_ : Unit) => St.mk [(0, eS 1 vt a0), (1, vi a1), (2, vi a2)] []) ?_ ?_
 ·rintro ⟨⟩ h
  refine sj ?_
  refine rk 1 (.k3 (.i 20 (eS 1 vt a0) .n)) ?_
  refine jo 21 (.len 0 20) (ok_len_m rfl) ?_
  refine rk 3 (.d (.k (.d (.k (.i 24 (vb (decide ((a0.length : Int) ≤ a1))) .n))))) ?_
  refine gj (eS 1 vt a0) 25 (.mov 0) 24 false rfl ?_
  refine gv 26 (.len 0 25) 24 false rfl (fun hg => (ok_len_m rfl)) (fun hg => (.cons hg .nil)) ?_
  refine gj (vi a2) 27 (.mov 2) 24 false rfl ?_
  refine gk (vb (decide (a2 < (a0.length : Int)))) 28 (.bin .gtr false 26 27) 24 false rfl (fun hg => (.cons hg (.cons hg .nil))) ?_
  refine gk (vb (decide (a2 < (a0.length : Int)))) 29 (.mov 28) 24 false rfl (fun hg => (.cons hg .nil)) ?_
  refine gj (eS 1 vt a0) 30 (.mov 0) 29 true rfl ?_
  refine gv 31 (.len 0 30) 29 true rfl (fun hg => (ok_len_m rfl)) (fun hg => (.cons hg .nil)) ?_
  refine gj (vi a2) 32 (.mov 2) 29 true rfl ?_
  refine cK h fun c4 h => ?_
  refine gv 33 (.bin .add false 32 (ki 3)) 29 true rfl (fun hg => (r_add rfl rfl (gor c4 hg))) (fun hg => (.cons hg (.cons rfl .nil))) ?_
  refine gk (vb (decide ((a0.length : Int) ≤ (a2 + 3)))) 34 (.bin .leq false 31 33) 29 true rfl (fun hg => (.cons hg (.cons hg .nil))) ?_
  refine RegJ.op (Op1.andg (g := !(decide ((a0.length : Int) ≤ a1))) (cy (IG 35 (.pick 29 34 (.c (.p (.bool false)))) 24 false)) rfl rfl rfl (fun hg => by first | exact hokA2 hg | exact hokA3 hg | exact hokA1 | exact hokA0 | (rw [hg]; simp) | simp_all)) ?_
  refine po 36 24 35 rfl rfl ?_
  refine jk 1 (.i 6 (vb ((decide ((a0.length : Int) ≤ a1)) || ((decide (a2 < (a0.length : Int))) && (decide ((a0.length : Int) ≤ (a2 + 3)))))) .n) ?_
  refine q3 ?_
  have h := si h
  subst h
  exact DoneS.ret Sees.refl rfl rfl
 intro k1 h
 refine sk (.k3 (.i 7 (vi 0) .n)) ?_
 refine q4 ?_
 refine ts (.k3 (.i 7 (vi 0) .n)) ?_
 refine TriE.loopN h (fun (v1 : Nat) => St.mk [(0, eS 1 vt a0), (1, vi a1), (2, vi a2), (7, vi v1)] []) rfl ?_
 clear h
 rintro back v1 h
 dsimp only [agraffelaw09_short_L1] at h
 refine q1 ?_
 refine sj ?_
 refine rk 2 (.k4 (.i 8 (vi v1) (.i 9 (eS 1 vt a0) .n))) ?_
 refine jo 10 (.len 0 9) (ok_len_m rfl) ?_
 refine jo 11 (.bin .lss false 8 10) (n_lss (i := v1) (j := a0.length) rfl rfl) ?_
 refine jf (.d2 (.k4 (.i 11 (vb (decide (v1 < a0.length))) .n))) ?_
 refine tc h (fun c1 h => ?_) (fun c1 h => ?_)
 ·refine q2 ?_
  refine q7 ?_
  refine sj ?_
  refine rk 2 (.k4 (.i 14 (eS 1 vt a0) (.i 15 (vi v1) .n))) ?_
  refine jo 16 (.iaddr 1 14 15) (ok_iaddr_m (j := v1) rfl rfl rfl c1) ?_
  refine jo 17 (.load false 1 16) (ok_load_fm (v := vt (ix a0 v1)) rfl c1 rfl) ?_
  refine jo 18 (.len 1 17) (ok_len_t rfl) ?_
  refine jo 19 (.bin .gtr false 18 (ki 30)) (n_gtr (i := (ix a0 v1).length) (j := 30) rfl rfl) ?_
  refine jf (.d4 (.k4 (.i 19 (vb (decide (30 < ((ix a0 v1).length)))) .n))) ?_
  refine tc h (fun c2 h => ?_) (fun c2 h => ?_)
  ·refine sk (.i 6 (vb false) .n) ?_
   refine q3 ?_
   have h := si h
   subst h
   exact DoneS.ret Sees.refl rfl rfl
  refine q2 ?_
  refine q6 ?_
  refine rk 1 (.k3 (.i 12 (vi v1) .n)) ?_
  refine cK h fun c3 h => ?_
  refine jo 13 (.bin .add false 12 (ki 1)) (r_addn (i := v1) (j := 1) rfl rfl c3) ?_
  refine jk 1 (.d (.k3 (.i 7 (vi ((v1 + 1 : Nat) : Int)) .n))) ?_
  exact Vs.intro sy ⟨(v1 + 1), rfl, h⟩
 refine q5 ?_
 exact Vs.intro sy ⟨(), rfl, h⟩
set_option maxHeartbeats 1000000 in
theorem agraffelaw09_Light_ok (n : Nat) (a0 : Diary) (r : Bool) (h : agraffelaw09_Light n a0 = some r) : FnL Try.prog 14 [.agg [eS 1 vt a0.Places, eS 1 vt a0.Technicians, eS 4 eRoad a0.Roads, eS 3 eGrand a0.Grands, vi a0.Change, vi a0.Lasts]] [] (vb r) [] := by
 dsimp only [agraffelaw09_Light] at h
 refine fo [2] Try.call14 Try.func14 rfl ?_
 refine sko (.i 1 (.ptr 0 0 0) .n) [some (.row 6 [.agg [eS 1 vt a0.Places, eS 1 vt a0.Technicians, eS 4 eRoad a0.Roads, eS 3 eGrand a0.Grands, vi a0.Change, vi a0.Lasts]])] ?_
 refine q1 ?_
 refine sj ?_
 refine rk 2 (.k (.i 6 (eS 1 vt a0.Places) .n)) ?_
 refine bK h fun y1 hy1 h => ?_
 refine jc 7 [6, (ki 6), (ki 20)] (agraffelaw09_short_ok n a0.Places 6 20 y1 hy1) ?_
 refine rk 2 (.d (.k (.i 9 (vb (!y1)) .n))) ?_
 refine gj (.ptr 0 0 1) 10 (.faddr 1 1) 9 false rfl ?_
 refine gk (eS 1 vt a0.Technicians) 11 (.load false 1 10) 9 false rfl (fun hg => (.cons hg .nil)) ?_
 refine bK h fun y2 hy2 h => ?_
 refine gc 12 [11, (ki 4), (ki 12)] 9 false rfl (fun hg => agraffelaw09_short_ok n a0.Technicians 4 12 y2 (gcall_some hy2 hg)) (fun hg => (.cons rfl (.cons hg (.cons rfl (.cons rfl .nil))))) (fun hg => by kernel_rfl) ?_
 refine gk (vb (!y2)) 13 (.un .not 12) 9 false rfl (fun hg => (.cons hg .nil)) ?_
 refine po 14 9 13 rfl rfl ?_
 refine rk 1 (.d4 (.d (.k (.i 15 (vb ((!y1) || (!y2))) .n)))) ?_
 refine gj (.ptr 0 0 2) 16 (.faddr 2 1) 15 false rfl ?_
 refine gk (eS 4 eRoad a0.Roads) 17 (.load false 1 16) 15 false rfl (fun hg => (.cons hg .nil)) ?_
 refine gv 18 (.len 0 17) 15 false rfl (fun hg => (ok_len_m rfl)) (fun hg => (.cons hg .nil)) ?_
 refine gv 19 (.bin .gtr false 18 (ki 8)) 15 false rfl (fun hg => (n_gtr (i := a0.Roads.length) (j := 8) rfl rfl)) (fun hg => (.cons hg (.cons rfl .nil))) ?_
 refine gk (vb (decide (8 < a0.Roads.length))) 20 (.mov 19) 15 false rfl (fun hg => (.cons hg .nil)) ?_
 refine gj (.ptr 0 0 2) 21 (.faddr 2 1) 20 true rfl ?_
 refine gk (eS 4 eRoad a0.Roads) 22 (.load false 1 21) 20 true rfl (fun hg => (.cons hg .nil)) ?_
 refine gv 23 (.len 0 22) 20 true rfl (fun hg => (ok_len_m rfl)) (fun hg => (.cons hg .nil)) ?_
 refine gv 24 (.bin .leq false 23 (ki 60)) 20 true rfl (fun hg => (n_leq (i := a0.Roads.length) (j := 60) rfl rfl)) (fun hg => (.cons hg (.cons rfl .nil))) ?_
 refine RegJ.op (Op1.andg (g := !((!y1) || (!y2))) (cy (IG 25 (.pick 20 24 (.c (.p (.bool false)))) 15 false)) rfl rfl rfl (fun hg => by first | exact hokA2 hg | exact hokA3 hg | exact hokA1 | exact hokA0 | (rw [hg]; simp) | simp_all)) ?_
 refine po 26 15 25 rfl rfl ?_
 refine rk 1 (.d4 (.d4 (.d3 (.k (.i 27 (vb (((!y1) || (!y2)) || ((decide (8 < a0.Roads.length)) && (decide (a0.Roads.length ≤ 60))))) .n))))) ?_
 refine gj (.ptr 0 0 2) 28 (.faddr 2 1) 27 false rfl ?_
 refine gk (eS 4 eRoad a0.Roads) 29 (.load false 1 28) 27 false rfl (fun hg => (.cons hg .nil)) ?_
 refine gv 30 (.len 0 29) 27 false rfl (fun hg => (ok_len_m rfl)) (fun hg => (.cons hg .nil)) ?_
 refine gv 31 (.bin .gtr false 30 (ki 63)) 27 false rfl (fun hg => (n_gtr (i := a0.Roads.length) (j := 63) rfl rfl)) (fun hg => (.cons hg (.cons rfl .nil))) ?_
 refine po 32 27 31 rfl rfl ?_
 refine rk 1 (.d4 (.d (.k (.i 33 (vb ((((!y1) || (!y2)) || ((decide (8 < a0.Roads.length)) && (decide (a0.Roads.length ≤ 60)))) || (decide (63 < a0.Roads.length)))) .n)))) ?_
 refine gj (.ptr 0 0 3) 34 (.faddr 3 1) 33 false rfl ?_
 refine gk (eS 3 eGrand a0.Grands) 35 (.load false 1 34) 33 false rfl (fun hg => (.cons hg .nil)) ?_
 refine gv 36 (.len 0 35) 33 false rfl (fun hg => (ok_len_m rfl)) (fun hg => (.cons hg .nil)) ?_
 refine gv 37 (.bin .gtr false 36 (ki 4)) 33 false rfl (fun hg => (n_gtr (i := a0.Grands.length) (j := 4) rfl rfl)) (fun hg => (.cons hg (.cons rfl .nil))) ?_
 refine gk (vb (decide (4 < a0.Grands.length))) 38 (.mov 37) 33 false rfl (fun hg => (.cons hg .nil)) ?_
 refine gj (.ptr 0 0 3) 39 (.faddr 3 1) 38 true rfl ?_
 refine gk (eS 3 eGrand a0.Grands) 40 (.load false 1 39) 38 true rfl (fun hg => (.cons hg .nil)) ?_
 refine gv 41 (.len 0 40) 38 true rfl (fun hg => (ok_len_m rfl)) (fun hg => (.cons hg .nil)) ?_
 refine gv 42 (.bin .leq false 41 (ki 12)) 38 true rfl (fun hg => (n_leq (i := a0.Grands.length) (j := 12) rfl rfl)) (fun hg => (.cons hg (.cons rfl .nil))) ?_
 refine RegJ.op (Op1.andg (g := !((((!y1) || (!y2)) || ((decide (8 < a0.Roads.length)) && (decide (a0.Roads.length ≤ 60)))) || (decide (63 < a0.Roads.length)))) (cy (IG 43 (.pick 38 42 (.c (.p (.bool false)))) 33 false)) rfl rfl rfl (fun hg => by first | exact hokA2 hg | exact hokA3 hg | exact hokA1 | exact hokA0 | (rw [hg]; simp) | simp_all)) ?_
 refine po 44 33 43 rfl rfl ?_
 refine rk 1 (.d4 (.d4 (.d3 (.k (.i 45 (vb (((((!y1) || (!y2)) || ((decide (8 < a0.Roads.length)) && (decide (a0.Roads.length ≤ 60)))) || (decide (63 < a0.Roads.length))) || ((decide (4 < a0.Grands.length)) && (decide (a0.Grands.length ≤ 12))))) .n))))) ?_
 refine gj (.ptr 0 0 3) 46 (.faddr 3 1) 45 false rfl ?_
 refine gk (eS 3 eGrand a0.Grands) 47 (.load false 1 46) 45 false rfl (fun hg => (.cons hg .nil)) ?_
 refine gv 48 (.len 0 47) 45 false rfl (fun hg => (ok_len_m rfl)) (fun hg => (.cons hg .nil)) ?_
 refine gv 49 (.bin .gtr false 48 (ki 15)) 45 false rfl (fun hg => (n_gtr (i := a0.Grands.length) (j := 15) rfl rfl)) (fun hg => (.cons hg (.cons rfl .nil))) ?_
 refine po 50 45 49 rfl rfl ?_
 refine jf (.d4 (.d (.k (.i 50 (vb ((((((!y1) || (!y2)) || ((decide (8 < a0.Roads.length)) && (decide (a0.Roads.length ≤ 60)))) || (decide (63 < a0.Roads.length))) || ((decide (4 < a0.Grands.length)) && (decide (a0.Grands.length ≤ 12)))) || (decide (15 < a0.Grands.length)))) .n)))) ?_
 refine tc h (fun c1 h => ?_) (fun c1 h => ?_)
 ·refine sk (.i 2 (vb false) .n) ?_
  refine q3 ?_
  have h := si h
  subst h
  exact DoneS.ret (S' := ⟨[(2, vb false)], []⟩) (sc [] (by decide) (by kernel_rfl) ObRen.nil rfl rfl) rfl rfl
 refine q2 ?_
 refine TriE.seqK h (fun (_ : Unit) => St.mk [(1, .ptr 0 0 0)] [some (.row 6 [.agg [eS 1 vt a0.Places, eS 1 vt a0.Technicians, eS 4 eRoad a0.Roads, eS 3 eGrand a0.Grands, vi a0.Change, vi a0.Lasts]])]) ?_ ?_
 ·rintro ⟨⟩ h
  refine TriE.seqK h (fun (_ : Unit) => St.mk [] []) ?_ ?_
  ·rintro ⟨⟩ h
   refine sk (.i 2 (vb true) .n) ?_
   refine q3 ?_
   have h := si h
   subst h
   exact DoneS.ret Sees.refl rfl rfl
  intro k2 h
  refine sk (.k (.i 4 (vi 0) .n)) ?_
  refine q4 ?_
  refine ts (.k (.i 4 (vi 0) .n)) ?_
  refine TriE.loopN h (fun (v4 : Nat) => St.mk [(1, .ptr 0 0 0), (4, vi v4)] [some (.row 6 [.agg [eS 1 vt a0.Places, eS 1 vt a0.Technicians, eS 4 eRoad a0.Roads, eS 3 eGrand a0.Grands, vi a0.Change, vi a0.Lasts]])]) rfl ?_
  clear h
  rintro back v4 h
  dsimp only [agraffelaw09_Light_L2] at h
  refine q1 ?_
  refine sj ?_
  refine rk 3 (.k2 (.i 76 (vi v4) (.i 78 (eS 3 eGrand a0.Grands) .n))) ?_
  refine jo 79 (.len 0 78) (ok_len_m rfl) ?_
  refine jo 80 (.bin .lss false 76 79) (n_lss (i := v4) (j := a0.Grands.length) rfl rfl) ?_
  refine jf (.d2 (.k2 (.i 80 (vb (decide (v4 < a0.Grands.length))) .n))) ?_
  refine tc h (fun c5 h => ?_) (fun c5 h => ?_)
  ·refine q2 ?_
   refine q7 ?_
   refine sj ?_
   refine rk 3 (.k2 (.i 84 (eS 3 eGrand a0.Grands) (.i 85 (vi v4) .n))) ?_
   refine jo 86 (.iaddr 3 84 85) (ok_iaddr_m (j := v4) rfl rfl rfl c5) ?_
   refine rk 1 (.d (.k2 (.i 87 (.fptr 3 (List.map eGrand a0.Grands) v4 0) .n))) ?_
   refine jo 88 (.load false 1 87) (ok_load_fm (v := vt ((ix a0.Grands v4).Name)) rfl c5 rfl) ?_
   refine jo 89 (.len 1 88) (ok_len_t rfl) ?_
   refine jo 90 (.bin .gtr false 89 (ki 30)) (n_gtr (i := ((ix a0.Grands v4).Name).length) (j := 30) rfl rfl) ?_
   refine rk 1 (.d3 (.k2 (.i 91 (vb (decide (30 < (((ix a0.Grands v4).Name).length)))) .n))) ?_
   refine gj (.ptr 0 0 3) 92 (.faddr 3 1) 91 false rfl ?_
   refine gk (eS 3 eGrand a0.Grands) 93 (.load false 1 92) 91 false rfl (fun hg => (.cons hg .nil)) ?_
   refine gj (vi v4) 94 (.mov 4) 91 false rfl ?_
   refine gv 95 (.iaddr 3 93 94) 91 false rfl (fun hg => (ok_iaddr_m (j := v4) rfl rfl rfl c5)) (fun hg => (.cons hg (.cons hg .nil))) ?_
   refine gk (.fptr 3 (List.map eGrand a0.Grands) v4 1) 96 (.faddr 1 95) 91 false rfl (fun hg => (.cons hg .nil)) ?_
   refine gv 97 (.load false 1 96) 91 false rfl (fun hg => (ok_load_fm (v := vt ((ix a0.Grands v4).Place)) rfl c5 rfl)) (fun hg => (.cons hg .nil)) ?_
   refine gv 98 (.len 1 97) 91 false rfl (fun hg => (ok_len_t rfl)) (fun hg => (.cons hg .nil)) ?_
   refine gv 99 (.bin .gtr false 98 (ki 30)) 91 false rfl (fun hg => (n_gtr (i := ((ix a0.Grands v4).Place).length) (j := 30) rfl rfl)) (fun hg => (.cons hg (.cons rfl .nil))) ?_
   refine po 100 91 99 rfl rfl ?_
   refine jf (.d4 (.d4 (.d (.k2 (.i 100 (vb ((decide (30 < (((ix a0.Grands v4).Name).length))) || (decide (30 < (((ix a0.Grands v4).Place).length))))) .n))))) ?_
   refine tc h (fun c6 h => ?_) (fun c6 h => ?_)
   ·refine sk (.i 2 (vb false) .n) ?_
    refine q3 ?_
    have h := si h
    subst h
    exact DoneS.ret (S' := ⟨[(2, vb false)], []⟩) (sc [] (by decide) (by kernel_rfl) ObRen.nil rfl rfl) rfl rfl
   refine q2 ?_
   refine q6 ?_
   refine rk 1 (.k (.i 81 (vi v4) .n)) ?_
   refine cK h fun c7 h => ?_
   refine jo 82 (.bin .add false 81 (ki 1)) (r_addn (i := v4) (j := 1) rfl rfl c7) ?_
   refine jk 1 (.d (.k (.i 4 (vi ((v4 + 1 : Nat) : Int)) .n))) ?_
   exact Vs.intro sy ⟨(v4 + 1), rfl, h⟩
  refine q5 ?_
  exact Vs.intro (sc [] (by decide) (by kernel_rfl) ObRen.nil rfl rfl) ⟨(), rfl, h⟩
 intro k1 h
 refine sk (.k (.i 3 (vi 0) .n)) ?_
 refine q4 ?_
 refine ts (.k (.i 3 (vi 0) .n)) ?_
 refine TriE.loopN h (fun (v3 : Nat) => St.mk [(1, .ptr 0 0 0), (3, vi v3)] [some (.row 6 [.agg [eS 1 vt a0.Places, eS 1 vt a0.Technicians, eS 4 eRoad a0.Roads, eS 3 eGrand a0.Grands, vi a0.Change, vi a0.Lasts]])]) rfl ?_
 clear h
 rintro back v3 h
 dsimp only [agraffelaw09_Light_L1] at h
 refine q1 ?_
 refine sj ?_
 refine rk 3 (.k2 (.i 51 (vi v3) (.i 53 (eS 4 eRoad a0.Roads) .n))) ?_
 refine jo 54 (.len 0 53) (ok_len_m rfl) ?_
 refine jo 55 (.bin .lss false 51 54) (n_lss (i := v3) (j := a0.Roads.length) rfl rfl) ?_
 refine jf (.d2 (.k2 (.i 55 (vb (decide (v3 < a0.Roads.length))) .n))) ?_
 refine tc h (fun c2 h => ?_) (fun c2 h => ?_)
 ·refine q2 ?_
  refine q7 ?_
  refine sj ?_
  refine rk 3 (.k2 (.i 59 (eS 4 eRoad a0.Roads) (.i 60 (vi v3) .n))) ?_
  refine jo 61 (.iaddr 4 59 60) (ok_iaddr_m (j := v3) rfl rfl rfl c2) ?_
  refine rk 1 (.d (.k2 (.i 62 (.fptr 4 (List.map eRoad a0.Roads) v3 0) .n))) ?_
  refine jo 63 (.load false 1 62) (ok_load_fm (v := vt ((ix a0.Roads v3).A)) rfl c2 rfl) ?_
  refine jo 64 (.len 1 63) (ok_len_t rfl) ?_
  refine jo 65 (.bin .gtr false 64 (ki 30)) (n_gtr (i := ((ix a0.Roads v3).A).length) (j := 30) rfl rfl) ?_
  refine rk 1 (.d3 (.k2 (.i 66 (vb (decide (30 < (((ix a0.Roads v3).A).length)))) .n))) ?_
  refine gj (.ptr 0 0 2) 67 (.faddr 2 1) 66 false rfl ?_
  refine gk (eS 4 eRoad a0.Roads) 68 (.load false 1 67) 66 false rfl (fun hg => (.cons hg .nil)) ?_
  refine gj (vi v3) 69 (.mov 3) 66 false rfl ?_
  refine gv 70 (.iaddr 4 68 69) 66 false rfl (fun hg => (ok_iaddr_m (j := v3) rfl rfl rfl c2)) (fun hg => (.cons hg (.cons hg .nil))) ?_
  refine gk (.fptr 4 (List.map eRoad a0.Roads) v3 1) 71 (.faddr 1 70) 66 false rfl (fun hg => (.cons hg .nil)) ?_
  refine gv 72 (.load false 1 71) 66 false rfl (fun hg => (ok_load_fm (v := vt ((ix a0.Roads v3).B)) rfl c2 rfl)) (fun hg => (.cons hg .nil)) ?_
  refine gv 73 (.len 1 72) 66 false rfl (fun hg => (ok_len_t rfl)) (fun hg => (.cons hg .nil)) ?_
  refine gv 74 (.bin .gtr false 73 (ki 30)) 66 false rfl (fun hg => (n_gtr (i := ((ix a0.Roads v3).B).length) (j := 30) rfl rfl)) (fun hg => (.cons hg (.cons rfl .nil))) ?_
  refine po 75 66 74 rfl rfl ?_
  refine jf (.d4 (.d4 (.d (.k2 (.i 75 (vb ((decide (30 < (((ix a0.Roads v3).A).length))) || (decide (30 < (((ix a0.Roads v3).B).length))))) .n))))) ?_
  refine tc h (fun c3 h => ?_) (fun c3 h => ?_)
  ·refine sk (.i 2 (vb false) .n) ?_
   refine q3 ?_
   have h := si h
   subst h
   exact DoneS.ret (S' := ⟨[(2, vb false)], []⟩) (sc [] (by decide) (by kernel_rfl) ObRen.nil rfl rfl) rfl rfl
  refine q2 ?_
  refine q6 ?_
  refine rk 1 (.k (.i 56 (vi v3) .n)) ?_
  refine cK h fun c4 h => ?_
  refine jo 57 (.bin .add false 56 (ki 1)) (r_addn (i := v3) (j := 1) rfl rfl c4) ?_
  refine jk 1 (.d (.k (.i 3 (vi ((v3 + 1 : Nat) : Int)) .n))) ?_
  exact Vs.intro sy ⟨(v3 + 1), rfl, h⟩
 refine q5 ?_
 exact Vs.intro sy ⟨(), rfl, h⟩
theorem agraffelaw09_slim_ok (n : Nat) (a0 : Item) (r : Unit) (h : agraffelaw09_slim n a0 = some r) : FnL Try.prog 15 [.agg [vi a0.Kind, vi a0.From, vi a0.To, vt a0.Grand, vt a0.Place, vt a0.Who, vi a0.Deposit]] [] (vb (((decide (a0.Grand.length ≤ 30)) && (decide (a0.Place.length ≤ 30))) && (decide (a0.Who.length ≤ 30)))) [] := by
 dsimp only [agraffelaw09_slim] at h
 refine fo [2] Try.call15 Try.func15 rfl ?_
 refine sko (.i 1 (.ptr 0 0 0) .n) [some (.row 7 [.agg [vi a0.Kind, vi a0.From, vi a0.To, vt a0.Grand, vt a0.Place, vt a0.Who, vi a0.Deposit]])] ?_
 refine sj ?_
 refine rk 2 (.k (.i 4 (vt a0.Grand) .n)) ?_
 refine jo 5 (.len 1 4) (ok_len_t rfl) ?_
 refine jo 6 (.bin .leq false 5 (ki 30)) (n_leq (i := a0.Grand.length) (j := 30) rfl rfl) ?_
 refine rk 1 (.d2 (.k (.i 7 (vb (decide (a0.Grand.length ≤ 30))) .n))) ?_
 refine gj (.ptr 0 0 4) 8 (.faddr 4 1) 7 true rfl ?_
 refine gk (vt a0.Place) 9 (.load false 1 8) 7 true rfl (fun hg => (.cons hg .nil)) ?_
 refine gv 10 (.len 1 9) 7 true rfl (fun hg => (ok_len_t rfl)) (fun hg => (.cons hg .nil)) ?_
 refine gv 11 (.bin .leq false 10 (ki 30)) 7 true rfl (fun hg => (n_leq (i := a0.Place.length) (j := 30) rfl rfl)) (fun hg => (.cons hg (.cons rfl .nil))) ?_
 refine pa 12 7 11 rfl rfl ?_
 refine rk 1 (.d4 (.d (.k (.i 13 (vb ((decide (a0.Grand.length ≤ 30)) && (decide (a0.Place.length ≤ 30)))) .n)))) ?_
 refine gj (.ptr 0 0 5) 14 (.faddr 5 1) 13 true rfl ?_
 refine gk (vt a0.Who) 15 (.load false 1 14) 13 true rfl (fun hg => (.cons hg .nil)) ?_
 refine gv 16 (.len 1 15) 13 true rfl (fun hg => (ok_len_t rfl)) (fun hg => (.cons hg .nil)) ?_
 refine gv 17 (.bin .leq false 16 (ki 30)) 13 true rfl (fun hg => (n_leq (i := a0.Who.length) (j := 30) rfl rfl)) (fun hg => (.cons hg (.cons rfl .nil))) ?_
 refine pa 18 13 17 rfl rfl ?_
 refine jk 1 (.i 2 (vb (((decide (a0.Grand.length ≤ 30)) && (decide (a0.Place.length ≤ 30))) && (decide (a0.Who.length ≤ 30)))) .n) ?_
 refine q3 ?_
 have h := si h
 subst h
 exact DoneS.ret (S' := ⟨[(2, vb (((decide (a0.Grand.length ≤ 30)) && (decide (a0.Place.length ≤ 30))) && (decide (a0.Who.length ≤ 30))))], []⟩) (sc [] (by decide) (by kernel_rfl) ObRen.nil rfl rfl) rfl rfl
theorem agrafferef09_GrandAt_ok (n : Nat) (a0 : Diary) (a1 : Str) (r : Int) (h : agrafferef09_GrandAt n a0 a1 = some r) : FnL Try.prog 54 [.agg [eS 1 vt a0.Places, eS 1 vt a0.Technicians, eS 4 eRoad a0.Roads, eS 3 eGrand a0.Grands, vi a0.Change, vi a0.Lasts], vt a1] [] (vi r) [] := by
 dsimp only [agrafferef09_GrandAt] at h
 refine fo [4] Try.call54 Try.func54 rfl ?_
 refine sko (.d (.k (.i 2 (.ptr 0 0 0) .n))) [some (.row 6 [.agg [eS 1 vt a0.Places, eS 1 vt a0.Technicians, eS 4 eRoad a0.Roads, eS 3 eGrand a0.Grands, vi a0.Change, vi a0.Lasts]])] ?_
 refine TriE.seqK h (fun (_ : Unit) => St.mk [] []) ?_ ?_
 ·rintro ⟨⟩ h
  refine sk (.i 4 (vi (-1)) .n) ?_
  refine q3 ?_
  have h := si h
  subst h
  exact DoneS.ret Sees.refl rfl rfl
 intro k1 h
 refine sk (.k2 (.i 5 (vi 0) .n)) ?_
 refine q4 ?_
 refine ts (.k2 (.i 5 (vi 0) .n)) ?_
 refine TriE.loopN h (fun (v1 : Nat) => St.mk [(1, vt a1), (2, .ptr 0 0 0), (5, vi v1)] [some (.row 6 [.agg [eS 1 vt a0.Places, eS 1 vt a0.Technicians, eS 4 eRoad a0.Roads, eS 3 eGrand a0.Grands, vi a0.Change, vi a0.Lasts]])]) rfl ?_
 clear h
 rintro back v1 h
 dsimp only [agrafferef09_GrandAt_L1] at h
 refine q1 ?_
 refine sj ?_
 refine rk 3 (.k3 (.i 6 (vi v1) (.i 8 (eS 3 eGrand a0.Grands) .n))) ?_
 refine jo 9 (.len 0 8) (ok_len_m rfl) ?_
 refine jo 10 (.bin .lss false 6 9) (n_lss (i := v1) (j := a0.Grands.length) rfl rfl) ?_
 refine jf (.d2 (.k3 (.i 10 (vb (decide (v1 < a0.Grands.length))) .n))) ?_
 refine tc h (fun c1 h => ?_) (fun c1 h => ?_)
 ·refine q2 ?_
  refine q7 ?_
  refine sj ?_
  refine rk 3 (.k3 (.i 14 (eS 3 eGrand a0.Grands) (.i 15 (vi v1) .n))) ?_
  refine jo 16 (.iaddr 3 14 15) (ok_iaddr_m (j := v1) rfl rfl rfl c1) ?_
  refine rk 1 (.d (.k3 (.i 17 (.fptr 3 (List.map eGrand a0.Grands) v1 0) .n))) ?_
  refine jo 18 (.load false 1 17) (ok_load_fm (v := vt ((ix a0.Grands v1).Name)) rfl c1 rfl) ?_
  refine jk 2 (.d (.k3 (.i 20 (vb (((ix a0.Grands v1).Name) == a1)) .n))) ?_
  refine tc h (fun c2 h => ?_) (fun c2 h => ?_)
  ·refine sk (.i 4 (vi v1) .n) ?_
   refine q3 ?_
   have h := si h
   subst h
   exact DoneS.ret (S' := ⟨[(4, vi v1)], []⟩) (sc [] (by decide) (by kernel_rfl) ObRen.nil rfl rfl) rfl rfl
  refine q2 ?_
  refine q6 ?_
  refine rk 1 (.k2 (.i 11 (vi v1) .n)) ?_
  refine cK h fun c3 h => ?_
  refine jo 12 (.bin .add false 11 (ki 1)) (r_addn (i := v1) (j := 1) rfl rfl c3) ?_
  refine jk 1 (.d (.k2 (.i 5 (vi ((v1 + 1 : Nat) : Int)) .n))) ?_
  exact Vs.intro sy ⟨(v1 + 1), rfl, h⟩
 refine q5 ?_
 exact Vs.intro (sc [] (by decide) (by kernel_rfl) ObRen.nil rfl rfl) ⟨(), rfl, h⟩
theorem agraffelaw09_Few_ok (n : Nat) (a0 : List Item) (r : Bool) (h : agraffelaw09_Few n a0 = some r) : FnL Try.prog 21 [eS 7 eItem a0] [] (vb r) [] := by
 dsimp only [agraffelaw09_Few] at h
 refine fo [2] Try.call21 Try.func21 rfl ?_
 refine sk .a ?_
 refine TriE.seqK h (fun (_ : Unit) => St.mk [(0, eS 7 eItem a0)] []) ?_ ?_
 ·rintro ⟨⟩ h
  refine sj ?_
  refine rk 1 (.k (.i 16 (eS 7 eItem a0) .n)) ?_
  refine jo 17 (.len 0 16) (ok_len_m rfl) ?_
  refine jo 18 (.bin .leq false 17 (ki 10)) (n_leq (i := a0.length) (j := 10) rfl rfl) ?_
  refine rk 1 (.d2 (.k (.i 19 (vb (decide (a0.length ≤ 10))) .n))) ?_
  refine gj (eS 7 eItem a0) 20 (.mov 0) 19 false rfl ?_
  refine gv 21 (.len 0 20) 19 false rfl (fun hg => (ok_len_m rfl)) (fun hg => (.cons hg .nil)) ?_
  refine gv 22 (.bin .gtr false 21 (ki 100)) 19 false rfl (fun hg => (n_gtr (i := a0.length) (j := 100) rfl rfl)) (fun hg => (.cons hg (.cons rfl .nil))) ?_
  refine gk (vb (decide (100 < a0.length))) 23 (.mov 22) 19 false rfl (fun hg => (.cons hg .nil)) ?_
  refine gj (eS 7 eItem a0) 24 (.mov 0) 23 true rfl ?_
  refine gv 25 (.len 0 24) 23 true rfl (fun hg => (ok_len_m rfl)) (fun hg => (.cons hg .nil)) ?_
  refine gv 26 (.bin .leq false 25 (ki 103)) 23 true rfl (fun hg => (n_leq (i := a0.length) (j := 103) rfl rfl)) (fun hg => (.cons hg (.cons rfl .nil))) ?_
  refine RegJ.op (Op1.andg (g := !(decide (a0.length ≤ 10))) (cy (IG 27 (.pick 23 26 (.c (.p (.bool false)))) 19 false)) rfl rfl rfl (fun hg => by first | exact hokA2 hg | exact hokA3 hg | exact hokA1 | exact hokA0 | (rw [hg]; simp) | simp_all)) ?_
  refine po 28 19 27 rfl rfl ?_
  refine jk 1 (.i 2 (vb ((decide (a0.length ≤ 10)) || ((decide (100 < a0.length)) && (decide (a0.length ≤ 103))))) .n) ?_
  refine q3 ?_
  have h := si h
  subst h
  exact DoneS.ret Sees.refl rfl rfl
 intro k1 h
 refine sk (.k (.i 3 (vi 0) .n)) ?_
 refine q4 ?_
 refine ts (.k (.i 3 (vi 0) .n)) ?_
 refine TriE.loopN h (fun (v2 : Nat) => St.mk [(0, eS 7 eItem a0), (3, vi v2)] []) rfl ?_
 clear h
 rintro back v2 h
 dsimp only [agraffelaw09_Few_L1] at h
 refine q1 ?_
 refine sj ?_
 refine rk 2 (.k2 (.i 4 (vi v2) (.i 5 (eS 7 eItem a0) .n))) ?_
 refine jo 6 (.len 0 5) (ok_len_m rfl) ?_
 refine jo 7 (.bin .lss false 4 6) (n_lss (i := v2) (j := a0.length) rfl rfl) ?_
 refine jf (.d2 (.k2 (.i 7 (vb (decide (v2 < a0.length))) .n))) ?_
 refine tc h (fun c1 h => ?_) (fun c1 h => ?_)
 ·refine q2 ?_
  refine q7 ?_
  refine sj ?_
  refine rk 2 (.k2 (.i 10 (eS 7 eItem a0) (.i 11 (vi v2) .n))) ?_
  refine jo 12 (.iaddr 7 10 11) (ok_iaddr_m (j := v2) rfl rfl rfl c1) ?_
  refine jo 13 (.load true 7 12) (ok_load_fm (v := .agg [vi ((ix a0 v2).Kind), vi ((ix a0 v2).From), vi ((ix a0 v2).To), vt ((ix a0 v2).Grand), vt ((ix a0 v2).Place), vt ((ix a0 v2).Who), vi ((ix a0 v2).Deposit)]) rfl c1 rfl) ?_
  refine bK h fun y3 hy3 h => ?_
  refine jc 14 [13] (agraffelaw09_slim_ok n (ix a0 v2) y3 hy3) ?_
  refine jk 1 (.d3 (.k2 (.i 15 (vb (!(((decide ((ix a0 v2).Grand.length ≤ 30)) && (decide ((ix a0 v2).Place.length ≤ 30))) && (decide ((ix a0 v2).Who.length ≤ 30))))) .n))) ?_
  refine tc h (fun c2 h => ?_) (fun c2 h => ?_)
  ·refine sk (.i 2 (vb false) .n) ?_
   refine q3 ?_
   have h := si h
   subst h
   exact DoneS.ret Sees.refl rfl rfl
  refine q2 ?_
  refine q6 ?_
  refine rk 1 (.k (.i 8 (vi v2) .n)) ?_
  refine cK h fun c3 h => ?_
  refine jo 9 (.bin .add false 8 (ki 1)) (r_addn (i := v2) (j := 1) rfl rfl c3) ?_
  refine jk 1 (.d (.k (.i 3 (vi ((v2 + 1 : Nat) : Int)) .n))) ?_
  exact Vs.intro sy ⟨(v2 + 1), rfl, h⟩
 refine q5 ?_
 exact Vs.intro sy ⟨(), rfl, h⟩
theorem agraffetop_written_ok (n : Nat)  (r : Bool) (h : agraffetop_written n  = some r) : FnL Try.prog 51 [] [] (vb r) [] := by
 dsimp only [agraffetop_written] at h
 refine fo [0] Try.call51 Try.func51 rfl ?_
 refine sk .n ?_
 refine sj ?_
 refine bK h fun y1 hy1 h => ?_
 refine jc 4 [] (agraffelaw09_Town_ok n y1 hy1) ?_
 refine bK h fun y2 hy2 h => ?_
 refine jc 5 [] (agraffelaw09_Evening_ok n y2 hy2) ?_
 refine bK h fun y3 hy3 h => ?_
 refine jc 6 [4, 5] (diary_Accept_ok n (Diary.mk ([([115, 104, 111, 112] : Str), ([104, 97, 108, 108] : Str), ([104, 111, 109, 101] : Str)] : List Str) ([([97, 110, 110] : Str), ([98, 111, 98] : Str)] : List Str) ([(Road.mk ([115, 104, 111, 112] : Str) ([104, 97, 108, 108] : Str) 30 200), (Road.mk ([104, 97, 108, 108] : Str) ([104, 111, 109, 101] : Str) 20 100), (Road.mk ([115, 104, 111, 112] : Str) ([104, 111, 109, 101] : Str) 60 150)] : List Road) ([(Grand.mk ([103] : Str) ([115, 104, 111, 112] : Str) 150), (Grand.mk ([117] : Str) ([104, 111, 109, 101] : Str) 100)] : List Grand) 10 300) ([(Item.mk 1 0 40 ([103] : Str) ([104, 97, 108, 108] : Str) ([] : Str) 0), (Item.mk 0 50 110 ([103] : Str) ([104, 97, 108, 108] : Str) ([97, 110, 110] : Str) 0), (Item.mk 2 200 300 ([103] : Str) ([104, 97, 108, 108] : Str) ([] : Str) 0)] : List Item) y3 hy3) ?_
 refine jk 5 (.i 1 (vi y3.2) (.i 2 (vi y3.1) .n)) ?_
 refine sj ?_
 refine rk 3 (.k (.i 11 (vb (y3.1 == (0 : Int))) .n)) ?_
 refine gj (vi y3.2) 12 (.mov 1) 11 true rfl ?_
 refine gk (vb (y3.2 == ((-1) : Int))) 13 (.bin .eql false 12 (ki (-1))) 11 true rfl (fun hg => (.cons hg (.cons rfl .nil))) ?_
 refine pa 14 11 13 rfl rfl ?_
 refine jk 1 (.i 0 (vb ((y3.1 == (0 : Int)) && (y3.2 == ((-1) : Int)))) .n) ?_
 refine q3 ?_
 have h := si h
 subst h
 exact DoneS.ret Sees.refl rfl rfl
theorem diary_PlaceOf_f1_ok (n : Nat) (a0 : Item) (a1 : Str) (a2 : Int) (r : Unit) (h : diary_PlaceOf_f1 n a0 a1 a2 = some r) : FnL Try.prog 97 [.agg [vi a0.Kind, vi a0.From, vi a0.To, vt a0.Grand, vt a0.Place, vt a0.Who, vi a0.Deposit], .ptr 0 0 0] [some (.row 2 [.agg [vt a1, vi a2]])] (vb ((((a0.Kind == (1 : Int)) && (a0.Grand == a1)) && (decide (a0.From ≤ a2))) && (decide (a2 < a0.To)))) [some (.row 2 [.agg [vt a1, vi a2]])] := by
 dsimp only [diary_PlaceOf_f1] at h
 refine fob [3] Try.call97 Try.func97 rfl (.cons rfl .nil) ?_
 refine sko (.d (.k (.i 2 (.ptr 1 0 0) .n))) [some (.row 2 [.agg [vt a1, vi a2]]), some (.row 7 [.agg [vi a0.Kind, vi a0.From, vi a0.To, vt a0.Grand, vt a0.Place, vt a0.Who, vi a0.Deposit]])] ?_
 refine sj ?_
 refine rk 4 (.k2 (.i 7 (vb (a0.Kind == (1 : Int))) .n)) ?_
 refine gj (.ptr 1 0 3) 8 (.faddr 3 2) 7 true rfl ?_
 refine gk (vt a0.Grand) 9 (.load false 1 8) 7 true rfl (fun hg => (.cons hg .nil)) ?_
 refine gj (.ptr 0 0 0) 10 (.faddr 0 1) 7 true rfl ?_
 refine gk (vt a1) 11 (.load false 1 10) 7 true rfl (fun hg => (.cons hg .nil)) ?_
 refine gk (vb (a0.Grand == a1)) 12 (.bin .eql false 9 11) 7 true rfl (fun hg => (.cons hg (.cons hg .nil))) ?_
 refine pa 13 7 12 rfl rfl ?_
 refine rk 1 (.d4 (.d2 (.k2 (.i 14 (vb ((a0.Kind == (1 : Int)) && (a0.Grand == a1))) .n)))) ?_
 refine gj (.ptr 1 0 1) 15 (.faddr 1 2) 14 true rfl ?_
 refine gk (vi a0.From) 16 (.load false 1 15) 14 true rfl (fun hg => (.cons hg .nil)) ?_
 refine gj (.ptr 0 0 1) 17 (.faddr 1 1) 14 true rfl ?_
 refine gk (vi a2) 18 (.load false 1 17) 14 true rfl (fun hg => (.cons hg .nil)) ?_
 refine gk (vb (decide (a0.From ≤ a2))) 19 (.bin .leq false 16 18) 14 true rfl (fun hg => (.cons hg (.cons hg .nil))) ?_
 refine pa 20 14 19 rfl rfl ?_
 refine rk 1 (.d4 (.d2 (.k2 (.i 21 (vb (((a0.Kind == (1 : Int)) && (a0.Grand == a1)) && (decide (a0.From ≤ a2)))) .n)))) ?_
 refine gj (.ptr 0 0 1) 22 (.faddr 1 1) 21 true rfl ?_
 refine gk (vi a2) 23 (.load false 1 22) 21 true rfl (fun hg => (.cons hg .nil)) ?_
 refine gj (.ptr 1 0 2) 24 (.faddr 2 2) 21 true rfl ?_
 refine gk (vi a0.To) 25 (.load false 1 24) 21 true rfl (fun hg => (.cons hg .nil)) ?_
 refine gk (vb (decide (a2 < a0.To))) 26 (.bin .lss false 23 25) 21 true rfl (fun hg => (.cons hg (.cons hg .nil))) ?_
 refine pa 27 21 26 rfl rfl ?_
 refine jk 1 (.i 3 (vb ((((a0.Kind == (1 : Int)) && (a0.Grand == a1)) && (decide (a0.From ≤ a2))) && (decide (a2 < a0.To)))) .n) ?_
 refine q3 ?_
 have h := si h
 subst h
 exact DoneS.ret (S' := ⟨[(3, vb ((((a0.Kind == (1 : Int)) && (a0.Grand == a1)) && (decide (a0.From ≤ a2))) && (decide (a2 < a0.To))))], [some (.row 2 [.agg [vt a1, vi a2]])]⟩) (sc [0] (by decide) (by kernel_rfl) (.cons rfl .nil) rfl rfl) rfl rfl
theorem slices_IndexFunc_Item_3_ok (n : Nat) (a0 : List Item) (a1 : Str) (a2 : Int) (r : Int) (h : slices_IndexFunc_Item_3 n a0 a1 a2 = some r) : FnL Try.prog 121 [eS 7 eItem a0, .fn (.func 97) [] [.ptr 0 0 0]] [some (.row 2 [.agg [vt a1, vi a2]])] (vi r) [some (.row 2 [.agg [vt a1, vi a2]])] := by
 dsimp only [slices_IndexFunc_Item_3] at h
 refine fob [4] Try.call121 Try.func121 rfl (.cons rfl .nil) ?_
 refine sk .a ?_
 refine TriE.seqK h (fun (_ : Unit) => St.mk [] [some (.row 2 [.agg [vt a1, vi a2]])]) ?_ ?_
 ·rintro ⟨⟩ h
  refine sk (.i 4 (vi (-1)) .n) ?_
  refine q3 ?_
  have h := si h
  subst h
  exact DoneS.ret Sees.refl rfl rfl
 intro k1 h
 refine sj ?_
 refine rk 1 (.k2 (.i 6 (eS 7 eItem a0) .n)) ?_
 refine jo 7 (.len 0 6) (ok_len_m rfl) ?_
 refine jk 1 (.d (.k2 (.i 7 (vi (a0.length : Int)) (.i 8 (vi 0) .n)))) ?_
 refine q4 ?_
 refine ts (.k3 (.i 8 (vi 0) .n)) ?_
 refine TriE.loopN h (fun (v2 : Nat) => St.mk [(0, eS 7 eItem a0), (1, .fn (.func 97) [] [.ptr 0 0 0]), (7, vi (a0.length : Int)), (8, vi v2)] [some (.row 2 [.agg [vt a1, vi a2]])]) rfl ?_
 clear h
 rintro back v2 h
 dsimp only [slices_IndexFunc_Item_3_L1] at h
 refine sj ?_
 refine jo 9 (.bin .lss false 8 7) (n_lss (i := v2) (j := a0.length) rfl rfl) ?_
 refine jf (.d (.k4 (.i 9 (vb (decide (v2 < a0.length))) .n))) ?_
 refine q1 ?_
 refine tc h (fun c1 h => ?_) (fun c1 h => ?_)
 ·refine q2 ?_
  refine q7 ?_
  refine sk (.k4 (.i 5 (vi v2) .n)) ?_
  refine sj ?_
  refine rk 3 (.k4 (.k (.i 11 (.fn (.func 97) [] [.ptr 0 0 0]) (.i 12 (eS 7 eItem a0) (.i 13 (vi v2) .n))))) ?_
  refine jo 14 (.iaddr 7 12 13) (ok_iaddr_m (j := v2) rfl rfl rfl c1) ?_
  refine jo 15 (.load true 7 14) (ok_load_fm (v := .agg [vi ((ix a0 v2).Kind), vi ((ix a0 v2).From), vi ((ix a0 v2).To), vt ((ix a0 v2).Grand), vt ((ix a0 v2).Place), vt ((ix a0 v2).Who), vi ((ix a0 v2).Deposit)]) rfl c1 rfl) ?_
  refine bK h fun y3 hy3 h => ?_
  refine jy (vb (((((ix a0 v2).Kind == (1 : Int)) && ((ix a0 v2).Grand == a1)) && (decide ((ix a0 v2).From ≤ a2))) && (decide (a2 < (ix a0 v2).To)))) 16 11 [15] rfl (diary_PlaceOf_f1_ok n (ix a0 v2) a1 a2 y3 hy3) [0] rfl (.cons rfl .nil) (.cons rfl .nil) rfl ?_
  refine jf (.d3 (.k4 (.k (.i 16 (vb (((((ix a0 v2).Kind == (1 : Int)) && ((ix a0 v2).Grand == a1)) && (decide ((ix a0 v2).From ≤ a2))) && (decide (a2 < (ix a0 v2).To)))) .n)))) ?_
  refine tc h (fun c2 h => ?_) (fun c2 h => ?_)
  ·refine sk (.i 4 (vi v2) .n) ?_
   refine q3 ?_
   have h := si h
   subst h
   exact DoneS.ret Sees.refl rfl rfl
  refine q2 ?_
  refine q6 ?_
  refine cK h fun c3 h => ?_
  refine jo 18 (.bin .add false 8 (ki 1)) (r_addn (i := v2) (j := 1) rfl rfl c3) ?_
  refine jk 1 (.d (.k3 (.i 8 (vi ((v2 + 1 : Nat) : Int)) .n))) ?_
  exact Vs.intro sy ⟨(v2 + 1), rfl, h⟩
 refine q5 ?_
 exact Vs.intro sy ⟨(), rfl, h⟩
theorem slices_ContainsFunc_Item_3_ok (n : Nat) (a0 : List Item) (a1 : Str) (a2 : Int) (r : Bool) (h : slices_ContainsFunc_Item_3 n a0 a1 a2 = some r) : FnL Try.prog 98 [eS 7 eItem a0, .fn (.func 97) [] [.ptr 0 0 0]] [some (.row 2 [.agg [vt a1, vi a2]])] (vb r) [some (.row 2 [.agg [vt a1, vi a2]])] := by
 dsimp only [slices_ContainsFunc_Item_3] at h
 refine fob [4] Try.call98 Try.func98 rfl (.cons rfl .nil) ?_
 refine sk .a ?_
 refine sj ?_
 refine rk 2 (.i 5 (eS 7 eItem a0) (.i 6 (.fn (.func 97) [] [.ptr 0 0 0]) .n)) ?_
 refine bK h fun y1 hy1 h => ?_
 refine jco (vi y1) 7 [5, 6] (slices_IndexFunc_Item_3_ok n a0 a1 a2 y1 hy1) [0] rfl (.cons rfl .nil) (.cons rfl .nil) rfl ?_
 refine jk 2 (.i 4 (vb (decide ((0 : Int) ≤ y1))) .n) ?_
 refine q3 ?_
 have h := si h
 subst h
 exact DoneS.ret Sees.refl rfl rfl
set_option maxHeartbeats 1000000 in
theorem diary_PlaceOf_ok (n : Nat) (a0 : Diary) (a1 : List Item) (a2 : Moment) (r : Int × Str) (h : diary_PlaceOf n a0 a1 a2 = some r) : FnL Try.prog 53 [.agg [eS 1 vt a0.Places, eS 1 vt a0.Technicians, eS 4 eRoad a0.Roads, eS 3 eGrand a0.Grands, vi a0.Change, vi a0.Lasts], eS 7 eItem a1, .agg [vt a2.Grand, vi a2.Minute]] [] (.tup [vt r.2, vi r.1]) [] := by
 dsimp only [diary_PlaceOf] at h
 refine fo [6, 7] Try.call53 Try.func53 rfl ?_
 refine sko (.d (.k (.i 3 (.ptr 0 0 0) (.i 5 (.ptr 1 0 0) .n)))) [some (.row 6 [.agg [eS 1 vt a0.Places, eS 1 vt a0.Technicians, eS 4 eRoad a0.Roads, eS 3 eGrand a0.Grands, vi a0.Change, vi a0.Lasts]]), some (.row 2 [.agg [vt a2.Grand, vi a2.Minute]])] ?_
 refine TriE.seqK2 h (fun (v4 : Int) => St.mk [(1, eS 7 eItem a1), (3, .ptr 0 0 0), (5, .ptr 1 0 0), (8, .p (.pointer none)), (9, vi v4)] [some (.row 6 [.agg [eS 1 vt a0.Places, eS 1 vt a0.Technicians, eS 4 eRoad a0.Roads, eS 3 eGrand a0.Grands, vi a0.Change, vi a0.Lasts]]), some (.row 2 [.agg [vt a2.Grand, vi a2.Minute]])]) (fun (t : Int × (List (Int × List (Arr2_Str × Int)))) => match t with | (v8, v9) => St.mk [(1, eS 7 eItem a1), (3, .ptr 0 0 0), (5, .ptr 1 0 0), (8, .ptr 3 0 0), (9, vi v8)] [some (.row 6 [.agg [eS 1 vt a0.Places, eS 1 vt a0.Technicians, eS 4 eRoad a0.Roads, eS 3 eGrand a0.Grands, vi a0.Change, vi a0.Lasts]]), some (.row 2 [.agg [vt a2.Grand, vi a2.Minute]]), some (.mp (mpE vi (eM eArr2_Str vi) v9)), some (.row 7 [.agg [eS 1 vt a0.Places, eS 1 vt a0.Technicians, eS 4 eRoad a0.Roads, eS 3 eGrand a0.Grands, vi a0.Change, vi a0.Lasts, .map 2]])]) ?_ ?_ ?_
 ·rintro v4 h
  refine q1 ?_
  refine sk (.k4 (.k (.i 20 (vb (v4 != (0 : Int))) .n))) ?_
  refine tc h (fun c1 h => ?_) (fun c1 h => ?_)
  ·refine sk (.i 6 (vt ([] : Str)) (.i 7 (vi v4) .n)) ?_
   refine q3 ?_
   have h := si h
   subst h
   exact DoneS.ret (S' := ⟨[(6, vt ([] : Str)), (7, vi v4)], []⟩) (sc [] (by decide) (by kernel_rfl) ObRen.nil rfl rfl) rfl rfl
  refine q2 ?_
  refine q1 ?_
  refine sj ?_
  refine rk 3 (.k (.d (.k2 (.i 23 (.agg [eS 1 vt a0.Places, eS 1 vt a0.Technicians, eS 4 eRoad a0.Roads, eS 3 eGrand a0.Grands, vi a0.Change, vi a0.Lasts]) (.i 25 (vt a2.Grand) .n))))) ?_
  refine bK h fun y5 hy5 h => ?_
  refine jc 26 [23, 25] (diary_grand_ok n a0 a2.Grand y5 hy5) ?_
  refine jko 6 (.d (.k3 (.i 11 (vb y5.2.2.2) .n))) [some (.row 6 [.agg [eS 1 vt a0.Places, eS 1 vt a0.Technicians, eS 4 eRoad a0.Roads, eS 3 eGrand a0.Grands, vi a0.Change, vi a0.Lasts]]), some (.row 2 [.agg [vt a2.Grand, vi a2.Minute]]), some (.row 3 [.agg [vt y5.1, vt y5.2.1, vi y5.2.2.1]])] ?_
  refine sk (.k3 (.i 30 (vb (!y5.2.2.2)) .n)) ?_
  refine tc h (fun c2 h => ?_) (fun c2 h => ?_)
  ·refine sk (.i 6 (vt ([] : Str)) (.i 7 (vi 6) .n)) ?_
   refine q3 ?_
   have h := si h
   subst h
   exact DoneS.ret (S' := ⟨[(6, vt ([] : Str)), (7, vi 6)], []⟩) (sc [] (by decide) (by kernel_rfl) ObRen.nil rfl rfl) rfl rfl
  refine q2 ?_
  refine q1 ?_
  refine sj ?_
  refine rk 2 (.k3 (.i 32 (vi a2.Minute) .n)) ?_
  refine bK h fun y6 hy6 h => ?_
  refine jc 33 [32] (diary_isMinute_ok n a2.Minute y6 hy6) ?_
  refine jk 1 (.d (.k3 (.i 34 (vb (!((decide (0 ≤ a2.Minute)) && (decide (a2.Minute ≤ 1000000))))) .n))) ?_
  refine tc h (fun c3 h => ?_) (fun c3 h => ?_)
  ·refine sk (.i 6 (vt ([] : Str)) (.i 7 (vi 2) .n)) ?_
   refine q3 ?_
   have h := si h
   subst h
   exact DoneS.ret (S' := ⟨[(6, vt ([] : Str)), (7, vi 2)], []⟩) (sc [] (by decide) (by kernel_rfl) ObRen.nil rfl rfl) rfl rfl
  refine q2 ?_
  refine sk (.k3 (.i 12 (.fn (.func 97) [] [.ptr 1 0 0]) .n)) ?_
  refine q1 ?_
  refine sj ?_
  refine rk 2 (.k3 (.i 36 (eS 7 eItem a1) (.i 37 (.fn (.func 97) [] [.ptr 1 0 0]) .n))) ?_
  refine bK h fun y7 hy7 h => ?_
  refine jco (vb y7) 38 [36, 37] (slices_ContainsFunc_Item_3_ok n a1 a2.Grand a2.Minute y7 hy7) [1] rfl (.cons rfl .nil) (.cons rfl .nil) rfl ?_
  refine jf (.d (.k3 (.i 38 (vb y7) .n))) ?_
  refine tc h (fun c4 h => ?_) (fun c4 h => ?_)
  ·refine sk (.i 6 (vt ([] : Str)) (.i 7 (vi 0) .n)) ?_
   refine q3 ?_
   have h := si h
   subst h
   exact DoneS.ret (S' := ⟨[(6, vt ([] : Str)), (7, vi 0)], []⟩) (sc [] (by decide) (by kernel_rfl) ObRen.nil rfl rfl) rfl rfl
  refine q2 ?_
  refine sj ?_
  refine rk 6 (.i 39 (.p (.pointer none)) (.i 40 (eS 7 eItem a1) (.i 42 (vt a2.Grand) (.i 44 (vi a2.Minute) .n)))) ?_
  cases h
 ·rintro ⟨v8, v9⟩ h
  refine q1 ?_
  refine sk (.k4 (.k (.i 20 (vb (v8 != (0 : Int))) .n))) ?_
  refine tc h (fun c5 h => ?_) (fun c5 h => ?_)
  ·refine sk (.i 6 (vt ([] : Str)) (.i 7 (vi v8) .n)) ?_
   refine q3 ?_
   have h := si h
   subst h
   exact DoneS.ret (S' := ⟨[(6, vt ([] : Str)), (7, vi v8)], []⟩) (sc [] (by decide) (by kernel_rfl) ObRen.nil rfl rfl) rfl rfl
  refine q2 ?_
  refine q1 ?_
  refine sj ?_
  refine rk 3 (.k (.d (.k2 (.i 23 (.agg [eS 1 vt a0.Places, eS 1 vt a0.Technicians, eS 4 eRoad a0.Roads, eS 3 eGrand a0.Grands, vi a0.Change, vi a0.Lasts]) (.i 25 (vt a2.Grand) .n))))) ?_
  refine bK h fun y10 hy10 h => ?_
  refine jc 26 [23, 25] (diary_grand_ok n a0 a2.Grand y10 hy10) ?_
  refine jko 6 (.d (.k3 (.i 11 (vb y10.2.2.2) .n))) [some (.row 6 [.agg [eS 1 vt a0.Places, eS 1 vt a0.Technicians, eS 4 eRoad a0.Roads, eS 3 eGrand a0.Grands, vi a0.Change, vi a0.Lasts]]), some (.row 2 [.agg [vt a2.Grand, vi a2.Minute]]), some (.mp (mpE vi (eM eArr2_Str vi) v9)), some (.row 7 [.agg [eS 1 vt a0.Places, eS 1 vt a0.Technicians, eS 4 eRoad a0.Roads, eS 3 eGrand a0.Grands, vi a0.Change, vi a0.Lasts, .map 2]]), some (.row 3 [.agg [vt y10.1, vt y10.2.1, vi y10.2.2.1]])] ?_
  refine sk (.k3 (.i 30 (vb (!y10.2.2.2)) .n)) ?_
  refine tc h (fun c6 h => ?_) (fun c6 h => ?_)
  ·refine sk (.i 6 (vt ([] : Str)) (.i 7 (vi 6) .n)) ?_
   refine q3 ?_
   have h := si h
   subst h
   exact DoneS.ret (S' := ⟨[(6, vt ([] : Str)), (7, vi 6)], []⟩) (sc [] (by decide) (by kernel_rfl) ObRen.nil rfl rfl) rfl rfl
  refine q2 ?_
  refine q1 ?_
  refine sj ?_
  refine rk 2 (.k3 (.i 32 (vi a2.Minute) .n)) ?_
  refine bK h fun y11 hy11 h => ?_
  refine jc 33 [32] (diary_isMinute_ok n a2.Minute y11 hy11) ?_
  refine jk 1 (.d (.k3 (.i 34 (vb (!((decide (0 ≤ a2.Minute)) && (decide (a2.Minute ≤ 1000000))))) .n))) ?_
  refine tc h (fun c7 h => ?_) (fun c7 h => ?_)
  ·refine sk (.i 6 (vt ([] : Str)) (.i 7 (vi 2) .n)) ?_
   refine q3 ?_
   have h := si h
   subst h
   exact DoneS.ret (S' := ⟨[(6, vt ([] : Str)), (7, vi 2)], []⟩) (sc [] (by decide) (by kernel_rfl) ObRen.nil rfl rfl) rfl rfl
  refine q2 ?_
  refine sk (.k3 (.i 12 (.fn (.func 97) [] [.ptr 1 0 0]) .n)) ?_
  refine q1 ?_
  refine sj ?_
  refine rk 2 (.k3 (.i 36 (eS 7 eItem a1) (.i 37 (.fn (.func 97) [] [.ptr 1 0 0]) .n))) ?_
  refine bK h fun y12 hy12 h => ?_
  refine jco (vb y12) 38 [36, 37] (slices_ContainsFunc_Item_3_ok n a1 a2.Grand a2.Minute y12 hy12) [1] rfl (.cons rfl .nil) (.cons rfl .nil) rfl ?_
  refine jf (.d (.k3 (.i 38 (vb y12) .n))) ?_
  refine tc h (fun c8 h => ?_) (fun c8 h => ?_)
  ·refine sk (.i 6 (vt ([] : Str)) (.i 7 (vi 0) .n)) ?_
   refine q3 ?_
   have h := si h
   subst h
   exact DoneS.ret (S' := ⟨[(6, vt ([] : Str)), (7, vi 0)], []⟩) (sc [] (by decide) (by kernel_rfl) ObRen.nil rfl rfl) rfl rfl
  refine q2 ?_
  refine sj ?_
  refine rk 6 (.i 39 (.ptr 3 0 0) (.i 40 (eS 7 eItem a1) (.i 42 (vt a2.Grand) (.i 44 (vi a2.Minute) .n)))) ?_
  refine bK h fun y13 hy13 h => ?_
  refine jco (vt y13) 45 [39, 40, 42, 44] (diary_plan_place_ok n a0.Places a0.Technicians a0.Roads a0.Grands a0.Change a0.Lasts v9 a1 a2.Grand a2.Minute y13 hy13) [3, 2] rfl (.cons rfl (.same (mp_ren vi_frz (eM_frz eArr2_Str vi) _ _) .nil)) (.cons rfl (.same (mp_ren vi_frz (eM_frz eArr2_Str vi) _ _) .nil)) rfl ?_
  refine jk 2 (.i 6 (vt y13) (.i 7 (vi 0) .n)) ?_
  refine q3 ?_
  have h := si h
  subst h
  exact DoneS.ret (S' := ⟨[(6, vt y13), (7, vi 0)], []⟩) (sc [] (by decide) (by kernel_rfl) ObRen.nil rfl rfl) rfl rfl
 intro k1 k2 h
 refine q6 ?_
 refine rk 2 (.k3 (.i 14 (.agg [eS 1 vt a0.Places, eS 1 vt a0.Technicians, eS 4 eRoad a0.Roads, eS 3 eGrand a0.Grands, vi a0.Change, vi a0.Lasts]) (.i 15 (eS 7 eItem a1) .n))) ?_
 refine bK h fun y1 hy1 h => ?_
 rcases y1 with y1 | y1
 ·dsimp only at h
  refine jc 16 [14, 15] (diary_read_ok n a0 a1 (Sum.inl y1) hy1) ?_
  refine jk 5 (.d (.k3 (.i 8 (.p (.pointer none)) (.i 9 (vi y1) .n)))) ?_
  exact Vs.intro Sees.refl (.inl ⟨y1, rfl, h⟩)
 dsimp only at h
 refine jco (.tup [.ptr 3 0 0, vi y1.1]) 16 [14, 15] (diary_read_ok n a0 a1 (Sum.inr y1) hy1) [] rfl ObsRen.nil (.same (mp_ren vi_frz (eM_frz eArr2_Str vi) _ _) (.cons rfl .nil)) rfl ?_
 refine jk 5 (.d (.k3 (.i 8 (.ptr 3 0 0) (.i 9 (vi y1.1) .n)))) ?_
 exact Vs.intro Sees.refl (.inr ⟨(y1.1, y1.2), rfl, h⟩)
set_option maxHeartbeats 1000000 in
theorem agrafferef09_Stands_ok (n : Nat) (a0 : Diary) (a1 : List Item) (a2 : Str) (a3 : Int) (r : Str) (h : agrafferef09_Stands n a0 a1 a2 a3 = some r) : FnL Try.prog 55 [.agg [eS 1 vt a0.Places, eS 1 vt a0.Technicians, eS 4 eRoad a0.Roads, eS 3 eGrand a0.Grands, vi a0.Change, vi a0.Lasts], eS 7 eItem a1, vt a2, vi a3] [] (vt r) [] := by
 dsimp only [agrafferef09_Stands] at h
 refine fo [8] Try.call55 Try.func55 rfl ?_
 refine sko (.d (.k3 (.i 4 (.ptr 0 0 0) .n))) [some (.row 6 [.agg [eS 1 vt a0.Places, eS 1 vt a0.Technicians, eS 4 eRoad a0.Roads, eS 3 eGrand a0.Grands, vi a0.Change, vi a0.Lasts]])] ?_
 refine q1 ?_
 refine ts .a ?_
 refine TriE.draw (by kernel_rfl) ?_
 refine dk 4 (.i 14 (vt a2) (.i 13 (.agg [eS 1 vt a0.Places, eS 1 vt a0.Technicians, eS 4 eRoad a0.Roads, eS 3 eGrand a0.Grands, vi a0.Change, vi a0.Lasts]) (.i 12 (eS 3 eGrand a0.Grands) (.i 11 (.ptr 0 0 3) .a)))) ?_
 refine bK h fun y1 hy1 h => ?_
 refine dc (vi y1) 0 15 [13, 14] (agrafferef09_GrandAt_ok n a0 a2 y1 hy1) [] rfl ObsRen.nil ObsRen.nil rfl (.inr ⟨rfl, rfl⟩) ?_
 refine cK h fun c1 h => ?_
 refine dp 16 (.iaddr 3 12 15) (ok_iaddr_m (j := y1.toNat) rfl rfl (inB_to c1) (inB_lt c1)) ?_
 refine dk 1 (.i 17 (.fptr 3 (List.map eGrand a0.Grands) y1.toNat 1) .a) ?_
 refine cK h fun c2 h => ?_
 refine dp 18 (.load false 1 17) (ok_load_fm (v := vt ((ix a0.Grands y1.toNat).Place)) rfl c2 rfl) ?_
 refine dk 1 (.i 9 (vt ((ix a0.Grands y1.toNat).Place)) .a) ?_
 refine dfi (.d4 (.d4 (.d (.k3 (.i 9 (vt ((ix a0.Grands y1.toNat).Place)) .n))))) [] ObRen.nil ?_
 refine TriE.seqK h (fun (v6 : Str) => St.mk [(9, vt v6)] []) ?_ ?_
 ·rintro v6 h
  refine sk (.i 8 (vt v6) .n) ?_
  refine q3 ?_
  have h := si h
  subst h
  exact DoneS.ret Sees.refl rfl rfl
 intro k2 h
 refine sk (.k4 (.i 10 (vi 0) .n)) ?_
 refine q4 ?_
 refine ts (.k4 (.i 10 (vi 0) .n)) ?_
 refine TriE.loopN h (fun (t : Str × Nat) => match t with | (v3, v4) => St.mk [(1, eS 7 eItem a1), (2, vt a2), (3, vi a3), (9, vt v3), (10, vi v4)] []) rfl ?_
 clear h
 rintro back ⟨v3, v4⟩ h
 dsimp only [agrafferef09_Stands_L1] at h
 refine q1 ?_
 refine sj ?_
 refine rk 2 (.k4 (.k (.i 19 (vi v4) (.i 20 (eS 7 eItem a1) .n)))) ?_
 refine jo 21 (.len 0 20) (ok_len_m rfl) ?_
 refine jo 22 (.bin .lss false 19 21) (n_lss (i := v4) (j := a1.length) rfl rfl) ?_
 refine jf (.d2 (.k4 (.k (.i 22 (vb (decide (v4 < a1.length))) .n)))) ?_
 refine tc h (fun c3 h => ?_) (fun c3 h => ?_)
 ·refine q2 ?_
  refine TriE.seqK h (fun (v5 : Str) => St.mk [(1, eS 7 eItem a1), (2, vt a2), (3, vi a3), (10, vi v4), (9, vt v5)] []) ?_ ?_
  ·rintro v5 h
   refine q6 ?_
   refine rk 1 (.k3 (.d (.k (.i 23 (vi v4) .n)))) ?_
   refine cK h fun c5 h => ?_
   refine jo 24 (.bin .add false 23 (ki 1)) (r_addn (i := v4) (j := 1) rfl rfl c5) ?_
   refine jk 1 (.d (.k4 (.i 10 (vi ((v4 + 1 : Nat) : Int)) .n))) ?_
   exact Vs.intro sy ⟨(v5, v4 + 1), rfl, h⟩
  intro k1 h
  refine q4 ?_
  refine sj ?_
  refine rk 2 (.k4 (.k (.i 25 (eS 7 eItem a1) (.i 26 (vi v4) .n)))) ?_
  refine jo 27 (.iaddr 7 25 26) (ok_iaddr_m (j := v4) rfl rfl rfl c3) ?_
  refine rk 1 (.d (.k4 (.k (.i 28 (.fptr 7 (List.map eItem a1) v4 0) .n)))) ?_
  refine jo 29 (.load false 1 28) (ok_load_fm (v := vi ((ix a1 v4).Kind)) rfl c3 rfl) ?_
  refine rk 2 (.d (.k4 (.k (.i 31 (vb (((ix a1 v4).Kind) == (1 : Int))) .n)))) ?_
  refine gj (eS 7 eItem a1) 32 (.mov 1) 31 true rfl ?_
  refine gj (vi v4) 33 (.mov 10) 31 true rfl ?_
  refine gv 34 (.iaddr 7 32 33) 31 true rfl (fun hg => (ok_iaddr_m (j := v4) rfl rfl rfl c3)) (fun hg => (.cons hg (.cons hg .nil))) ?_
  refine gk (.fptr 7 (List.map eItem a1) v4 3) 35 (.faddr 3 34) 31 true rfl (fun hg => (.cons hg .nil)) ?_
  refine gv 36 (.load false 1 35) 31 true rfl (fun hg => (ok_load_fm (v := vt ((ix a1 v4).Grand)) rfl c3 rfl)) (fun hg => (.cons hg .nil)) ?_
  refine gj (vt a2) 37 (.mov 2) 31 true rfl ?_
  refine gk (vb (((ix a1 v4).Grand) == a2)) 38 (.bin .eql false 36 37) 31 true rfl (fun hg => (.cons hg (.cons hg .nil))) ?_
  refine pa 39 31 38 rfl rfl ?_
  refine rk 1 (.d4 (.d4 (.k4 (.k (.i 32 (.cond (((ix a1 v4).Kind) == (1 : Int)) (eS 7 eItem a1)) (.i 33 (.cond (((ix a1 v4).Kind) == (1 : Int)) (vi v4)) (.i 34 (.cond (((ix a1 v4).Kind) == (1 : Int)) (.fptr 7 (List.map eItem a1) v4 0)) (.i 35 (.cond (((ix a1 v4).Kind) == (1 : Int)) (.fptr 7 (List.map eItem a1) v4 3)) (.i 36 (.cond (((ix a1 v4).Kind) == (1 : Int)) (vt ((ix a1 v4).Grand))) (.i 37 (.cond (((ix a1 v4).Kind) == (1 : Int)) (vt a2)) (.i 38 (.cond (((ix a1 v4).Kind) == (1 : Int)) (vb (((ix a1 v4).Grand) == a2))) (.i 40 (vb ((((ix a1 v4).Kind) == (1 : Int)) && (((ix a1 v4).Grand) == a2))) .n)))))))))))) ?_
  refine gj (eS 7 eItem a1) 41 (.mov 1) 40 true rfl ?_
  refine gj (vi v4) 42 (.mov 10) 40 true rfl ?_
  refine gv 43 (.iaddr 7 41 42) 40 true rfl (fun hg => (ok_iaddr_m (j := v4) rfl rfl rfl c3)) (fun hg => (.cons hg (.cons hg .nil))) ?_
  refine gk (.fptr 7 (List.map eItem a1) v4 2) 44 (.faddr 2 43) 40 true rfl (fun hg => (.cons hg .nil)) ?_
  refine gv 45 (.load false 1 44) 40 true rfl (fun hg => (ok_load_fm (v := vi ((ix a1 v4).To)) rfl c3 rfl)) (fun hg => (.cons hg .nil)) ?_
  refine gj (vi a3) 46 (.mov 3) 40 true rfl ?_
  refine gk (vb (decide (((ix a1 v4).To) ≤ a3))) 47 (.bin .leq false 45 46) 40 true rfl (fun hg => (.cons hg (.cons hg .nil))) ?_
  refine pa 48 40 47 rfl rfl ?_
  refine jf (.d4 (.d4 (.k4 (.k (.i 48 (vb (((((ix a1 v4).Kind) == (1 : Int)) && (((ix a1 v4).Grand) == a2)) && (decide (((ix a1 v4).To) ≤ a3)))) .n))))) ?_
  refine tc h (fun c4 h => ?_) (fun c4 h => ?_)
  ·refine q6 ?_
   refine rk 2 (.k3 (.d (.k (.i 49 (eS 7 eItem a1) (.i 50 (vi v4) .n))))) ?_
   refine jo 51 (.iaddr 7 49 50) (ok_iaddr_m (j := v4) rfl rfl rfl c3) ?_
   refine rk 1 (.d (.k4 (.i 52 (.fptr 7 (List.map eItem a1) v4 4) .n))) ?_
   refine jo 53 (.load false 1 52) (ok_load_fm (v := vt ((ix a1 v4).Place)) rfl c3 rfl) ?_
   refine jk 1 (.d (.k4 (.i 9 (vt ((ix a1 v4).Place)) .n))) ?_
   exact Vs.intro Sees.refl ⟨((ix a1 v4).Place), rfl, h⟩
  refine q2 ?_
  exact Vs.intro sy ⟨v3, rfl, h⟩
 refine q5 ?_
 exact Vs.intro sy ⟨v3, rfl, h⟩
theorem diary_Route_f1_ok (n : Nat) (a0 : Str) (a1 : List Str) (a2 : List Str) (a3 : List Road) (a4 : List Grand) (a5 : Int) (a6 : Int) (a7 : List (Int × List (Arr2_Str × Int))) (a8 : Str) (a9 : Int) (a10 : Str) (a11 : Str) (a12 : Int) (r : Bool × (List (Int × List (Arr2_Str × Int)))) (h : diary_Route_f1 n a0 a1 a2 a3 a4 a5 a6 a7 a8 a9 a10 a11 a12 = some r) : FnL Try.prog 88 [vt a0, .ptr 0 0 0, .ptr 3 0 0, .ptr 4 0 0, .ptr 5 0 0, .ptr 6 0 0] [some (.row 1 [.ptr 1 0 0]), some (.row 7 [.agg [eS 1 vt a1, eS 1 vt a2, eS 4 eRoad a3, eS 3 eGrand a4, vi a5, vi a6, .map 2]]), some (.mp (mpE vi (eM eArr2_Str vi) a7)), some (.row 1 [vt a8]), some (.row 1 [vi a9]), some (.row 2 [.agg [vt a10, vt a11]]), some (.row 1 [vi a12])] (vb r.1) [some (.row 1 [.ptr 1 0 0]), some (.row 7 [.agg [eS 1 vt a1, eS 1 vt a2, eS 4 eRoad a3, eS 3 eGrand a4, vi a5, vi a6, .map 2]]), some (.mp (mpE vi (eM eArr2_Str vi) r.2)), some (.row 1 [vt a8]), some (.row 1 [vi a9]), some (.row 2 [.agg [vt a10, vt a11]]), some (.row 1 [vi a12])] := by
 dsimp only [diary_Route_f1] at h
 refine fob [7] Try.call88 Try.func88 rfl (.cons rfl (.cons rfl (.cons rfl (.cons rfl (.cons rfl (.cons rfl (.cons rfl .nil))))))) ?_
 refine sk .a ?_
 refine sj ?_
 refine rk 4 (.k2 (.d (.k3 (.i 13 (.ptr 1 0 0) (.i 14 (vt a8) (.i 15 (vt a0) (.i 16 (vi a9) .n))))))) ?_
 refine bK h fun y1 hy1 h => ?_
 refine jco (.tup [vi y1.1, vb y1.2]) 17 [13, 14, 15, 16] (diary_plan_joined_ok n a1 a2 a3 a4 a5 a6 a7 a8 a0 a9 y1 hy1) [1, 2] rfl (.cons rfl (.same (mp_ren vi_frz (eM_frz eArr2_Str vi) _ _) .nil)) (.cons rfl (.same (mp_ren vi_frz (eM_frz eArr2_Str vi) _ _) .nil)) rfl ?_
 refine jk 5 (.d (.k4 (.k (.i 8 (vi y1.1) (.i 9 (vb y1.2) .n))))) ?_
 refine sj ?_
 refine rk 5 (.d4 (.k3 (.i 21 (.ptr 1 0 0) (.i 22 (vt a0) (.i 24 (vt a11) (.i 25 (vi a9) .n)))))) ?_
 refine bK h fun y2 hy2 h => ?_
 refine jco (.tup [vi y2.1, vb y2.2.1]) 26 [21, 22, 24, 25] (diary_plan_distance_ok n a1 a2 a3 a4 a5 a6 a7 a0 a11 a9 y2 hy2) [1, 2] rfl (.cons rfl (.same (mp_ren vi_frz (eM_frz eArr2_Str vi) _ _) .nil)) (.cons rfl (.same (mp_ren vi_frz (eM_frz eArr2_Str vi) _ _) .nil)) rfl ?_
 refine jk 5 (.d (.k3 (.i 10 (vi y2.1) (.i 11 (vb y2.2.1) .n)))) ?_
 refine sj ?_
 refine rk 2 (.k2 (.d (.k2 (.i 30 (vb y1.2) .n)))) ?_
 refine gj (vb y2.2.1) 31 (.mov 11) 30 true rfl ?_
 refine pa 32 30 31 rfl rfl ?_
 refine rk 1 (.d2 (.k3 (.i 33 (vb (y1.2 && y2.2.1)) .n))) ?_
 refine gj (vi y1.1) 34 (.mov 8) 33 true rfl ?_
 refine gj (vi y2.1) 35 (.mov 10) 33 true rfl ?_
 refine cK h fun c1 h => ?_
 refine gv 36 (.bin .add false 34 35) 33 true rfl (fun hg => (r_add rfl rfl (gor c1 hg))) (fun hg => (.cons hg (.cons hg .nil))) ?_
 refine gj (vi a12) 37 (.load false 1 5) 33 true rfl ?_
 refine gk (vb ((y1.1 + y2.1) == a12)) 38 (.bin .eql false 36 37) 33 true rfl (fun hg => (.cons hg (.cons hg .nil))) ?_
 refine pa 39 33 38 rfl rfl ?_
 refine jk 1 (.i 7 (vb ((y1.2 && y2.2.1) && ((y1.1 + y2.1) == a12))) .n) ?_
 refine q3 ?_
 have h := si h
 subst h
 exact DoneS.ret Sees.refl rfl rfl
theorem slices_IndexFunc_string_3_ok (n : Nat) (a0 : List Str) (a1 : List Str) (a2 : List Str) (a3 : List Road) (a4 : List Grand) (a5 : Int) (a6 : Int) (a7 : List (Int × List (Arr2_Str × Int))) (a8 : Str) (a9 : Int) (a10 : Str) (a11 : Str) (a12 : Int) (r : (List (Int × List (Arr2_Str × Int))) × Int) (h : slices_IndexFunc_string_3 n a0 a1 a2 a3 a4 a5 a6 a7 a8 a9 a10 a11 a12 = some r) : FnL Try.prog 87 [eS 1 vt a0, .fn (.func 88) [] [.ptr 0 0 0, .ptr 3 0 0, .ptr 4 0 0, .ptr 5 0 0, .ptr 6 0 0]] [some (.row 1 [.ptr 1 0 0]), some (.row 7 [.agg [eS 1 vt a1, eS 1 vt a2, eS 4 eRoad a3, eS 3 eGrand a4, vi a5, vi a6, .map 2]]), some (.mp (mpE vi (eM eArr2_Str vi) a7)), some (.row 1 [vt a8]), some (.row 1 [vi a9]), some (.row 2 [.agg [vt a10, vt a11]]), some (.row 1 [vi a12])] (vi r.2) [some (.row 1 [.ptr 1 0 0]), some (.row 7 [.agg [eS 1 vt a1, eS 1 vt a2, eS 4 eRoad a3, eS 3 eGrand a4, vi a5, vi a6, .map 2]]), some (.mp (mpE vi (eM eArr2_Str vi) r.1)), some (.row 1 [vt a8]), some (.row 1 [vi a9]), some (.row 2 [.agg [vt a10, vt a11]]), some (.row 1 [vi a12])] := by
 dsimp only [slices_IndexFunc_string_3] at h
 refine fob [4] Try.call87 Try.func87 rfl (.cons rfl (.cons rfl (.cons rfl (.cons rfl (.cons rfl (.cons rfl (.cons rfl .nil))))))) ?_
 refine sk .a ?_
 refine TriE.seqK h (fun (v5 : (List (Int × List (Arr2_Str × Int)))) => St.mk [] [some (.row 1 [.ptr 1 0 0]), some (.row 7 [.agg [eS 1 vt a1, eS 1 vt a2, eS 4 eRoad a3, eS 3 eGrand a4, vi a5, vi a6, .map 2]]), some (.mp (mpE vi (eM eArr2_Str vi) v5)), some (.row 1 [vt a8]), some (.row 1 [vi a9]), some (.row 2 [.agg [vt a10, vt a11]]), some (.row 1 [vi a12])]) ?_ ?_
 ·rintro v5 h
  refine sk (.i 4 (vi (-1)) .n) ?_
  refine q3 ?_
  have h := si h
  subst h
  exact DoneS.ret Sees.refl rfl rfl
 intro k1 h
 refine sj ?_
 refine rk 1 (.k2 (.i 6 (eS 1 vt a0) .n)) ?_
 refine jo 7 (.len 0 6) (ok_len_m rfl) ?_
 refine jk 1 (.d (.k2 (.i 7 (vi (a0.length : Int)) (.i 8 (vi 0) .n)))) ?_
 refine q4 ?_
 refine ts (.k3 (.i 8 (vi 0) .n)) ?_
 refine TriE.loopN h (fun (t : Nat × (List (Int × List (Arr2_Str × Int)))) => match t with | (v2, v3) => St.mk [(0, eS 1 vt a0), (1, .fn (.func 88) [] [.ptr 0 0 0, .ptr 3 0 0, .ptr 4 0 0, .ptr 5 0 0, .ptr 6 0 0]), (7, vi (a0.length : Int)), (8, vi v2)] [some (.row 1 [.ptr 1 0 0]), some (.row 7 [.agg [eS 1 vt a1, eS 1 vt a2, eS 4 eRoad a3, eS 3 eGrand a4, vi a5, vi a6, .map 2]]), some (.mp (mpE vi (eM eArr2_Str vi) v3)), some (.row 1 [vt a8]), some (.row 1 [vi a9]), some (.row 2 [.agg [vt a10, vt a11]]), some (.row 1 [vi a12])]) rfl ?_
 clear h
 rintro back ⟨v2, v3⟩ h
 dsimp only [slices_IndexFunc_string_3_L1] at h
 refine sj ?_
 refine jo 9 (.bin .lss false 8 7) (n_lss (i := v2) (j := a0.length) rfl rfl) ?_
 refine jf (.d (.k4 (.i 9 (vb (decide (v2 < a0.length))) .n))) ?_
 refine q1 ?_
 refine tc h (fun c1 h => ?_) (fun c1 h => ?_)
 ·refine q2 ?_
  refine q7 ?_
  refine sk (.k4 (.i 5 (vi v2) .n)) ?_
  refine sj ?_
  refine rk 3 (.k4 (.k (.i 11 (.fn (.func 88) [] [.ptr 0 0 0, .ptr 3 0 0, .ptr 4 0 0, .ptr 5 0 0, .ptr 6 0 0]) (.i 12 (eS 1 vt a0) (.i 13 (vi v2) .n))))) ?_
  refine jo 14 (.iaddr 1 12 13) (ok_iaddr_m (j := v2) rfl rfl rfl c1) ?_
  refine jo 15 (.load false 1 14) (ok_load_fm (v := vt (ix a0 v2)) rfl c1 rfl) ?_
  refine bK h fun y4 hy4 h => ?_
  refine jy (vb y4.1) 16 11 [15] rfl (diary_Route_f1_ok n (ix a0 v2) a1 a2 a3 a4 a5 a6 v3 a8 a9 a10 a11 a12 y4 hy4) [0, 1, 2, 3, 4, 5, 6] rfl (.cons rfl (.cons rfl (.same (mp_ren vi_frz (eM_frz eArr2_Str vi) _ _) (.cons rfl (.cons rfl (.cons rfl (.cons rfl .nil))))))) (.cons rfl (.cons rfl (.same (mp_ren vi_frz (eM_frz eArr2_Str vi) _ _) (.cons rfl (.cons rfl (.cons rfl (.cons rfl .nil))))))) rfl ?_
  refine jf (.d3 (.k4 (.k (.i 16 (vb y4.1) .n)))) ?_
  refine tc h (fun c2 h => ?_) (fun c2 h => ?_)
  ·refine sk (.i 4 (vi v2) .n) ?_
   refine q3 ?_
   have h := si h
   subst h
   exact DoneS.ret Sees.refl rfl rfl
  refine q2 ?_
  refine q6 ?_
  refine cK h fun c3 h => ?_
  refine jo 18 (.bin .add false 8 (ki 1)) (r_addn (i := v2) (j := 1) rfl rfl c3) ?_
  refine jk 1 (.d (.k3 (.i 8 (vi ((v2 + 1 : Nat) : Int)) .n))) ?_
  exact Vs.intro sy ⟨(v2 + 1, y4.2), rfl, h⟩
 refine q5 ?_
 exact Vs.intro sy ⟨v3, rfl, h⟩
set_option maxHeartbeats 1000000 in
theorem diary_Route_ok (n : Nat) (a0 : Diary) (a1 : Arr2_Str) (a2 : Int) (r : Int × (List Str) × Int) (h : diary_Route n a0 a1 a2 = some r) : FnL Try.prog 32 [.agg [eS 1 vt a0.Places, eS 1 vt a0.Technicians, eS 4 eRoad a0.Roads, eS 3 eGrand a0.Grands, vi a0.Change, vi a0.Lasts], .agg [vt a1.a0, vt a1.a1], vi a2] [] (.tup [eS 1 vt r.2.1, vi r.2.2, vi r.1]) [] := by
 dsimp only [diary_Route] at h
 refine fo [6, 7, 8] Try.call32 Try.func32 rfl ?_
 refine sko (.i 3 (.ptr 0 0 0) (.i 4 (.ptr 1 0 0) (.i 5 (.ptr 2 0 0) .n))) [some (.row 6 [.agg [eS 1 vt a0.Places, eS 1 vt a0.Technicians, eS 4 eRoad a0.Roads, eS 3 eGrand a0.Grands, vi a0.Change, vi a0.Lasts]]), some (.row 2 [.agg [vt a1.a0, vt a1.a1]]), some (.row 1 [vi a2])] ?_
 refine TriE.seqK2 h (fun (v4 : Int) => St.mk [(3, .ptr 0 0 0), (4, .ptr 1 0 0), (5, .ptr 2 0 0), (9, .ptr 3 0 0), (10, vi v4)] [some (.row 6 [.agg [eS 1 vt a0.Places, eS 1 vt a0.Technicians, eS 4 eRoad a0.Roads, eS 3 eGrand a0.Grands, vi a0.Change, vi a0.Lasts]]), some (.row 2 [.agg [vt a1.a0, vt a1.a1]]), some (.row 1 [vi a2]), some (.row 1 [.p (.pointer none)])]) (fun (_ : Unit) => St.mk [(3, .ptr 0 0 0), (4, .ptr 1 0 0), (5, .ptr 2 0 0), (9, .ptr 5 0 0), (10, vi 0)] [some (.row 6 [.agg [eS 1 vt a0.Places, eS 1 vt a0.Technicians, eS 4 eRoad a0.Roads, eS 3 eGrand a0.Grands, vi a0.Change, vi a0.Lasts]]), some (.row 2 [.agg [vt a1.a0, vt a1.a1]]), some (.row 1 [vi a2]), some (.mp (mpE vi (eM eArr2_Str vi) ([] : List (Int × List (Arr2_Str × Int))))), some (.row 7 [.agg [eS 1 vt a0.Places, eS 1 vt a0.Technicians, eS 4 eRoad a0.Roads, eS 3 eGrand a0.Grands, vi a0.Change, vi a0.Lasts, .map 3]]), some (.row 1 [.ptr 4 0 0])]) ?_ ?_ ?_
 ·rintro v4 h
  refine q7 ?_
  refine sk (.k4 (.k (.i 25 (vb (v4 != (0 : Int))) .n))) ?_
  refine tc h (fun c1 h => ?_) (fun c1 h => ?_)
  ·refine sk (.i 6 .emp (.i 7 (vi 0) (.i 8 (vi v4) .n))) ?_
   refine q3 ?_
   have h := si h
   subst h
   exact DoneS.ret (S' := ⟨[(6, eS 1 vt ([] : List Str)), (7, vi 0), (8, vi v4)], []⟩) (Sees.trans (Sees.vco (fr' := [(6, eS 1 vt ([] : List Str)), (7, vi 0), (8, vi v4)]) (.cons .sl (.cons .same (.cons .same .nil)))) (sc [] (by decide) (by kernel_rfl) ObRen.nil rfl rfl)) rfl rfl
  refine sj ?_
  refine rk 3 (.k4 (.i 30 (.p (.pointer none)) (.i 32 (vt a1.a0) .n))) ?_
  cases h
 ·rintro ⟨⟩ h
  refine q7 ?_
  refine sk (.k4 (.k (.i 25 (vb false) .n))) ?_
  refine TriE.cond (b := false) rfl (fun c2 => ?_) (fun c2 => ?_)
  ·cases c2
  refine sj ?_
  refine rk 3 (.k4 (.i 30 (.ptr 4 0 0) (.i 32 (vt a1.a0) .n))) ?_
  refine bK h fun y5 hy5 h => ?_
  refine jco (vb y5) 33 [30, 32] (diary_plan_isPlace_2_ok n a0.Places a0.Technicians a0.Roads a0.Grands a0.Change a0.Lasts ([] : List (Int × List (Arr2_Str × Int))) a1.a0 y5 hy5) [4, 3] rfl (.cons rfl (.same (mp_ren vi_frz (eM_frz eArr2_Str vi) _ _) .nil)) (.cons rfl (.same (mp_ren vi_frz (eM_frz eArr2_Str vi) _ _) .nil)) rfl ?_
  refine rk 2 (.d (.k4 (.i 35 (vb (!y5)) .n))) ?_
  refine gj (.ptr 4 0 0) 36 (.load false 1 9) 35 false rfl ?_
  refine gj (.ptr 1 0 1) 37 (.aaddr 2 1 4 (ki 1)) 35 false rfl ?_
  refine gk (vt a1.a1) 38 (.load false 1 37) 35 false rfl (fun hg => (.cons hg .nil)) ?_
  refine bK h fun y6 hy6 h => ?_
  refine RegJ.op (Op1.callg (g := !(!y5)) (y' := vb y6) (obx := [some (.row 7 [.agg [eS 1 vt a0.Places, eS 1 vt a0.Technicians, eS 4 eRoad a0.Roads, eS 3 eGrand a0.Grands, vi a0.Change, vi a0.Lasts, .map 3]]), some (.mp (mpE vi (eM eArr2_Str vi) ([] : List (Int × List (Arr2_Str × Int)))))]) _ _ (cy (IG 39 (.call 81 [36, 38]) 35 false)) rfl (fun hg => diary_plan_isPlace_2_ok n a0.Places a0.Technicians a0.Roads a0.Grands a0.Change a0.Lasts ([] : List (Int × List (Arr2_Str × Int))) a1.a1 y6 (gcall_some hy6 hg)) [4, 3] (fun hg => by kernel_rfl) (fun hg => (.cons rfl (.cons hg (.cons hg .nil)))) (by kernel_rfl) (by kernel_rfl) (.cons rfl (.same (mp_ren vi_frz (eM_frz eArr2_Str vi) _ _) .nil)) (by kernel_rfl) (by kernel_rfl)) ?_
  refine gk (vb (!y6)) 40 (.un .not 39) 35 false rfl (fun hg => (.cons hg .nil)) ?_
  refine po 41 35 40 rfl rfl ?_
  refine jk 1 (.d4 (.d2 (.k4 (.i 29 (vb ((!y5) || (!y6))) .n)))) ?_
  refine tc h (fun c3 h => ?_) (fun c3 h => ?_)
  ·refine sk (.i 6 .emp (.i 7 (vi 0) (.i 8 (vi 6) .n))) ?_
   refine q3 ?_
   have h := si h
   subst h
   exact DoneS.ret (S' := ⟨[(6, eS 1 vt ([] : List Str)), (7, vi 0), (8, vi 6)], []⟩) (Sees.trans (Sees.vco (fr' := [(6, eS 1 vt ([] : List Str)), (7, vi 0), (8, vi 6)]) (.cons .sl (.cons .same (.cons .same .nil)))) (sc [] (by decide) (by kernel_rfl) ObRen.nil rfl rfl)) rfl rfl
  refine sj ?_
  refine rk 1 (.k4 (.i 43 (vi a2) .n)) ?_
  refine bK h fun y7 hy7 h => ?_
  refine jc 44 [43] (diary_isWidth_ok n a2 y7 hy7) ?_
  refine jk 2 (.d (.k4 (.i 42 (vb (!((decide (1 ≤ a2)) && (decide (a2 ≤ 10000))))) .n))) ?_
  refine tc h (fun c4 h => ?_) (fun c4 h => ?_)
  ·refine sk (.i 6 .emp (.i 7 (vi 0) (.i 8 (vi 2) .n))) ?_
   refine q3 ?_
   have h := si h
   subst h
   exact DoneS.ret (S' := ⟨[(6, eS 1 vt ([] : List Str)), (7, vi 0), (8, vi 2)], []⟩) (Sees.trans (Sees.vco (fr' := [(6, eS 1 vt ([] : List Str)), (7, vi 0), (8, vi 2)]) (.cons .sl (.cons .same (.cons .same .nil)))) (sc [] (by decide) (by kernel_rfl) ObRen.nil rfl rfl)) rfl rfl
  refine q2 ?_
  refine sj ?_
  refine rk 6 (.k4 (.i 47 (.ptr 4 0 0) (.i 49 (vt a1.a0) (.i 51 (vt a1.a1) (.i 52 (vi a2) .n))))) ?_
  refine bK h fun y8 hy8 h => ?_
  refine jco (.tup [vi y8.1, vb y8.2.1]) 53 [47, 49, 51, 52] (diary_plan_distance_ok n a0.Places a0.Technicians a0.Roads a0.Grands a0.Change a0.Lasts ([] : List (Int × List (Arr2_Str × Int))) a1.a0 a1.a1 a2 y8 hy8) [4, 3] rfl (.cons rfl (.same (mp_ren vi_frz (eM_frz eArr2_Str vi) _ _) .nil)) (.cons rfl (.same (mp_ren vi_frz (eM_frz eArr2_Str vi) _ _) .nil)) rfl ?_
  refine jk 5 (.d (.k4 (.i 11 (vi y8.1) (.i 12 (vb y8.2.1) .n)))) ?_
  refine q1 ?_
  refine sk (.k4 (.k (.i 57 (vb (!y8.2.1)) .n))) ?_
  refine tc h (fun c5 h => ?_) (fun c5 h => ?_)
  ·refine sk (.i 6 .emp (.i 7 (vi 0) (.i 8 (vi 12) .n))) ?_
   refine q3 ?_
   have h := si h
   subst h
   exact DoneS.ret (S' := ⟨[(6, eS 1 vt ([] : List Str)), (7, vi 0), (8, vi 12)], []⟩) (Sees.trans (Sees.vco (fr' := [(6, eS 1 vt ([] : List Str)), (7, vi 0), (8, vi 12)]) (.cons .sl (.cons .same (.cons .same .nil)))) (sc [] (by decide) (by kernel_rfl) ObRen.nil rfl rfl)) rfl rfl
  refine q2 ?_
  refine sko (.k4 (.k (.i 14 (.ptr 7 0 0) (.i 13 (.own 6 0 1) .n)))) [some (.row 6 [.agg [eS 1 vt a0.Places, eS 1 vt a0.Technicians, eS 4 eRoad a0.Roads, eS 3 eGrand a0.Grands, vi a0.Change, vi a0.Lasts]]), some (.row 2 [.agg [vt a1.a0, vt a1.a1]]), some (.row 1 [vi a2]), some (.mp (mpE vi (eM eArr2_Str vi) y8.2.2)), some (.row 7 [.agg [eS 1 vt a0.Places, eS 1 vt a0.Technicians, eS 4 eRoad a0.Roads, eS 3 eGrand a0.Grands, vi a0.Change, vi a0.Lasts, .map 3]]), some (.row 1 [.ptr 4 0 0]), some (.row 1 [vt a1.a0]), some (.row 1 [vi y8.1])] ?_
  refine TriE.seqK h (fun (v17 : (List Str)) => St.mk [(11, vi y8.1), (13, .own 0 0 v17.length)] [some (.row 1 (List.map vt v17))]) ?_ ?_
  ·rintro v17 h
   refine sk (.i 6 (.own 0 0 v17.length) (.i 7 (vi y8.1) (.i 8 (vi 0) .n))) ?_
   refine q3 ?_
   have h := si h
   subst h
   exact DoneS.ret (S' := ⟨[(6, eS 1 vt v17), (7, vi y8.1), (8, vi 0)], []⟩) (Sees.trans (Sees.freeze 0 (fr' := [(6, eS 1 vt v17), (7, vi y8.1), (8, vi 0)]) (ob' := [none]) rfl (frz_row vt_frzE _) (.cons (frz_full rfl) (.cons (.refl _) (.cons (.refl _) .nil))) rfl) (sc [] (by decide) (by kernel_rfl) ObRen.nil rfl rfl)) rfl rfl
  intro k3 h
  refine sko (.k4 (.k3 (.i 15 (.ptr 8 0 0) .n))) [some (.row 6 [.agg [eS 1 vt a0.Places, eS 1 vt a0.Technicians, eS 4 eRoad a0.Roads, eS 3 eGrand a0.Grands, vi a0.Change, vi a0.Lasts]]), some (.row 2 [.agg [vt a1.a0, vt a1.a1]]), some (.row 1 [vi a2]), some (.mp (mpE vi (eM eArr2_Str vi) y8.2.2)), some (.row 7 [.agg [eS 1 vt a0.Places, eS 1 vt a0.Technicians, eS 4 eRoad a0.Roads, eS 3 eGrand a0.Grands, vi a0.Change, vi a0.Lasts, .map 3]]), some (.row 1 [.ptr 4 0 0]), some (.row 1 [vt a1.a0]), some (.row 1 [vi y8.1]), some (.row 1 [vt a1.a0])] ?_
  refine q4 ?_
  refine TriE.sees (S' := ⟨[(3, .ptr 0 0 0), (4, .ptr 1 0 0), (5, .ptr 2 0 0), (9, .ptr 5 0 0), (11, vi y8.1), (14, .ptr 7 0 0), (13, .own 6 0 ([a1.a0] : List Str).length), (15, .ptr 8 0 0)], [some (.row 6 [.agg [eS 1 vt a0.Places, eS 1 vt a0.Technicians, eS 4 eRoad a0.Roads, eS 3 eGrand a0.Grands, vi a0.Change, vi a0.Lasts]]), some (.row 2 [.agg [vt a1.a0, vt a1.a1]]), some (.row 1 [vi a2]), some (.mp (mpE vi (eM eArr2_Str vi) y8.2.2)), some (.row 7 [.agg [eS 1 vt a0.Places, eS 1 vt a0.Technicians, eS 4 eRoad a0.Roads, eS 3 eGrand a0.Grands, vi a0.Change, vi a0.Lasts, .map 3]]), some (.row 1 [.ptr 4 0 0]), some (.row 1 (List.map vt ([a1.a0] : List Str))), some (.row 1 [vi y8.1]), some (.row 1 [vt a1.a0])]⟩) sy ?_
  refine TriE.loopN h (fun (t : Str × Int × (List Str) × (List (Int × List (Arr2_Str × Int)))) => match t with | (v11, v12, v13, v14) => St.mk [(3, .ptr 0 0 0), (4, .ptr 1 0 0), (5, .ptr 2 0 0), (9, .ptr 5 0 0), (11, vi y8.1), (14, .ptr 7 0 0), (13, .own 6 0 v13.length), (15, .ptr 8 0 0)] [some (.row 6 [.agg [eS 1 vt a0.Places, eS 1 vt a0.Technicians, eS 4 eRoad a0.Roads, eS 3 eGrand a0.Grands, vi a0.Change, vi a0.Lasts]]), some (.row 2 [.agg [vt a1.a0, vt a1.a1]]), some (.row 1 [vi a2]), some (.mp (mpE vi (eM eArr2_Str vi) v14)), some (.row 7 [.agg [eS 1 vt a0.Places, eS 1 vt a0.Technicians, eS 4 eRoad a0.Roads, eS 3 eGrand a0.Grands, vi a0.Change, vi a0.Lasts, .map 3]]), some (.row 1 [.ptr 4 0 0]), some (.row 1 (List.map vt v13)), some (.row 1 [vi v12]), some (.row 1 [vt v11])]) rfl ?_
  clear h
  rintro back ⟨v11, v12, v13, v14⟩ h
  dsimp only [diary_Route_L1] at h
  refine q1 ?_
  refine sk (.k4 (.k4 (.i 67 (vb (!(v11 == a1.a1))) .n))) ?_
  refine tc h (fun c6 h => ?_) (fun c6 h => ?_)
  ·refine q2 ?_
   refine q7 ?_
   refine sj ?_
   refine rk 3 (.k4 (.k4 (.i 69 (eS 1 vt a0.Places) (.i 70 (.fn (.func 88) [] [.ptr 5 0 0, .ptr 8 0 0, .ptr 2 0 0, .ptr 1 0 0, .ptr 7 0 0]) .n)))) ?_
   refine bK h fun y15 hy15 h => ?_
   refine jco (vi y15.2) 71 [69, 70] (slices_IndexFunc_string_3_ok n a0.Places a0.Places a0.Technicians a0.Roads a0.Grands a0.Change a0.Lasts v14 v11 a2 a1.a0 a1.a1 v12 y15 hy15) [5, 4, 3, 8, 2, 1, 7] rfl (.cons rfl (.cons rfl (.same (mp_ren vi_frz (eM_frz eArr2_Str vi) _ _) (.cons rfl (.cons rfl (.cons rfl (.cons rfl .nil))))))) (.cons rfl (.cons rfl (.same (mp_ren vi_frz (eM_frz eArr2_Str vi) _ _) (.cons rfl (.cons rfl (.cons rfl (.cons rfl .nil))))))) rfl ?_
   refine jk 1 (.d (.k4 (.k4 (.i 16 (vi y15.2) .n)))) ?_
   refine sj ?_
   refine rk 3 (.k4 (.k4 (.i 73 (eS 1 vt a0.Places) (.i 74 (vi y15.2) .n)))) ?_
   refine cK h fun c7 h => ?_
   refine jo 75 (.iaddr 1 73 74) (ok_iaddr_m (j := y15.2.toNat) rfl rfl (inB_to c7) (inB_lt c7)) ?_
   refine cK h fun c8 h => ?_
   refine jo 76 (.load false 1 75) (ok_load_fm (v := vt (ix a0.Places y15.2.toNat)) rfl c8 rfl) ?_
   refine jk 1 (.d2 (.k4 (.k4 (.i 17 (vt (ix a0.Places y15.2.toNat)) .n)))) ?_
   refine sj ?_
   refine rk 4 (.k4 (.k4 (.k (.i 78 (.ptr 4 0 0) (.i 79 (vt v11) (.i 80 (vt (ix a0.Places y15.2.toNat)) (.i 81 (vi a2) .n))))))) ?_
   refine bK h fun y16 hy16 h => ?_
   refine jco (.tup [vi y16.1, vb y16.2]) 82 [78, 79, 80, 81] (diary_plan_joined_ok n a0.Places a0.Technicians a0.Roads a0.Grands a0.Change a0.Lasts y15.1 v11 (ix a0.Places y15.2.toNat) a2 y16 hy16) [4, 3] rfl (.cons rfl (.same (mp_ren vi_frz (eM_frz eArr2_Str vi) _ _) .nil)) (.cons rfl (.same (mp_ren vi_frz (eM_frz eArr2_Str vi) _ _) .nil)) rfl ?_
   refine jk 5 (.d (.k4 (.k4 (.k (.i 18 (vi y16.1) .n))))) ?_
   refine q1 ?_
   refine ts .a ?_
   refine TriE.draw (by kernel_rfl) ?_
   refine dk 3 (.i 87 (vi y16.1) (.i 86 (vi v12) (.i 85 (vt (ix a0.Places y15.2.toNat)) .a))) ?_
   refine cK h fun c9 h => ?_
   refine dp 88 (.bin .sub false 86 87) (r_sub rfl rfl c9) ?_
   refine dko 2 .a [some (.row 6 [.agg [eS 1 vt a0.Places, eS 1 vt a0.Technicians, eS 4 eRoad a0.Roads, eS 3 eGrand a0.Grands, vi a0.Change, vi a0.Lasts]]), some (.row 2 [.agg [vt a1.a0, vt a1.a1]]), some (.row 1 [vi a2]), some (.mp (mpE vi (eM eArr2_Str vi) y15.1)), some (.row 7 [.agg [eS 1 vt a0.Places, eS 1 vt a0.Technicians, eS 4 eRoad a0.Roads, eS 3 eGrand a0.Grands, vi a0.Change, vi a0.Lasts, .map 3]]), some (.row 1 [.ptr 4 0 0]), some (.row 1 (List.map vt v13)), some (.row 1 [vi (v12 - y16.1)]), some (.row 1 [vt (ix a0.Places y15.2.toNat)]), none, none, none, none, none, none] ?_
   refine dfi (ob' := [some (.row 6 [.agg [eS 1 vt a0.Places, eS 1 vt a0.Technicians, eS 4 eRoad a0.Roads, eS 3 eGrand a0.Grands, vi a0.Change, vi a0.Lasts]]), some (.row 2 [.agg [vt a1.a0, vt a1.a1]]), some (.row 1 [vi a2]), some (.mp (mpE vi (eM eArr2_Str vi) y15.1)), some (.row 7 [.agg [eS 1 vt a0.Places, eS 1 vt a0.Technicians, eS 4 eRoad a0.Roads, eS 3 eGrand a0.Grands, vi a0.Change, vi a0.Lasts, .map 3]]), some (.row 1 [.ptr 4 0 0]), some (.row 1 (List.map vt v13)), some (.row 1 [vi (v12 - y16.1)]), some (.row 1 [vt (ix a0.Places y15.2.toNat)])]) (.d4 (.k4 (.k4 (.k .n)))) [0, 1, 2, 3, 4, 5, 6, 7, 8] (.cons rfl (.cons rfl (.cons rfl (obRen_mp vi_frz (eM_frz eArr2_Str vi) rfl (.cons rfl (.cons rfl (obRen_row vt_frz rfl (.cons rfl (.cons rfl .nil))))))))) ?_
   refine q6 ?_
   refine rko 3 (.k4 (.k2 (.d (.k (.i 89 (.own 6 0 v13.length) (.i 91 (.own 9 0 1) .n)))))) [some (.row 6 [.agg [eS 1 vt a0.Places, eS 1 vt a0.Technicians, eS 4 eRoad a0.Roads, eS 3 eGrand a0.Grands, vi a0.Change, vi a0.Lasts]]), some (.row 2 [.agg [vt a1.a0, vt a1.a1]]), some (.row 1 [vi a2]), some (.mp (mpE vi (eM eArr2_Str vi) y15.1)), some (.row 7 [.agg [eS 1 vt a0.Places, eS 1 vt a0.Technicians, eS 4 eRoad a0.Roads, eS 3 eGrand a0.Grands, vi a0.Change, vi a0.Lasts, .map 3]]), some (.row 1 [.ptr 4 0 0]), some (.row 1 (List.map vt v13)), some (.row 1 [vi (v12 - y16.1)]), some (.row 1 [vt (ix a0.Places y15.2.toNat)]), some (.row 1 [vt (ix a0.Places y15.2.toNat)])] ?_
   refine cK h fun c10 h => ?_
   refine jx 92 (.app 1 16 89 91) _ (ok_app_own (l := v13) (l2 := ([(ix a0.Places y15.2.toNat)] : List Str)) (e := vt) (u := .own 9 0 1) rfl rfl rfl rfl rfl c10) rfl rfl ?_
   refine jk 1 (.d (.k4 (.k3 (.i 13 (.own 10 0 ((v13 ++ ([(ix a0.Places y15.2.toNat)] : List Str)).length)) .n)))) ?_
   refine sk (.k4 (.k2 (.d (.k (.i 93 (vt (ix a0.Places y15.2.toNat)) .n))))) ?_
   refine tko (.k4 (.k3 (.i 15 (.ptr 11 0 0) .n))) [some (.row 6 [.agg [eS 1 vt a0.Places, eS 1 vt a0.Technicians, eS 4 eRoad a0.Roads, eS 3 eGrand a0.Grands, vi a0.Change, vi a0.Lasts]]), some (.row 2 [.agg [vt a1.a0, vt a1.a1]]), some (.row 1 [vi a2]), some (.mp (mpE vi (eM eArr2_Str vi) y15.1)), some (.row 7 [.agg [eS 1 vt a0.Places, eS 1 vt a0.Technicians, eS 4 eRoad a0.Roads, eS 3 eGrand a0.Grands, vi a0.Change, vi a0.Lasts, .map 3]]), some (.row 1 [.ptr 4 0 0]), none, some (.row 1 [vi (v12 - y16.1)]), some (.row 1 [vt (ix a0.Places y15.2.toNat)]), some (.row 1 [vt (ix a0.Places y15.2.toNat)]), some (.row 1 (List.map vt (v13 ++ ([(ix a0.Places y15.2.toNat)] : List Str)))), some (.row 1 [vt (ix a0.Places y15.2.toNat)])] ?_
   exact Vs.intro (sc [0, 1, 2, 3, 4, 5, 10, 7, 11] (by decide) (by kernel_rfl) (.cons rfl (.cons rfl (.cons rfl (obRen_mp vi_frz (eM_frz eArr2_Str vi) rfl (.cons rfl (.cons rfl (obRen_row vt_frz rfl (.cons rfl (.cons rfl .nil))))))))) rfl rfl) ⟨((ix a0.Places y15.2.toNat), v12 - y16.1, (v13 ++ ([(ix a0.Places y15.2.toNat)] : List Str)), y15.1), rfl, h⟩
  refine q5 ?_
  exact Vs.intro (sc [6] (by decide) (by kernel_rfl) (obRen_row vt_frz rfl .nil) rfl rfl) ⟨v13, rfl, h⟩
 intro k1 k2 h
 refine q6 ?_
 refine rk 1 (.k3 (.i 21 (.agg [eS 1 vt a0.Places, eS 1 vt a0.Technicians, eS 4 eRoad a0.Roads, eS 3 eGrand a0.Grands, vi a0.Change, vi a0.Lasts]) .n)) ?_
 refine bK h fun y1 hy1 h => ?_
 rcases y1 with y1 | y1
 ·dsimp only at h
  refine jc 22 [21] (diary_open_ok n a0 (Sum.inl y1) hy1) ?_
  refine jko 6 (.d (.k3 (.i 9 (.ptr 3 0 0) (.i 10 (vi y1) .n)))) [some (.row 6 [.agg [eS 1 vt a0.Places, eS 1 vt a0.Technicians, eS 4 eRoad a0.Roads, eS 3 eGrand a0.Grands, vi a0.Change, vi a0.Lasts]]), some (.row 2 [.agg [vt a1.a0, vt a1.a1]]), some (.row 1 [vi a2]), some (.row 1 [.p (.pointer none)])] ?_
  exact Vs.intro Sees.refl (.inl ⟨y1, rfl, h⟩)
 dsimp only at h
 refine jco (.tup [.ptr 4 0 0, vi 0]) 22 [21] (diary_open_ok n a0 (Sum.inr y1) hy1) [] rfl ObsRen.nil (.same (mp_ren vi_frz (eM_frz eArr2_Str vi) _ _) (.cons rfl .nil)) rfl ?_
 refine jko 6 (.d (.k3 (.i 9 (.ptr 5 0 0) (.i 10 (vi 0) .n)))) [some (.row 6 [.agg [eS 1 vt a0.Places, eS 1 vt a0.Technicians, eS 4 eRoad a0.Roads, eS 3 eGrand a0.Grands, vi a0.Change, vi a0.Lasts]]), some (.row 2 [.agg [vt a1.a0, vt a1.a1]]), some (.row 1 [vi a2]), some (.mp (mpE vi (eM eArr2_Str vi) ([] : List (Int × List (Arr2_Str × Int))))), some (.row 7 [.agg [eS 1 vt a0.Places, eS 1 vt a0.Technicians, eS 4 eRoad a0.Roads, eS 3 eGrand a0.Grands, vi a0.Change, vi a0.Lasts, .map 3]]), some (.row 1 [.ptr 4 0 0])] ?_
 exact Vs.intro Sees.refl (.inr ⟨(), rfl, h⟩)
end Go.Proofs.Ytpmkdgnhllhaeaa.As
