/- Rules for the program's operations over plain values, part 3: no condition. -/
import Derived.Test.YtpmkdgnhllhaeaaGround2
namespace Go.Proofs.Ytpmkdgnhllhaeaa.As
open Go
section
open Go Go.Sort Go.Proofs
theorem Rep.wider {w w' : World} {F : Nat → Prop} {β : Beta} {σ : Sig} {Av : Nat → Prop} (hr : Rep w F β σ Av) (h1 : w'.os = w.os) (h2 : w'.tape = w.tape) (h3 : w'.output = w.output) (h4 : w.heap.size ≤ w'.heap.size) (h5 : ∀ b, b < w.heap.size → w'.heap[b]? = w.heap[b]?) :
    Rep w' F β σ Av ∧ Evolve w F β σ w' F β σ := by
  refine ⟨⟨fun b hb => Nat.lt_of_lt_of_le (hr.falloc b hb) h4, hr.dom, fun n o h => ?_, hr.sep⟩, ⟨h1, h2, h3, h4, fun _ _ h => h, fun _ h => h, fun b hb _ => h5 b hb, fun _ _ h => .inl h, fun _ _ h => h⟩⟩
  obtain ⟨l, g1, g2, g3⟩ := hr.obj n o h
  exact ⟨l, g1, ORep.mono (fun _ h => h) (fun b hb => h5 b (hr.falloc b hb)) (fun _ _ h => h) (fun b hb => h5 b (g3 b hb).2) g2, fun b hb => ⟨(g3 b hb).1, Nat.lt_of_lt_of_le (g3 b hb).2 h4⟩⟩
end
end Go.Proofs.Ytpmkdgnhllhaeaa.As
