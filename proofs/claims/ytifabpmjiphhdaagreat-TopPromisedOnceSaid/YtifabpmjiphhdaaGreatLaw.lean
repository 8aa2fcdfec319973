/- The law TopPromisedOnce returns true for every input, and each argument reads behind the call as it read before: no condition. -/
import Derived.Test.YtifabpmjiphhdaaGreatWalk2
import Derived.Test.YtifabpmjiphhdaaGreatRows
namespace Go.Proofs.YtifabpmjiphhdaaGreat.As
open Go Go.Proofs Go.Proofs.YtifabpmjiphhdaaGreat Go.ChangeShapes Go.WideShapes Go.ChangeAt Go.RowKit
def wPartCount (x : PartCount) : Prop:=(fun s : Str=>s.length ≤ 9223372036854775807) x.Part ∧ (fun n : Int=>IntKind.i64.min ≤ n ∧ n ≤ IntKind.i64.max) x.Count
theorem dec_PartCount : Dec Tryz.prog 53 ePartCount wPartCount:=by
  intro H enc W base spare held fuel cs r h
  obtain ⟨xs,n,rfl,rfl,hl,hx,hf⟩:=DataW.trod_struct Tryz.underlying53 h
  have hx : xs.length = 2:=hx
  have hl : cs.length = 2:=hl.trans (by kernel_rfl)
  obtain ⟨a0,w0,c0⟩:=dec_fk (dec_str Tryz.underlying9) 0 1 (by kernel_rfl) (hf 0 _ rfl) (by rw [hx]; decide)
  obtain ⟨a1,w1,c1⟩:=dec_fk (dec_int Tryz.underlying3) 1 1 (by kernel_rfl) (hf 1 _ rfl) (by rw [hx]; decide)
  refine ⟨⟨a0,a1⟩,⟨w0,w1⟩,?_⟩
  have hc : CellsFrom W cs 0 _:=(cells_cons (off:=0) (k:=1) (off':=1) c0 rfl rfl (cells_cons (off:=1) (k:=1) (off':=2) c1 rfl rfl (cells_nil hl)))
  exact hc
def wTask (x : Task) : Prop:=(fun s : Str=>s.length ≤ 9223372036854775807) x.Name ∧ (fun n : Int=>IntKind.i64.min ≤ n ∧ n ≤ IntKind.i64.max) x.Cents ∧ (fun n : Int=>IntKind.i64.min ≤ n ∧ n ≤ IntKind.i64.max) x.Hours ∧ (fun l : List (Str)=>(∀ x ∈ l,(fun s : Str=>s.length ≤ 9223372036854775807) x) ∧ l.length ≤ 9223372036854775807) x.Needs ∧ (fun l : List (List (Str))=>(∀ x ∈ l,(fun l : List (Str)=>(∀ x ∈ l,(fun s : Str=>s.length ≤ 9223372036854775807) x) ∧ l.length ≤ 9223372036854775807) x) ∧ l.length ≤ 9223372036854775807) x.OneOf ∧ (fun l : List (PartCount)=>(∀ x ∈ l,(wPartCount) x) ∧ l.length ≤ 9223372036854775807) x.Parts
theorem dec_Task : Dec Tryz.prog 118 eTask wTask:=by
  intro H enc W base spare held fuel cs r h
  obtain ⟨xs,n,rfl,rfl,hl,hx,hf⟩:=DataW.trod_struct Tryz.underlying118 h
  have hx : xs.length = 6:=hx
  have hl : cs.length = 6:=hl.trans (by kernel_rfl)
  obtain ⟨a0,w0,c0⟩:=dec_fk (dec_str Tryz.underlying9) 0 1 (by kernel_rfl) (hf 0 _ rfl) (by rw [hx]; decide)
  obtain ⟨a1,w1,c1⟩:=dec_fk (dec_int Tryz.underlying3) 1 1 (by kernel_rfl) (hf 1 _ rfl) (by rw [hx]; decide)
  obtain ⟨a2,w2,c2⟩:=dec_fk (dec_int Tryz.underlying3) 2 1 (by kernel_rfl) (hf 2 _ rfl) (by rw [hx]; decide)
  obtain ⟨a3,w3,c3⟩:=dec_fk (dec_slice (k:=1) Tryz.underlying28 (by kernel_rfl) (by decide) (fun _=>rfl) (dec_str Tryz.underlying9)) 3 1 (by kernel_rfl) (hf 3 _ rfl) (by rw [hx]; decide)
  obtain ⟨a4,w4,c4⟩:=dec_fk (dec_slice (k:=1) Tryz.underlying116 (by kernel_rfl) (by decide) (fun _=>rfl) (dec_slice (k:=1) Tryz.underlying28 (by kernel_rfl) (by decide) (fun _=>rfl) (dec_str Tryz.underlying9))) 4 1 (by kernel_rfl) (hf 4 _ rfl) (by rw [hx]; decide)
  obtain ⟨a5,w5,c5⟩:=dec_fk (dec_slice (k:=2) Tryz.underlying50 (by kernel_rfl) (by decide) (fun _=>rfl) dec_PartCount) 5 1 (by kernel_rfl) (hf 5 _ rfl) (by rw [hx]; decide)
  refine ⟨⟨a0,a1,a2,a3,a4,a5⟩,⟨w0,w1,w2,w3,w4,w5⟩,?_⟩
  have hc : CellsFrom W cs 0 _:=(cells_cons (off:=0) (k:=1) (off':=1) c0 rfl rfl (cells_cons (off:=1) (k:=1) (off':=2) c1 rfl rfl (cells_cons (off:=2) (k:=1) (off':=3) c2 rfl rfl (cells_cons (off:=3) (k:=1) (off':=4) c3 rfl rfl (cells_cons (off:=4) (k:=1) (off':=5) c4 rfl rfl (cells_cons (off:=5) (k:=1) (off':=6) c5 rfl rfl (cells_nil hl)))))))
  exact hc
def wStocked (x : Stocked) : Prop:=(fun s : Str=>s.length ≤ 9223372036854775807) x.Part ∧ (fun n : Int=>IntKind.i64.min ≤ n ∧ n ≤ IntKind.i64.max) x.Cents ∧ (fun n : Int=>IntKind.i64.min ≤ n ∧ n ≤ IntKind.i64.max) x.Count
theorem dec_Stocked : Dec Tryz.prog 73 eStocked wStocked:=by
  intro H enc W base spare held fuel cs r h
  obtain ⟨xs,n,rfl,rfl,hl,hx,hf⟩:=DataW.trod_struct Tryz.underlying73 h
  have hx : xs.length = 3:=hx
  have hl : cs.length = 3:=hl.trans (by kernel_rfl)
  obtain ⟨a0,w0,c0⟩:=dec_fk (dec_str Tryz.underlying9) 0 1 (by kernel_rfl) (hf 0 _ rfl) (by rw [hx]; decide)
  obtain ⟨a1,w1,c1⟩:=dec_fk (dec_int Tryz.underlying3) 1 1 (by kernel_rfl) (hf 1 _ rfl) (by rw [hx]; decide)
  obtain ⟨a2,w2,c2⟩:=dec_fk (dec_int Tryz.underlying3) 2 1 (by kernel_rfl) (hf 2 _ rfl) (by rw [hx]; decide)
  refine ⟨⟨a0,a1,a2⟩,⟨w0,w1,w2⟩,?_⟩
  have hc : CellsFrom W cs 0 _:=(cells_cons (off:=0) (k:=1) (off':=1) c0 rfl rfl (cells_cons (off:=1) (k:=1) (off':=2) c1 rfl rfl (cells_cons (off:=2) (k:=1) (off':=3) c2 rfl rfl (cells_nil hl))))
  exact hc
def wPartPromise (x : PartPromise) : Prop:=(fun s : Str=>s.length ≤ 9223372036854775807) x.Instrument ∧ (fun s : Str=>s.length ≤ 9223372036854775807) x.Part ∧ (fun n : Int=>IntKind.i64.min ≤ n ∧ n ≤ IntKind.i64.max) x.Count
theorem dec_PartPromise : Dec Tryz.prog 63 ePartPromise wPartPromise:=by
  intro H enc W base spare held fuel cs r h
  obtain ⟨xs,n,rfl,rfl,hl,hx,hf⟩:=DataW.trod_struct Tryz.underlying63 h
  have hx : xs.length = 3:=hx
  have hl : cs.length = 3:=hl.trans (by kernel_rfl)
  obtain ⟨a0,w0,c0⟩:=dec_fk (dec_str Tryz.underlying9) 0 1 (by kernel_rfl) (hf 0 _ rfl) (by rw [hx]; decide)
  obtain ⟨a1,w1,c1⟩:=dec_fk (dec_str Tryz.underlying9) 1 1 (by kernel_rfl) (hf 1 _ rfl) (by rw [hx]; decide)
  obtain ⟨a2,w2,c2⟩:=dec_fk (dec_int Tryz.underlying3) 2 1 (by kernel_rfl) (hf 2 _ rfl) (by rw [hx]; decide)
  refine ⟨⟨a0,a1,a2⟩,⟨w0,w1,w2⟩,?_⟩
  have hc : CellsFrom W cs 0 _:=(cells_cons (off:=0) (k:=1) (off':=1) c0 rfl rfl (cells_cons (off:=1) (k:=1) (off':=2) c1 rfl rfl (cells_cons (off:=2) (k:=1) (off':=3) c2 rfl rfl (cells_nil hl))))
  exact hc
def wShop (x : Shop) : Prop:=(fun l : List (Stocked)=>(∀ x ∈ l,(wStocked) x) ∧ l.length ≤ 9223372036854775807) x.Stock ∧ (fun l : List (PartPromise)=>(∀ x ∈ l,(wPartPromise) x) ∧ l.length ≤ 9223372036854775807) x.Promises
theorem dec_Shop : Dec Tryz.prog 129 eShop wShop:=by
  intro H enc W base spare held fuel cs r h
  obtain ⟨xs,n,rfl,rfl,hl,hx,hf⟩:=DataW.trod_struct Tryz.underlying129 h
  have hx : xs.length = 2:=hx
  have hl : cs.length = 2:=hl.trans (by kernel_rfl)
  obtain ⟨a0,w0,c0⟩:=dec_fk (dec_slice (k:=3) Tryz.underlying23 (by kernel_rfl) (by decide) (fun _=>rfl) dec_Stocked) 0 1 (by kernel_rfl) (hf 0 _ rfl) (by rw [hx]; decide)
  obtain ⟨a1,w1,c1⟩:=dec_fk (dec_slice (k:=3) Tryz.underlying49 (by kernel_rfl) (by decide) (fun _=>rfl) dec_PartPromise) 1 1 (by kernel_rfl) (hf 1 _ rfl) (by rw [hx]; decide)
  refine ⟨⟨a0,a1⟩,⟨w0,w1⟩,?_⟩
  have hc : CellsFrom W cs 0 _:=(cells_cons (off:=0) (k:=1) (off':=1) c0 rfl rfl (cells_cons (off:=1) (k:=1) (off':=2) c1 rfl rfl (cells_nil hl)))
  exact hc
theorem fnl (a0 : List (Task)) (a1 : Shop) (a2 : List (Str)) (hl : a2.length ≤ 9223372036854775807) : FnL Tryz.prog 14 [(eS 6 eTask) a0,eShop a1,(eS 1 vt) a2] [] (vb true) [] :=
  agraffetop_TopPromisedOnce_ok _ a0 a1 a2 true (pure_TopPromisedOnce a0 a1 a2 hl )
theorem own : ownKnob Tryz.prog.godebug = Option.none:=by kernel_rfl
theorem laidOut : laidOutB Tryz.prog = true:=by kernel_rfl
theorem reads : ∀ t ∈ Tryz.f14.params.toList,Tryz.prog.readableRec t = true ∧ t < Tryz.prog.types.size:=by
  rw [Tryz.params14]
  intro t ht
  simp only [List.mem_cons,List.not_mem_nil,or_false] at ht
  rcases ht with rfl | rfl | rfl <;> exact ⟨by kernel_rfl,by decide +kernel⟩
set_option maxRecDepth 100000 in
theorem lifted (os : Os) (started : os.Started) (H : Type) (enc : TypeId × Value → H) :
    ReturnsInHanded {} Tryz.checked os 14 .any (Rows.topPromisedOnceSpec.pre6 enc Tryz.prog Tryz.f14 Rows.topPromisedOnceRow.domain false) (Rows.topPromisedOnceSpec.post enc Tryz.prog Tryz.f14 false true false false):=by
  refine returnsInHanded_of_change (C:=Tryz.checked) own started (by kernel_rfl) Tryz.func14
    (ChangeSpec.witness6 (enc:=enc) (C:=Tryz.checked) false ⟨#[],#[.slice none 0 0,.agg #[.slice none 0 0,.slice none 0 0],.slice none 0 0],[]⟩ 8 (by kernel_rfl) (by kernel_rfl) (by kernel_rfl) (by kernel_rfl)) ?_
  intro W base args ds gs before hval0 hW hcnd _
  have hW':=hW
  obtain ⟨p,q,hA0,hV,rfl,hfz,hnd⟩:=hW
  have hA : DataW.TrodAll enc Tryz.prog W 0 (fun _=>true) true Tryz.f14.params.toList args.toList ds p:=hA0
  have hA1:=hA
  have hval : ∀ (j : Nat) t v,Tryz.f14.params[j]? = some t → args[j]? = some v → Value.okWide Tryz.prog W .any base t v:=hval0
  rw [Tryz.params14] at hval
  rw [Tryz.params14] at hA1
  obtain ⟨v0,v1,v2,d0,d1,d2,p0,p1,p2,rfl,rfl,rfl,r0,r1,r2⟩:=trodAll_three hA1
  obtain ⟨rfl,rfl⟩:=trodVars_none hV
  have hlt : ∀ x ∈ p0 ++ p1 ++ p2,x.block < W.heap.size:=fun x hx=>hW'.lt x (by simpa using hx)
  obtain ⟨a0,w0,e0⟩:=dec_slice_arg (k:=6) Tryz.underlying22 (by kernel_rfl) (by decide) (fun _=>rfl) dec_Task (hval 0 22 v0 rfl rfl) r0
  obtain ⟨a1,w1,e1⟩:=dec_struct_arg Tryz.underlying129 dec_Shop (fun _=>rfl) (hval 1 129 v1 rfl rfl) r1
  obtain ⟨a2,w2,e2⟩:=dec_slice_arg (k:=1) Tryz.underlying28 (by kernel_rfl) (by decide) (fun _=>rfl) (dec_str Tryz.underlying9) (hval 2 28 v2 rfl rfl) r2
  simp only [List.append_nil] at hW'
  refine ((fnl a0 a1 a2 w2.2).law (W:=W) (args:=#[v0,v1,v2]) rfl (fun j hj=>?_)).mono fun e W' ⟨he,hb⟩=>?_
  · match j,hj with
    | 0,_=>exact e0
    | 1,_=>exact e1
    | 2,_=>exact e2
  · subst he
    exact ⟨_,rfl,post_law (pa:=p0 ++ p1 ++ p2) (pv:=[]) hW' (fun _ _ _=>trodAll_mk1 (shut_bool Tryz.underlying4 true)) (fun sp hsp=>trodAll_stays laidOut hb reads hA hlt (fun p hp=>hsp p (by simpa using hp))) (fun _ _=>rfl) (by simp) hb (ok_one (by kernel_rfl) rfl (okWide_bool_mk Tryz.underlying4 _))⟩
theorem over : Rows.TopPromisedOnceSaid :=
  OpenClaim.holds_of_wide 14 Tryz.f14 rfl rfl rfl rfl rfl rfl rfl ⟨rfl,rfl,rfl,rfl,rfl⟩ rfl rfl rfl rfl rfl (by kernel_rfl) Tryz.func14 (by kernel_rfl)
    (of_decide_eq_true (by kernel_rfl)) (by unfold Func.isWrapper; first | (rw [if_pos (by decide +kernel)]; kernel_rfl) | (rw [if_neg (by decide +kernel)]; exact ⟨rfl,rfl⟩))
    (fun os started H enc _=>lifted os started H enc)
end Go.Proofs.YtifabpmjiphhdaaGreat.As
