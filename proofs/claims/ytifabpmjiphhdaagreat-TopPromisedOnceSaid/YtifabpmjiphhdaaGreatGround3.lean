/- Rules for the program's operations over plain values, part 3: no condition. -/
import Derived.Test.YtifabpmjiphhdaaGreatGround2
namespace Go.Proofs.YtifabpmjiphhdaaGreat.As
open Go
section
open Go Go.ChangeShapes Go.WideShapes Go.ChangeAt Go.RowKit
def Fz (W : World) : Nat → Prop:=fun b=>b < W.heap.size
structure CellsOK (W : World) (cs : List Value) (es : List V) : Prop where
  len : cs.length = es.length
  one : ∀ c ∈ es,As.one c = true
  rep : ∀ j,j < cs.length → FRep W (Fz W) (cs.getD j Go.undef) (nth es j)
def Dec (P : Program) (t : TypeId) {α : Type} (e : α → V) (wf : α → Prop) : Prop :=
  ∀ {H : Type} (enc : TypeId × Value → H) (W : World) (base : Nat) (spare : Nat → Bool) (held : Bool) (fuel : Nat) (cs : List Value) (r : DataW H × List MemPlace),DataW.trod enc P W base spare held fuel t cs = some r →
    ∃ x : α,wf x ∧ CellsOK W cs (e x).flat
theorem CellsOK.single {W : World} {v : Value} {x : V} (h : FRep W (Fz W) v x) (h1 : As.one x = true) : CellsOK W [v] [x]:=by
  refine ⟨rfl,by simpa using h1,fun j hj=>?_⟩
  have : j = 0:=by simp at hj; exact hj
  subst this; exact h
theorem dec_int {P : Program} {t : TypeId} {k : IntKind} (ht : P.underlying t = some (.int k)) : Dec P t (vk k) (fun n=>k.min ≤ n ∧ n ≤ k.max):=by
  intro H enc W base spare held fuel cs r h
  obtain ⟨n,rfl,_,hw⟩:=DataW.trod_int ht h
  exact ⟨n,by simpa [Lit.wf] using hw,.single (.p rfl) rfl⟩
theorem dec_str {P : Program} {t : TypeId} (ht : P.underlying t = some .string) : Dec P t vt (fun s=>s.length ≤ 9223372036854775807):=by
  intro H enc W base spare held fuel cs r h
  obtain ⟨s,rfl,_,hw⟩:=DataW.trod_string ht h
  obtain ⟨⟨l⟩⟩:=s
  exact ⟨l,by simpa [maxLen,ByteArray.size] using hw,.single (.p rfl) rfl⟩
theorem cells?_at {W : World} {base : Nat} {a : Addr} {n : Nat} {cs : List Value} (h : W.cells? base a n = some cs) : cs.length = n ∧ ∀ j,j < n → W.cell? (a.add j) = some (cs.getD j Go.undef):=by
  unfold World.cells? at h
  split at h
  · have hl:=mapM_some_length h
    refine ⟨by simpa using hl,fun j hj=>?_⟩
    have:=mapM_some_get h j j (by simp [hj])
    rw [this]
    have hj' : j < cs.length:=by rw [hl]; simpa using hj
    simp [List.getD,hj']
  · cases h
theorem spot_none {W : World} {a : Addr} {v : Value} (h : W.cell? a = some v) : a.spot = none:=by
  unfold World.cell? at h
  split at h
  · split at h
    · cases h
    · rename_i hs; simpa using hs
  · cases h
theorem block_lt {W : World} {a : Addr} {v : Value} (h : W.cell? a = some v) : a.block < W.heap.size:=by
  unfold World.cell? at h
  split at h
  · rename_i e; exact (Array.getElem?_eq_some_iff.1 e).1
  · cases h
theorem dec_slice {P : Program} {t el : TypeId} {k : Nat} {α : Type} {e : α → V} {wf : α → Prop} (ht : P.underlying t = some (.slice el)) (hk : P.cellsOf el = k) (hk0 : 0 < k) (hf : ∀ x,(e x).flat.length = k) (hd : Dec P el e wf) :
    Dec P t (eS k e) (fun l=>(∀ x ∈ l,wf x) ∧ l.length ≤ 9223372036854775807):=by
  intro H enc W base spare held fuel cs r h
  rcases DataW.trod_slice ht h with ⟨rfl,_⟩ | ⟨a,len,cap,elems,rest,n,rfl,rfl,rfl,h1,h2,h3,h4,h5,_⟩
  · exact ⟨[],⟨by simp,by simp⟩,.single .sl0 rfl⟩
  · have each : ∀ i,i < len → ∃ cs,W.cells? base (a.add (i * k)) k = some cs ∧ ∃ x : α,wf x ∧ CellsOK W cs (e x).flat:=by
      intro i hi
      have:=h5 i hi
      rw [hk] at this
      have hs : elems[i]? = some elems[i]:=List.getElem?_eq_getElem (by omega)
      rw [hs,Option.bind_eq_some_iff] at this
      obtain ⟨cs,c1,c2⟩:=this
      exact ⟨cs,c1,hd enc W base spare held n cs _ c2⟩
    by_cases h0 : len = 0
    · subst h0
      exact ⟨[],⟨by simp,by simp⟩,.single .sl0 rfl⟩
    · have hcell0 : ∃ v,W.cell? a = some v:=by
        obtain ⟨cs,c1,_⟩:=each 0 (by omega)
        have:=(cells?_at c1).2 0 hk0
        simp [Addr.add] at this
        exact ⟨_,this⟩
      obtain ⟨v0,hv0⟩:=hcell0
      have hspot:=spot_none hv0
      have hblock:=block_lt hv0
      have hx : ∃ f : Nat → α,∃ us : Nat → Nat → Value,∀ i,i < len → wf (f i) ∧ (∀ c ∈ (e (f i)).flat,As.one c = true) ∧ ∀ j,j < k → W.cell? ⟨a.block,a.off + i * k + j,none⟩ = some (us i j) ∧ FRep W (Fz W) (us i j) (nth (e (f i)).flat j):=by
        classical
        have hne : ∀ i,i < len → ∃ p : α × List Value,wf p.1 ∧ (∀ c ∈ (e p.1).flat,As.one c = true) ∧ ∀ j,j < k → W.cell? ⟨a.block,a.off + i * k + j,none⟩ = some (p.2.getD j Go.undef) ∧ FRep W (Fz W) (p.2.getD j Go.undef) (nth (e p.1).flat j):=by
          intro i hi
          obtain ⟨cs,c1,x,c2,c3⟩:=each i hi
          refine ⟨(x,cs),c2,c3.one,fun j hj=>⟨?_,c3.rep j (by rw [(cells?_at c1).1]; exact hj)⟩⟩
          have:=(cells?_at c1).2 j hj
          rw [← this]
          congr 1
          obtain ⟨ab,ao,asp⟩:=a
          simp only at hspot
          subst hspot
          unfold Addr.add
          by_cases e1 : i * k = 0 <;> by_cases e2 : j = 0 <;> simp [e1,e2]
        obtain ⟨d,_⟩:=hne 0 (by omega)
        let g : Nat → α × List Value:=fun i=>if hi : i < len then Classical.choose (hne i hi) else d
        refine ⟨fun i=>(g i).1,fun i j=>(g i).2.getD j Go.undef,fun i hi=>?_⟩
        simp only [g,dif_pos hi]
        exact Classical.choose_spec (hne i hi)
      obtain ⟨f,us,hfu⟩:=hx
      have hnth : ∀ i,i < len → nth ((List.range len).map fun i=>e (f i)) i = e (f i):=by
        intro i hi
        simp [nth,List.getD,hi]
      refine ⟨(List.range len).map f,⟨by
        intro x hx
        simp only [List.mem_map,List.mem_range] at hx
        obtain ⟨i,hi,rfl⟩:=hx
        exact (hfu i hi).1,by simp [maxLen] at h3 ⊢; omega⟩,.single ?_ rfl⟩
      obtain ⟨ab,ao,asp⟩:=a
      simp only at hspot
      subst hspot
      show FRep W (Fz W) _ (.sl k (((List.range len).map f).map e))
      rw [List.map_map]
      have hll : ((List.range len).map (e ∘ f)).length = len:=by simp
      have:=FRep.sl (w:=W) (F:=Fz W) (b:=ab) (off:=ao) (cap:=cap) (k:=k) (es:=(List.range len).map (e ∘ f)) us (by rw [hll]; omega) (by rw [hll]; exact h2) hblock hk0
        (fun i hi=>by
          rw [hll] at hi
          have:=hnth i hi
          simp only [Function.comp_def]
          rw [this]
          exact ⟨hf _,(hfu i hi).2.1⟩)
        (fun i j hi hj=>by rw [hll] at hi; exact ((hfu i hi).2.2 j hj).1)
        (fun i j hi hj=>by
          rw [hll] at hi
          have:=hnth i hi
          simp only [Function.comp_def]
          rw [this]
          exact ((hfu i hi).2.2 j hj).2)
      rw [hll] at this
      exact this
def CellsFrom (W : World) (cs : List Value) (off : Nat) (es : List V) : Prop:=CellsOK W (cs.drop off) es
theorem cells_nil {W : World} {cs : List Value} {off : Nat} (h : cs.length = off) : CellsFrom W cs off []:=by
  have : cs.drop off = []:=by rw [← h]; simp
  unfold CellsFrom
  rw [this]
  exact ⟨rfl,by simp,fun j hj=>by simp at hj⟩
theorem cells_cons {W : World} {cs : List Value} {off k off' : Nat} {es fs : List V} (h : CellsOK W ((cs.drop off).take k) es) (hk : es.length = k) (ho : off + k = off') (g : CellsFrom W cs off' fs) : CellsFrom W cs off (es ++ fs):=by
  subst ho; subst hk
  have e : cs.drop off = (cs.drop off).take es.length ++ cs.drop (off + es.length):=by
    rw [← List.drop_drop]; exact (List.take_append_drop _ _).symm
  unfold CellsFrom at g ⊢
  have hl:=h.len
  rw [e]
  refine ⟨by simp only [List.length_append]; rw [hl,g.len],fun c hc=>?_,fun j hj=>?_⟩
  · rcases List.mem_append.1 hc with h1 | h1
    · exact h.one c h1
    · exact g.one c h1
  · by_cases hlt : j < es.length
    · have e1 : nth (es ++ fs) j = nth es j:=by simp [nth,List.getD,List.getElem?_append_left hlt]
      have e2 : ((cs.drop off).take es.length ++ cs.drop (off + es.length)).getD j Go.undef = ((cs.drop off).take es.length).getD j Go.undef:=by
        simp only [List.getD]; rw [List.getElem?_append_left (by omega)]
      rw [e1,e2]
      exact h.rep j (by omega)
    · have e1 : nth (es ++ fs) j = nth fs (j - es.length):=by simp only [nth,List.getD]; rw [List.getElem?_append_right (by omega)]
      have e2 : ((cs.drop off).take es.length ++ cs.drop (off + es.length)).getD j Go.undef = (cs.drop (off + es.length)).getD (j - es.length) Go.undef:=by
        simp only [List.getD]; rw [List.getElem?_append_right (by omega),hl]
      rw [e1,e2]
      refine g.rep _ ?_
      simp only [List.length_append] at hj
      omega
theorem dec_f {P : Program} {t : TypeId} {α : Type} {e : α → V} {wf : α → Prop} (hd : Dec P t e wf) {H : Type} {enc : TypeId × Value → H} {W : World} {base : Nat} {spare : Nat → Bool} {held : Bool} {fuel i : Nat} {cs : List Value} {xs : List (DataW H × List MemPlace)}
    (h : DataW.trod enc P W base spare held fuel t cs = xs[i]?) (hi : i < xs.length) : ∃ x : α,wf x ∧ CellsOK W cs (e x).flat:=by
  rw [List.getElem?_eq_getElem hi] at h
  exact hd enc W base spare held fuel cs _ h
theorem dec_fk {P : Program} {t : TypeId} {α : Type} {e : α → V} {wf : α → Prop} (hd : Dec P t e wf) (o k : Nat) (hk : P.cellsOf t = k) {H : Type} {enc : TypeId × Value → H} {W : World} {base : Nat} {spare : Nat → Bool} {held : Bool} {fuel i : Nat} {cs : List Value} {xs : List (DataW H × List MemPlace)}
    (h : DataW.trod enc P W base spare held fuel t ((cs.drop o).take (P.cellsOf t)) = xs[i]?) (hi : i < xs.length) : ∃ x : α,wf x ∧ CellsOK W ((cs.drop o).take k) (e x).flat:=by
  subst hk
  exact dec_f hd h hi
theorem dec_arg {P : Program} {t : TypeId} {α : Type} {e : α → V} {wf : α → Prop} (hd : Dec P t e wf) {H : Type} {enc : TypeId × Value → H} {W : World} {base : Nat} {spare : Nat → Bool} {held : Bool} {v : Value} {d : DataW H} {ps : List MemPlace}
    (h : DataW.Trod enc P W base spare held t v d ps) (h1 : ∀ x : α,(e x).flat = [e x]) (hv : v.cells.toList = [v]) : ∃ x : α,wf x ∧ FRep W (Fz W) v (e x):=by
  obtain ⟨fuel,hf⟩:=h
  obtain ⟨x,hx,hc⟩:=hd enc W base spare held fuel _ _ hf
  refine ⟨x,hx,?_⟩
  rw [hv] at hc
  have:=hc.rep 0 (by simp)
  rw [h1] at this
  simpa using this
theorem rep_start (W : World) : Rep W (Fz W) (fun _=>none) (oget []) (fun n=>([] : Objs).length ≤ n):=by
  refine ⟨fun b hb=>hb,fun _ _=>rfl,fun n o h=>by simp [oget] at h,fun n m o o' l l' b h=>by simp [oget] at h⟩
theorem FnL.law {P : Program} {f : FuncId} {xs : List V} (h : FnL P f xs [] (vb true) []) {W : World} {args : Array Value} (hl : args.size = xs.length) (hr : ∀ j,j < xs.length → FRep W (Fz W) (args.getD j Go.undef) (nth xs j)) :
    Calls P f args W fun e w'=>e = .returned (.bool true) ∧ Below W.heap.size W w':=by
  refine (h.run W (Fz W) (fun _=>none) args (rep_start W) ⟨hl,fun j hj=>.fr (hr j hj)⟩).mono ?_
  rintro e w' ⟨v,F',β',rfl,_,hv,he⟩
  have:=hv.p_inv.1
  subst this
  exact ⟨rfl,he.os,he.tape,he.output,he.size,fun k hk=>he.block k hk (by rintro ⟨n,o,l,h1,_⟩; simp [oget] at h1)⟩
theorem trodAll_stays {H : Type} {enc : TypeId × Value → H} {P : Program} (hl : laidOutB P = true) {W W' : World} (hb : Below W.heap.size W W') {sp : Nat → Bool} : ∀ {ts : List TypeId} {vs : List Value} {ds : List (DataW H)} {ps : List MemPlace},
    (∀ t ∈ ts,P.readableRec t = true ∧ t < P.types.size) → DataW.TrodAll enc P W 0 (fun _=>true) true ts vs ds ps → (∀ p ∈ ps,p.block < W.heap.size) → (∀ p ∈ ps,sp p.block = true) → DataW.TrodAll enc P W' 0 sp true ts vs ds ps
  | [],vs,ds,ps,_,h,_,_=>by
    cases vs <;> cases ds <;> simp [DataW.TrodAll] at h ⊢ <;> exact h
  | t :: ts,vs,ds,ps,hr,h,hlt,hsp=>by
    obtain ⟨v,vs',d,ds',p,q,rfl,rfl,rfl,h1,h2⟩:=trodAll_cons h
    refine trodAll_cons_mk ?_ (trodAll_stays hl hb (fun t ht=>hr t (by simp [ht])) h2 (fun x hx=>hlt x (by simp [hx])) (fun x hx=>hsp x (by simp [hx])))
    exact WideElems.Trod_stays hl (hr t (by simp)).1 (hr t (by simp)).2 h1 (fun x hx=>hb.same (hlt x (by simp [hx]))) (fun x hx=>hsp x (by simp [hx]))
theorem post_law {H : Type} {enc : TypeId × Value → H} {P : Program} {f : Func} {s : ChangeSpec} {apart fresh handsOn again : Bool} {W W' : World} {args : Array Value} {v : Value} {ds gs : List (DataW H)} {before pa pv : List MemPlace}
    (hW : DataW.Whole enc P f.params.toList s.vars apart W args.toList ds gs before)
    (hres : ∀ (b : Nat) (sp : Nat → Bool) (hd : Bool),DataW.TrodAll enc P W' b sp hd f.resultTypes.toList (v.resultList f.resultTypes.size) (s.fn H (ds ++ gs)).results [])
    (hargs : ∀ sp : Nat → Bool,(∀ p ∈ before,sp p.block = true) → DataW.TrodAll enc P W' 0 sp true f.params.toList args.toList (s.fn H (ds ++ gs)).args pa)
    (hvars : ∀ sp : Nat → Bool,(∀ p ∈ before,sp p.block = true) → DataW.TrodVars enc P W' sp s.vars (s.fn H (ds ++ gs)).vars pv)
    (hps : before = pa ++ pv) (hb : Below W.heap.size W W')
    (hok : ∀ (j : Nat) (t : TypeId) (r : Value),f.resultTypes[j]? = some t → (v.resultList f.resultTypes.size)[j]? = some r → Value.okWide P W' .any 0 t r) :
    s.post enc P f apart fresh handsOn again W args v W':=by
  have hold : ∀ p ∈ before,(fun b=>decide (b < W.heap.size)) p.block = true:=fun p hp=>by simpa using hW.lt p hp
  refine ⟨ds,gs,before,[],pa,pv,hW,hres _ _ _,hargs _ hold,hvars _ hold,World.keptBut_mono (fun p hp=>⟨hp,?_⟩) (hb.frame (· ∈ before)),fun _=>?_⟩
  · rw [hps,List.mem_append] at hp
    exact Or.inr hp
  · have hlt:=hW.lt
    obtain ⟨_,_,_,_,_,hz,hn⟩:=hW
    refine ⟨hok,_,_,([] ++ pa) ++ pv,⟨[] ++ pa,pv,trodAll_append (hargs _ (fun _ _=>rfl)) (hres _ _ _),hvars _ (fun _ _=>rfl),rfl,?_,?_⟩,?_⟩
    · intro b off hp
      have hp' : (MemPlace.cell b off) ∈ before:=by rw [hps]; simpa using hp
      have:=hz b off hp'
      rw [hb.frozen (p:=⟨b,off,none⟩) (hlt _ hp')]
      exact this
    · intro ha
      have:=hn ha
      rw [hps] at this
      simpa using this
    · intro p hp _
      rw [hps]
      simpa using hp
theorem dec_slice_arg {P : Program} {t el : TypeId} {k : Nat} {α : Type} {e : α → V} {wf : α → Prop} (ht : P.underlying t = some (.slice el)) (hk : P.cellsOf el = k) (hk0 : 0 < k) (hf : ∀ x,(e x).flat.length = k) (hd : Dec P el e wf)
    {r : Reach} {b0 : Nat} {H : Type} {enc : TypeId × Value → H} {W : World} {base : Nat} {spare : Nat → Bool} {held : Bool} {v : Value} {d : DataW H} {ps : List MemPlace}
    (hv : Value.okWide P W r b0 t v) (h : DataW.Trod enc P W base spare held t v d ps) : ∃ x : List α,((∀ y ∈ x,wf y) ∧ x.length ≤ 9223372036854775807) ∧ FRep W (Fz W) v (eS k e x) :=
  dec_arg (dec_slice ht hk hk0 hf hd) h (fun _=>rfl) (by obtain ⟨a,l,c,rfl⟩:=okWide_slice ht hv; rfl)
theorem dec_struct_arg {P : Program} {t : TypeId} {fs : Array Field} {α : Type} {e : α → V} {ec : α → List V} {wf : α → Prop} (ht : P.underlying t = some (.struct fs)) (hd : Dec P t e wf) (he : ∀ x,e x = .agg (ec x))
    {r : Reach} {b0 : Nat} {H : Type} {enc : TypeId × Value → H} {W : World} {base : Nat} {spare : Nat → Bool} {held : Bool} {v : Value} {d : DataW H} {ps : List MemPlace}
    (hv : Value.okWide P W r b0 t v) (h : DataW.Trod enc P W base spare held t v d ps) : ∃ x : α,wf x ∧ FRep W (Fz W) v (e x):=by
  obtain ⟨cs,rfl,_⟩:=okWide_struct ht hv
  obtain ⟨fuel,hf⟩:=h
  obtain ⟨x,hx,hc⟩:=hd enc W base spare held fuel _ _ hf
  refine ⟨x,hx,?_⟩
  rw [he] at hc ⊢
  have hl : cs.size = (ec x).length:=by have:=hc.len; simpa [Value.cells,V.flat] using this
  refine .agg hl fun j hj=>?_
  have:=hc.rep j (by simp [Value.cells]; omega)
  have e1 : (Value.agg cs).cells.toList.getD j Go.undef = cs.getD j Go.undef:=by
    simp [Value.cells,List.getD,Array.getD_eq_getD_getElem?]
  rw [e1] at this
  exact this
end
section
open Go
variable {P : Program} {sz : Nat} {df : List Deferred} {m : Nat}
theorem leftOf_toList (es : Array MapEntry) (seen : Array Nat) : (leftOf es seen).toList = leftL es seen:=by
  unfold leftOf leftL; simp
theorem filter_erase : ∀ (l : List MapEntry) (j : Nat) (e : MapEntry),(l.map (·.born)).Nodup → l[j]? = some e → (l.filter fun x=>!(x.born == e.born)) = l.eraseIdx j
  | [],j,e,_,h=>by simp at h
  | x :: l,0,e,hn,h=>by
    simp only [List.getElem?_cons_zero,Option.some.injEq] at h
    subst h
    simp only [List.map_cons,List.nodup_cons] at hn
    rw [List.filter_cons,if_neg (by simp),List.eraseIdx_cons_zero,List.filter_eq_self]
    intro y hy
    have : y.born ≠ x.born:=fun c=>hn.1 (c ▸ List.mem_map_of_mem hy)
    simp [this]
  | x :: l,j + 1,e,hn,h=>by
    simp only [List.getElem?_cons_succ] at h
    simp only [List.map_cons,List.nodup_cons] at hn
    have he : e ∈ l:=List.mem_of_getElem? h
    have : x.born ≠ e.born:=fun c=>hn.1 (c ▸ List.mem_map_of_mem he)
    rw [List.filter_cons,if_pos (by simp [this]),List.eraseIdx_cons_succ,filter_erase l j e hn.2 h]
theorem leftL_push {es : Array MapEntry} {clock : Nat} (hb : Born es clock) {seen : Array Nat} {j : Nat} {e : MapEntry} (h : (leftL es seen)[j]? = some e) : leftL es (seen.push e.born) = (leftL es seen).eraseIdx j:=by
  have hn : ((leftL es seen).map (·.born)).Nodup:=by
    have : List.Sublist ((leftL es seen).map (·.born)) (es.toList.map (·.born)):=List.Sublist.map _ List.filter_sublist
    exact this.nodup hb.2
  rw [← filter_erase _ j e hn h]
  unfold leftL
  rw [List.filter_filter]
  congr 1
  funext x
  rw [contains_push]
  cases seen.contains x.born <;> cases (x.born == e.born) <;> rfl
theorem FEnts.erase {w : World} {F : Nat → Prop} {es : List MapEntry} {ents : List (V × V)} (h : FEnts w F es ents) (j : Nat) : FEnts w F (es.eraseIdx j) (ents.eraseIdx j):=by
  refine ⟨by rw [List.length_eraseIdx,List.length_eraseIdx,h.1],fun i hi=>?_⟩
  have hlen : i < ents.length:=by
    rw [List.length_eraseIdx] at hi; split at hi <;> omega
  simp only [List.getElem?_eraseIdx]
  by_cases c : i < j
  · simp only [c,if_true]; exact h.2 i hlen
  · simp only [c,if_false]
    have : i + 1 < ents.length:=by
      rw [List.length_eraseIdx] at hi
      split at hi <;> omega
    exact h.2 (i + 1) this
theorem Rep.alloc_it {w : World} {F : Nat → Prop} {β : Beta} {σ : Sig} {Av : Nat → Prop} (hr : Rep w F β σ Av) {nn : Nat} (hnn : Av nn) {b : Nat} {es : Array MapEntry} {clock : Nat} {ents : List (V × V)} (hF : F b) (hb : w.heap[b]? = some (.map es clock)) (hbn : Born es clock)
    (he : FEnts w F es.toList ents) : Rep (w.alloc (.mapIter (some b) clock #[] clock)) F (upd β nn (some (.mp w.heap.size))) (upd σ nn (some (.it none ents))) (fun n=>Av n ∧ n ≠ nn) ∧
    Evolve w F β σ (w.alloc (.mapIter (some b) clock #[] clock)) F (upd β nn (some (.mp w.heap.size))) (upd σ nn (some (.it none ents))):=by
  have hold : ∀ c,c < w.heap.size → (w.alloc (.mapIter (some b) clock #[] clock)).heap[c]? = w.heap[c]? := fun c hc=>heap_alloc_old w _ hc
  refine hr.change nn (.it none ents) (.mp w.heap.size) rfl rfl rfl (by simp) ?_ ?_ ?_ (by simp) ?_ ?_ ?_ ?_ (fun b hb _=>hold b hb)
  · intro n l h
    rw [upd_other]; exact h
    rintro rfl; rw [hr.dom n hnn] at h; cases h
  · intro n hn; rw [upd_other _ _ hn.2]; exact hr.dom n hn.1
  · intro m o hm
    by_cases h : m = nn
    · subst h; simp at hm; exact .inl ⟨rfl,hm.symm⟩
    · rw [upd_other _ _ h] at hm; exact .inr ⟨h,hm⟩
  · refine ⟨b,es,clock,clock,#[],clock,heap_alloc_new w _,hF,(hold b (hr.falloc b hF)).trans hb,⟨hbn,hbn.1,Nat.le_refl _,Nat.le_refl _⟩,?_,fun x hx=>by cases hx⟩
    have e1 : leftL es #[] = es.toList:=by unfold leftL; rw [List.filter_eq_self]; intro x _; simp
    rw [e1]
    refine ⟨he.1,fun i hi=>?_⟩
    obtain ⟨e,x,g1,g2,g3,g4⟩:=he.2 i hi
    exact ⟨e,x,g1,g2,g3.mono (fun _ h=>h) (fun c hc=>hold c (hr.falloc c hc)),g4.mono (fun _ h=>h) (fun c hc=>hold c (hr.falloc c hc))⟩
  · intro c hc
    simp only [Loc.block,Option.some.injEq] at hc
    subst hc
    exact ⟨fun h=>absurd (hr.falloc _ h) (by omega),by simp⟩
  · intro m o l c hm hs hl hc e
    simp only [Loc.block,Option.some.injEq] at e
    rw [upd_other _ _ hm] at hs
    obtain ⟨l',h1,_,h3⟩:=hr.obj m o hs
    rw [hl] at h1; cases h1
    have:=(h3 c hc).2
    omega
  · intro c hc hlt
    simp only [Loc.block,Option.some.injEq] at hc
    omega
theorem Rep.write_it {w w1 : World} {F : Nat → Prop} {β : Beta} {σ : Sig} {Av : Nat → Prop} (hr : Rep w F β σ Av) (hw1 : w1 = w ∨ w1 = w.drew) {n r : Nat} {o0 : AObj} {cur : Option (V × V)} {left : List (V × V)} (hn : σ n = some o0) (hb : β n = some (.mp r)) (o : Obj)
    (ho : ORep (ChangeMaps.setBlock w1 r o) F β (.mp r) (.it cur left)) :
    Rep (ChangeMaps.setBlock w1 r o) F β (upd σ n (some (.it cur left))) Av ∧ Evolve w F β σ (ChangeMaps.setBlock w1 r o) F β (upd σ n (some (.it cur left))):=by
  obtain ⟨l,hl,_,hblk⟩:=hr.obj n _ hn
  rw [hb] at hl; cases hl
  have hFb:=hblk r rfl
  have h1 : w1.heap = w.heap ∧ w1.os = w.os ∧ w1.tape = w.tape ∧ w1.output = w.output:=by rcases hw1 with rfl | rfl <;> exact ⟨rfl,rfl,rfl,rfl⟩
  have hheap : ∀ c,c ≠ r → (ChangeMaps.setBlock w1 r o).heap[c]? = w.heap[c]? := fun c hc=>by
    show (w1.heap.setIfInBounds r o)[c]? = _
    rw [h1.1]
    exact Array.getElem?_setIfInBounds_ne (Ne.symm hc)
  have hsz : (ChangeMaps.setBlock w1 r o).heap.size = w.heap.size:=by
    show (w1.heap.setIfInBounds r o).size = _
    rw [h1.1]; simp
  refine hr.change n (.it cur left) (.mp r) h1.2.1 h1.2.2.1 h1.2.2.2 (by omega) (fun _ _ h=>h) hr.dom ?_ hb ho ?_ ?_ ?_ ?_
  · intro m o hm
    by_cases h : m = n
    · subst h; simp at hm; exact .inl ⟨rfl,hm.symm⟩
    · rw [upd_other _ _ h] at hm; exact .inr ⟨h,hm⟩
  · intro c hc
    simp only [Loc.block,Option.some.injEq] at hc
    subst hc
    exact ⟨hFb.1,by rw [hsz]; exact hFb.2⟩
  · intro m o l c hm hs hl hb' e
    simp only [Loc.block,Option.some.injEq] at e
    subst e
    rw [upd_other _ _ hm] at hs
    exact hm (hr.sep m n o _ l _ _ hs hn hl hb hb' rfl)
  · intro c hc _; exact ⟨n,_,_,hn,hb,hc⟩
  · intro c _ hc; exact hheap c (fun e=>hc (by simp [Loc.block,e]))
theorem oget_push (ob : Objs) (o : AObj) : oget (ob ++ [some o]) = upd (oget ob) ob.length (some o):=by
  funext m
  rw [oget_append]
  rfl
theorem oget_set_upd {ob : Objs} {n : Nat} (o : AObj) (h : n < ob.length) : oget (ob.set n (some o)) = upd (oget ob) n (some o):=by
  funext m
  rw [oget_set _ _ _ _ h]
  rfl
theorem FEnts.of_zip {w : World} {F : Nat → Prop} {v : Value} {ks vs : List V} (h : FRep w F v (.fmap ks vs)) : ∃ b es clock,v = .map (some b) ∧ F b ∧ w.heap[b]? = some (.map es clock) ∧ Born es clock ∧ FEnts w F es.toList (ks.zip vs):=by
  cases h with
  | fmap us ws hF hb hl hl2 hc hk hvv =>
    refine ⟨_,_,_,rfl,hF,hb,hl.2,by simp [hl.1,hl2],fun i hi=>?_⟩
    simp only [List.length_zip,hl2,Nat.min_self] at hi
    obtain ⟨e,e1,e2,e3⟩:=hc i hi
    refine ⟨e,(nth ks i,nth vs i),by simpa using e1,?_,by rw [e2]; exact hk i hi,by rw [e3]; exact hvv i hi⟩
    rw [List.getElem?_zip_eq_some]
    constructor
    · simp [nth,List.getD,hi]
    · have : i < vs.length:=by omega
      simp [nth,List.getD,this]
theorem VRep.itp_inv {w : World} {F : Nat → Prop} {β : Beta} {v : Value} {n : Nat} (h : VRep w F β v (.itp n)) : ∃ b,v = .pointer (some ⟨b,0,none⟩) ∧ β n = some (.mp b):=by
  cases h with
  | fr h=>cases h
  | itp h=>exact ⟨_,rfl,h⟩
def rawRng (P : Program) (sz : Nat) (ops : Array Oper) (i : Nat) : Option (Option Nat × X):=match ops[i]? with
  | none=>none
  | some o=>match o.op,o.guard,dstOK sz o.dst with
    | .range t x,none,true=>match P.underlying t with
      | some (.map _ _)=>some (o.dst,toX x)
      | _=>none
    | _,_,_=>none
def rawNxt (sz : Nat) (ops : Array Oper) (i : Nat) : Option (Option Nat × X):=match ops[i]? with
  | none=>none
  | some o=>match o.op,o.guard,dstOK sz o.dst with
    | .next x false,none,true=>some (o.dst,toX x)
    | _,_,_=>none
def rawEnt (sz : Nat) (ops : Array Oper) (i : Nat) : Option (Option Nat × X):=match ops[i]? with
  | none=>none
  | some o=>match o.op,o.guard,dstOK sz o.dst with
    | .entry x,none,true=>some (o.dst,toX x)
    | _,_,_=>none
theorem RegJ.step {ops : Array Oper} {i : Nat} {o : Oper} {S : St} {K : St → Prop} {ob' : Objs} {v : V} (ho : ops[i]? = some o) (hgd : o.guard = none) (hd : ∀ d,o.dst = some d → d < sz) (hl : S.ob.length ≤ ob'.length)
    (h : RegJ P sz df m ops (i + 1) ⟨fputc S.fr o.dst v,ob'⟩ K) {b : Base} (hb : ∀ n,m ≤ n → b.β n = none) {w w' : World} {F F' : Nat → Prop} {β β' : Beta} {a : Act} {R : Exit → Act → World → Prop} (hc : Cur m sz df b S w F β a)
    (hR : ∀ S' F' β' a' w',K S' → Cur m sz df b S' w' F' β' a' → R .normal a' w') {u : Value} (hrun : (execOp a.eval o).run P w = .ok (.value u) w') (hr' : Rep w' F' β' (oget ob') (fun n=>ob'.length ≤ n)) (hv : VRep w' F' β' u v)
    (he' : Evolve w F β (oget S.ob) w' F' β' (oget ob')) : wpOps P ops R (List.range' i (ops.size - i)) a w:=by
  have hi : i < ops.size:=(Array.getElem?_eq_some_iff.1 ho).1
  have e : ops.size - i = (ops.size - (i + 1)) + 1:=by omega
  rw [e,List.range'_succ,wpOps_cons]
  have hw:=wanted_of (ops:=ops) (w:=w) (F:=F) (β:=β) (a:=a) (fr:=fget S.fr) (o:=o) (fun t _=>hc.fr.2.2 t) (show guardV ops (fget S.fr) o.guard = some true by rw [hgd]; rfl)
  unfold wpOp
  simp only [ho,hw,if_true]
  left
  unfold Oper.wp
  rw [hrun]
  refine h b hb w' F' β' _ R ⟨Nat.le_trans hc.le hl,⟨?_,?_,fun t=>?_⟩,hr',hc.ev.trans he'⟩ hR
  · cases hod : o.dst <;> simp [Act.put,hc.fr.1]
  · cases hod : o.dst <;> simp [Act.put,hc.fr.2.1]
  · show VRep w' F' β' _ (fget (fputc S.fr o.dst v) t)
    rw [fget_fputc]
    by_cases hdt : o.dst = some t
    · rw [putF_eq hdt]
      have hlt : t < a.tmps.size:=by rw [hc.fr.1]; exact hd t hdt
      have : (a.put o.dst u).tmps.getD t Go.undef = u:=by simp [Act.put,hdt,Array.getD_eq_getD_getElem?,hlt]
      rw [this]; exact hv
    · rw [putF_ne hdt]
      have : (a.put o.dst u).tmps.getD t Go.undef = a.tmps.getD t Go.undef:=by
        cases hod : o.dst with
        | none=>rfl
        | some q =>
          have : q ≠ t:=by rintro rfl; exact hdt hod
          simp [Act.put,Array.getD_eq_getD_getElem?,Array.getElem?_setIfInBounds_ne this]
      rw [this]
      exact he'.vrep hc.rep (hc.fr.2.2 t)
section
variable {ops : Array Oper} {i : Nat} {S : St} {K : St → Prop} {d : Option Nat} {x : X} {n : Nat} {ks vs : List V} {cur : Option (V × V)} {left : List (V × V)}
theorem RegJ.rng (hr : rawRng P sz ops i = some (d,x)) (hx : xcond S.fr x = true) (hv : tau (fget S.fr) x = .fmap ks vs)
    (k : RegJ P sz df m ops (i + 1) ⟨fputc S.fr d (.itp S.ob.length),S.ob ++ [some (.it none (ks.zip vs))]⟩ K) : RegJ P sz df m ops i S K:=by
  unfold rawRng at hr
  split at hr
  · cases hr
  · rename_i o ho
    split at hr
    · rename_i t x' hop hgd hd
      split at hr
      · rename_i kt el hu
        simp only [Option.some.injEq,Prod.mk.injEq] at hr
        obtain ⟨rfl,rfl⟩:=hr
        refine RegJ.oprun0 ho (dstOK_lt hd) ?_ (by simp) k
        intro w F β a Q Kk o' ho' hfr hrep hK
        rw [ho] at ho'; cases ho'
        have hw:=wanted_of (fr:=fget S.fr) hfr (show guardV ops (fget S.fr) o.guard = some true by rw [hgd]; rfl)
        have hxv : VRep w F β (a.eval x') (.fmap ks vs):=by
          have:=vrep_operand (w:=w) (F:=F) (β:=β) (a:=a) (fr:=fget S.fr) (x:=x') (fun t e=>hfr t (by
            subst e
            exact List.mem_append_left _ (List.mem_filterMap.2 ⟨.tmp t,by simp [hop,Op.operands],rfl⟩))) (by rw [← xcond_opnd]; exact hx)
          rw [hv] at this; exact this
        obtain ⟨b,es,clock,ev,hF,hb,hbn,he⟩:=FEnts.of_zip hxv.fmap_inv
        obtain ⟨r1,r2⟩:=hrep.alloc_it (nn:=S.ob.length) (Nat.le_refl _) hF hb hbn he
        unfold wpOp
        simp only [ho,hw,if_true]
        left
        have hrun : (execOp a.eval o).run P w = .ok (.value (.pointer (some ⟨w.heap.size,0,none⟩))) (w.alloc (.mapIter (some b) clock #[] clock)):=by
          simp [execOp,hop,ev,run_range_map w t kt el b es clock hu hb,Result.andThen]
        unfold Oper.wp
        rw [hrun]
        rw [← oget_push] at r1 r2
        exact hK _ _ F _ (r1.av_mono (by intro q hq; simp at hq; omega)) (.itp (upd_same _ _ _)) r2
      · cases hr
    · cases hr
theorem RegJ.ent {p q : V} (hr : rawEnt sz ops i = some (d,x)) (hx : xcond S.fr x = true) (hv : tau (fget S.fr) x = .itp n) (hn : oget S.ob n = some (.it (some (p,q)) left))
    (k : RegJ P sz df m ops (i + 1) ⟨fputc S.fr d (.tup [p,q]),S.ob⟩ K) : RegJ P sz df m ops i S K:=by
  unfold rawEnt at hr
  split at hr
  · cases hr
  · rename_i o ho
    split at hr
    · rename_i x' hop hgd hd
      simp only [Option.some.injEq,Prod.mk.injEq] at hr
      obtain ⟨rfl,rfl⟩:=hr
      refine RegJ.oprun0 ho (dstOK_lt hd) ?_ (Nat.le_refl _) k
      intro w F β a Q Kk o' ho' hfr hrep hK
      rw [ho] at ho'; cases ho'
      have hw:=wanted_of (fr:=fget S.fr) hfr (show guardV ops (fget S.fr) o.guard = some true by rw [hgd]; rfl)
      have hxv : VRep w F β (a.eval x') (.itp n):=by
        have:=vrep_operand (w:=w) (F:=F) (β:=β) (a:=a) (fr:=fget S.fr) (x:=x') (fun t e=>hfr t (by
          subst e
          exact List.mem_append_left _ (List.mem_filterMap.2 ⟨.tmp t,by simp [hop,Op.operands],rfl⟩))) (by rw [← xcond_opnd]; exact hx)
        rw [hv] at this; exact this
      obtain ⟨r,ev,hb⟩:=hxv.itp_inv
      obtain ⟨l,hl,hobj,_⟩:=hrep.obj n _ hn
      rw [hb] at hl; cases hl
      obtain ⟨b0,es,clock,since,seen,c0,h1,h2,h3,h4,h5,h6⟩:=hobj
      obtain ⟨e,seen',rfl,rfl,g3,g4,g5⟩:=h6 _ rfl
      unfold wpOp
      simp only [ho,hw,if_true]
      left
      have hrun : (execOp a.eval o).run P w = .ok (.value (.tuple #[e.key,e.val])) w:=by
        simp [execOp,hop,ev,run_entry_at w r b0 since seen' es _ e h1 h3 g3 h4.1.2,Result.andThen]
      unfold Oper.wp
      rw [hrun]
      refine hK _ w F β hrep (.tup (by simp) fun j hj=>?_) (Evolve.refl _ _ _ _)
      match j,hj with
      | 0,_=>exact .fr g4
      | 1,_=>exact .fr g5
    · cases hr
theorem RegJ.nxt (hr : rawNxt sz ops i = some (d,x)) (hx : xcond S.fr x = true) (hv : tau (fget S.fr) x = .itp n) (hn : oget S.ob n = some (.it cur left))
    (k0 : left = [] → RegJ P sz df m ops (i + 1) ⟨fputc S.fr d (.tup [vb false]),S.ob⟩ K)
    (k1 : ∀ j e,left[j]? = some e → RegJ P sz df m ops (i + 1) ⟨fputc S.fr d (.tup [vb true,e.1,e.2]),S.ob.set n (some (.it (some e) (left.eraseIdx j)))⟩ K) : RegJ P sz df m ops i S K:=by
  intro bs hbs w F β a R hc hR
  unfold rawNxt at hr
  split at hr
  · cases hr
  · rename_i o ho
    split at hr
    · rename_i x' hop hgd hd
      simp only [Option.some.injEq,Prod.mk.injEq] at hr
      obtain ⟨rfl,rfl⟩:=hr
      have hlt : n < S.ob.length:=oget_some (by simp [hn])
      have hfr : ∀ t,VRep w F β (a.tmps.getD t Go.undef) (fget S.fr t):=hc.fr.2.2
      have hxv : VRep w F β (a.eval x') (.itp n):=by
        have:=vrep_operand (w:=w) (F:=F) (β:=β) (a:=a) (fr:=fget S.fr) (x:=x') (fun t e=>hfr t) (by rw [← xcond_opnd]; exact hx)
        rw [hv] at this; exact this
      obtain ⟨r,ev,hb⟩:=hxv.itp_inv
      obtain ⟨l,hl,hobj,_⟩:=hc.rep.obj n _ hn
      rw [hb] at hl; cases hl
      obtain ⟨b0,es,clock,since,seen,c0,h1,h2,h3,h4,h5,h6⟩:=hobj
      rcases run_next_at (P:=P) w o.type r b0 since c0 seen es clock h1 h3 h4.2.1 h4.2.2.1 with ⟨g1,g2⟩ | ⟨e,g1,w1,g2,g3⟩
      · have hl0 : left = []:=by
          have : (leftL es seen).length = 0:=by rw [← leftOf_toList]; simpa using g1
          rw [h5.1] at this
          exact List.eq_nil_of_length_eq_zero this
        refine RegJ.step ho hgd (dstOK_lt hd) (Nat.le_refl _) (k0 hl0) hbs hc hR (u:=.tuple #[.bool false]) (w':=w) (F':=F) (β':=β) ?_ hc.rep (.tup (by simp) fun j hj=>?_) (Evolve.refl _ _ _ _)
        · simp [execOp,hop,ev,g2,Result.andThen]
        · match j,hj with
          | 0,_=>exact .fr (.p rfl)
      · have hm:=mem_left g1
        rw [leftOf_toList] at g1
        obtain ⟨j,hj⟩:=List.getElem?_of_mem g1
        have hjl : j < left.length:=by rw [← h5.1]; exact (List.getElem?_eq_some_iff.1 hj).1
        obtain ⟨e',p,q1,q2,q3,q4⟩:=h5.2 j hjl
        rw [hj] at q1; cases q1
        have hne : r ≠ b0:=by rintro rfl; rw [h1] at h3; cases h3
        have hw1 : w1.heap = w.heap:=by rcases g2 with rfl | rfl <;> rfl
        have hrr : (ChangeMaps.setBlock w1 r (.mapIter (some b0) since (seen.push e.born) clock)).heap[r]? = some (.mapIter (some b0) since (seen.push e.born) clock):=by
          show (w1.heap.setIfInBounds r _)[r]? = _
          have : r < w1.heap.size:=by rw [hw1]; exact (Array.getElem?_eq_some_iff.1 h1).1
          simp [this]
        have hoth : ∀ c,c ≠ r → (ChangeMaps.setBlock w1 r (.mapIter (some b0) since (seen.push e.born) clock)).heap[c]? = w.heap[c]? := fun c hcr=>by
          show (w1.heap.setIfInBounds r _)[c]? = _
          rw [Array.getElem?_setIfInBounds_ne (Ne.symm hcr),hw1]
        have hnF : ¬ F r:=by
          obtain ⟨l',e1,_,e2⟩:=hc.rep.obj n _ hn
          rw [hb] at e1; cases e1
          exact (e2 r rfl).1
        have hFh : ∀ c,F c → (ChangeMaps.setBlock w1 r (.mapIter (some b0) since (seen.push e.born) clock)).heap[c]? = w.heap[c]? := fun c hcF=>hoth c (by rintro rfl; exact hnF hcF)
        have ho' : ORep (ChangeMaps.setBlock w1 r (.mapIter (some b0) since (seen.push e.born) clock)) F β (.mp r) (.it (some p) (left.eraseIdx j)):=by
          refine ⟨b0,es,clock,since,seen.push e.born,clock,hrr,h2,(hFh _ h2).trans h3,⟨h4.1,h4.2.1,h4.2.2.2,h4.2.2.2⟩,?_,fun x hx=>?_⟩
          · rw [leftL_push h4.1 hj]
            have:=h5.erase j
            refine ⟨this.1,fun i hi=>?_⟩
            obtain ⟨e2,x2,z1,z2,z3,z4⟩:=this.2 i hi
            exact ⟨e2,x2,z1,z2,z3.mono (fun _ h=>h) hFh,z4.mono (fun _ h=>h) hFh⟩
          · cases hx
            exact ⟨e,seen,rfl,rfl,hm.1,q3.mono (fun _ h=>h) hFh,q4.mono (fun _ h=>h) hFh⟩
        obtain ⟨r1,r2⟩:=hc.rep.write_it g2 hn hb _ ho'
        rw [← oget_set_upd _ hlt] at r1 r2
        refine RegJ.step ho hgd (dstOK_lt hd) (by simp) (k1 j p q2) hbs hc hR (u:=.tuple #[.bool true,e.key,e.val]) (F':=F) (β':=β) ?_ (by simpa using r1) (.tup (by simp) fun j' hj'=>?_) r2
        · simp [execOp,hop,ev,g3,Result.andThen]
        · match j',hj' with
          | 0,_=>exact .fr (.p rfl)
          | 1,_=>exact .fr (q3.mono (fun _ h=>h) hFh)
          | 2,_=>exact .fr (q4.mono (fun _ h=>h) hFh)
    · cases hr
end
inductive FrzM (n : Nat) (ks vs : List V) : V → V → Prop
  | refl (x : V) : FrzM n ks vs x x
  | undef (x : V) : FrzM n ks vs x .undef
  | map : FrzM n ks vs (.map n) (.fmap ks vs)
inductive FrFrzM (n : Nat) (ks vs : List V) (fr : Fr) : Fr → Prop
  | nil : FrFrzM n ks vs fr []
  | cons {t : Nat} {v : V} {r : Fr} (h : FrzM n ks vs (fget fr t) v) (kk : FrFrzM n ks vs fr r) : FrFrzM n ks vs fr ((t,v) :: r)
theorem FrFrzM.get {n : Nat} {ks vs : List V} {fr fr' : Fr} (h : FrFrzM n ks vs fr fr') : ∀ t,FrzM n ks vs (fget fr t) (fget fr' t):=by
  induction h with
  | nil=>exact fun t=>.undef _
  | @cons u v r h _ ih =>
    intro t
    rw [fget_cons]
    by_cases e : u = t
    · subst e; rw [if_pos rfl]; exact h
    · rw [if_neg e]; exact ih t
theorem Cur.freezeM {S : St} {n : Nat} {ents : List (V × V)} {fr' : Fr} (hn : oget S.ob n = some (.mp ents)) (hz : ∀ e ∈ ents,e.1.frz = true ∧ e.2.frz = true) (hf : ∀ t,FrzM n (ents.map Prod.fst) (ents.map Prod.snd) (fget S.fr t) (fget fr' t)) {b : Base} {w : World} {F : Nat → Prop} {β : Beta} {a : Act} (h : Cur m sz df b S w F β a) :
    ∃ F',Cur m sz df b ⟨fr',S.ob.set n none⟩ w F' β a:=by
  obtain ⟨l,hl,ho,hb⟩:=h.rep.obj n _ hn
  have hlt : n < S.ob.length:=oget_some (by simp [hn])
  let F' : Nat → Prop:=fun x=>F x ∨ l.block = some x
  have hFF : ∀ x,F x → F' x:=fun x hx=>.inl hx
  have hget : ∀ m o,oget (S.ob.set n none) m = some o → m ≠ n ∧ oget S.ob m = some o:=by
    intro m o hm
    rw [oget_set _ _ _ _ hlt] at hm
    by_cases e : m = n
    · rw [if_pos e] at hm; cases hm
    · rw [if_neg e] at hm; exact ⟨e,hm⟩
  have hown : ∀ x,owned (oget (S.ob.set n none)) β x → owned (oget S.ob) β x:=by
    rintro x ⟨q,o,l',h1,h2,h3⟩
    exact ⟨q,o,l',(hget q o h1).2,h2,h3⟩
  refine ⟨F',by simpa using h.le,⟨h.fr.1,h.fr.2.1,fun t=>?_⟩,⟨?_,fun q hq=>h.rep.dom q (by simpa using hq),fun q o hq=>?_,fun q q' o o' l1 l2 x h1 h2 h3 h4 h5 h6=>?_⟩,?_⟩
  · have hv:=h.fr.2.2 t
    have hf:=hf t
    revert hf
    generalize fget S.fr t = x0 at hv
    generalize fget fr' t = x1
    intro hf
    cases hf with
    | refl=>exact hv.mono hFF (fun _ _=>rfl) (fun _ _ e=>e)
    | undef=>exact .undef
    | map =>
      obtain ⟨b1,ev,hb1⟩:=hv.map_inv
      rw [hb1] at hl; cases hl
      obtain ⟨es,clock,g1,g2,g3⟩:=ho
      rw [ev]
      refine .fr (.fmap (fun i=>(es.getD i default).key) (fun i=>(es.getD i default).val) (.inr rfl) g1 ⟨by simpa using g2.1,g2.2⟩ (by simp) (fun i hi=>?_) (fun i hi=>?_) (fun i hi=>?_))
      · obtain ⟨e,x,k1,k2,k3,k4⟩:=g3 i (by simpa using hi)
        exact ⟨e,k1,by simp [Array.getD_eq_getD_getElem?,k1],by simp [Array.getD_eq_getD_getElem?,k1]⟩
      · obtain ⟨e,x,k1,k2,k3,k4⟩:=g3 i (by simpa using hi)
        have hx : x ∈ ents:=List.mem_of_getElem? k2
        have e1 : nth (ents.map Prod.fst) i = x.1:=by simp [nth,List.getD,k2]
        have e2 : (es.getD i default).key = e.key:=by simp [Array.getD_eq_getD_getElem?,k1]
        rw [e1,e2]
        exact (VRep.toF _ _ (Nat.lt_succ_self _) (hz x hx).1 _ k3).mono hFF (fun _ _=>rfl)
      · obtain ⟨e,x,k1,k2,k3,k4⟩:=g3 i (by simpa using hi)
        have hx : x ∈ ents:=List.mem_of_getElem? k2
        have e1 : nth (ents.map Prod.snd) i = x.2:=by simp [nth,List.getD,k2]
        have e2 : (es.getD i default).val = e.val:=by simp [Array.getD_eq_getD_getElem?,k1]
        rw [e1,e2]
        exact (VRep.toF _ _ (Nat.lt_succ_self _) (hz x hx).2 _ k4).mono hFF (fun _ _=>rfl)
  · rintro x (hx | hx)
    · exact h.rep.falloc x hx
    · exact (hb x hx).2
  · obtain ⟨hne,hq⟩:=hget q o hq
    obtain ⟨l',g1,g2,g3⟩:=h.rep.obj q o hq
    refine ⟨l',g1,g2.mono hFF (fun _ _=>rfl) (fun _ _ e=>e) (fun _ _=>rfl),fun x hx=>⟨?_,(g3 x hx).2⟩⟩
    rintro (k1 | k1)
    · exact (g3 x hx).1 k1
    · exact hne (h.rep.sep q n o _ l' l x hq hn g1 hl hx k1)
  · obtain ⟨_,a1⟩:=hget q o h1
    obtain ⟨_,a2⟩:=hget q' o' h2
    exact h.rep.sep q q' o o' l1 l2 x a1 a2 h3 h4 h5 h6
  · refine ⟨h.ev.os,h.ev.tape,h.ev.output,h.ev.size,h.ev.beta,fun x hx=>hFF x (h.ev.frozen x hx),h.ev.block,fun x hx hF=>?_,fun x hx ho'=>h.ev.ownd x hx (hown x ho')⟩
    rcases hF with k1 | k1
    · exact h.ev.newF x hx k1
    · exact .inr (h.ev.ownd x hx ⟨n,_,l,hn,hl,k1⟩)
theorem Sees.freezeM {S : St} (n : Nat) {ents : List (V × V)} {fr' : Fr} {ob' : Objs} (hn : oget S.ob n = some (.mp ents)) (hz : ∀ e ∈ ents,e.1.frz = true ∧ e.2.frz = true) (hf : ∀ t,FrzM n (ents.map Prod.fst) (ents.map Prod.snd) (fget S.fr t) (fget fr' t)) (ho : S.ob.set n none = ob') : Sees m S ⟨fr',ob'⟩:=by
  subst ho
  intro sz df b _ w F β a hc
  obtain ⟨F',hc'⟩:=hc.freezeM hn hz hf
  exact ⟨F',β,hc'⟩
noncomputable def pickK {α R : Type} (l : List α) (f : Nat → α → Option R) : Option R :=
  @dite (Option R) (∃ r,∀ j x,l[j]? = some x → f j x = some r) (Classical.propDecidable _) (fun h=>some (Classical.choose h)) fun _=>none
theorem pickK_at {α R : Type} {l : List α} {f : Nat → α → Option R} {r : R} (h : pickK l f = some r) {j : Nat} {x : α} (hj : l[j]? = some x) : f j x = some r:=by
  unfold pickK at h
  split at h
  · rename_i hh
    rw [← h]
    exact Classical.choose_spec hh j x hj
  · cases h
theorem pickK_of {α R : Type} {l : List α} {f : Nat → α → Option R} {r : R} (hl : l ≠ []) (h : ∀ j x,l[j]? = some x → f j x = some r) : pickK l f = some r:=by
  have hh : ∃ r,∀ j x,l[j]? = some x → f j x = some r:=⟨r,h⟩
  unfold pickK
  rw [dif_pos hh]
  have h2:=Classical.choose_spec hh
  cases l with
  | nil=>exact absurd rfl hl
  | cons x l =>
    have:=h2 0 x rfl
    rw [h 0 x rfl] at this
    exact this.symm
theorem len0 {α : Type} {l : List α} (h : l = []) : decide (l.length = 0) = true:=by subst h; rfl
theorem lenS {α : Type} {l : List α} {j : Nat} {x : α} (h : l[j]? = some x) : decide (l.length = 0) = false:=by
  cases l with
  | nil=>simp at h
  | cons _ _=>rfl
abbrev itO {α β : Type} (ek : α → V) (ev : β → V) (c : Option (α × β)) (l : List (α × β)) : AObj:=.it (c.map fun p=>(ek p.1,ev p.2)) (mpE ek ev l)
theorem obRen_it {α β : Type} {ek : α → V} {ev : β → V} {ρ : Nat → Nat} {ob : Objs} {r : Nat} {rs : List Nat} {c : Option (α × β)} {l : List (α × β)} {os : Objs} (h : oget ob r = some (itO ek ev c l)) (kk : ObRen ρ ob rs os) : ObRen ρ ob (r :: rs) (some (itO ek ev c l) :: os) :=
  .cons h kk
section
variable {ops : Array Oper} {i : Nat} {S : St} {K : St → Prop} {d : Option Nat} {n t : Nat} {α β : Type} {ek : α → V} {ev : β → V} {c : Option (α × β)} {l : List (α × β)}
theorem RegJ.nxtM (hr : rawNxt sz ops i = some (d,.t t)) (hx : xcond S.fr (.t t) = true) (hv : tau (fget S.fr) (.t t) = .itp n) (hn : oget S.ob n = some (itO ek ev c l))
    (k0 : l = [] → RegJ P sz df m ops (i + 1) ⟨fputc S.fr d (.tup [vb false]),S.ob⟩ K)
    (k1 : ∀ j x,l[j]? = some x → RegJ P sz df m ops (i + 1) ⟨fputc S.fr d (.tup [vb true,ek x.1,ev x.2]),S.ob.set n (some (itO ek ev (some x) (List.eraseIdx l j)))⟩ K) : RegJ P sz df m ops i S K:=by
  refine RegJ.nxt hr hx hv hn (fun h=>k0 ?_) (fun j e hj=>?_)
  · simpa [mpE] using h
  · have : ∃ x,l[j]? = some x ∧ e = (ek x.1,ev x.2):=by
      simp only [mpE,List.getElem?_map] at hj
      cases hx : l[j]? with
      | none=>simp [hx] at hj
      | some x=>simp only [hx,Option.map_some,Option.some.injEq] at hj; exact ⟨x,rfl,hj.symm⟩
    obtain ⟨x,h1,rfl⟩:=this
    have:=k1 j x h1
    have e1 : (mpE ek ev l).eraseIdx j = mpE ek ev (List.eraseIdx l j):=by
      refine List.ext_getElem? fun q=>?_
      simp only [mpE,List.getElem?_eraseIdx,List.getElem?_map]
      by_cases c : q < j <;> simp [c]
    rw [e1]
    exact this
theorem RegJ.entM {x : α × β} (hr : rawEnt sz ops i = some (d,.t t)) (hx : xcond S.fr (.t t) = true) (hv : tau (fget S.fr) (.t t) = .itp n) (hn : oget S.ob n = some (itO ek ev (some x) l))
    (k : RegJ P sz df m ops (i + 1) ⟨fputc S.fr d (.tup [ek x.1,ev x.2]),S.ob⟩ K) : RegJ P sz df m ops i S K :=
  RegJ.ent hr hx hv hn k
theorem RegJ.rngM (hr : rawRng P sz ops i = some (d,.t t)) (hv : fget S.fr t = .map n) (hn : oget S.ob n = some (.mp (mpE ek ev l))) (hk : ∀ x,(ek x).frz = true) (he : ∀ x,(ev x).frz = true)
    (k : RegJ P sz df m ops (i + 1) ⟨fputc ((t,.fmap ((mpE ek ev l).map Prod.fst) ((mpE ek ev l).map Prod.snd)) :: S.fr) d (.itp S.ob.length),S.ob.set n none ++ [some (itO ek ev none l)]⟩ K) : RegJ P sz df m ops i S K:=by
  refine RegJ.sees (S':=⟨(t,.fmap ((mpE ek ev l).map Prod.fst) ((mpE ek ev l).map Prod.snd)) :: S.fr,S.ob.set n none⟩) (Sees.freezeM n hn (fun e h=>?_) (fun u=>?_) rfl) ?_
  · simp only [mpE,List.mem_map] at h
    obtain ⟨p,_,rfl⟩:=h
    exact ⟨hk _,he _⟩
  · show FrzM _ _ _ (fget S.fr u) (fget (_ :: S.fr) u)
    rw [fget_cons]
    by_cases h : t = u
    · subst h; rw [if_pos rfl,hv]; exact .map
    · rw [if_neg h]; exact .refl _
  · refine RegJ.rng (ks:=(mpE ek ev l).map Prod.fst) (vs:=(mpE ek ev l).map Prod.snd) hr ?_ ?_ ?_
    · show xcond ((t,_) :: S.fr) (.t t) = true
      simp [xcond,fget_cons,condOf]
    · show tau (fget ((t,_) :: S.fr)) (.t t) = _
      simp [tau,fget_cons,strip]
    · have e : ((mpE ek ev l).map Prod.fst).zip ((mpE ek ev l).map Prod.snd) = mpE ek ev l:=by
        rw [List.zip_map',List.map_id'']
        intro x; rfl
      rw [e]
      have e2 : (S.ob.set n none).length = S.ob.length:=List.length_set
      show RegJ P sz df m ops (i + 1) ⟨fputc _ d (.itp (S.ob.set n none).length),_⟩ K
      rw [e2]
      exact k
end
end
section
open Go
instance (n : Nat) : OfNat X n:=⟨.t n⟩
abbrev ki (n : Int) : X:=.c (.p (.int .i64 n))
inductive Sel : Fr → Fr → Prop
  | a {l : Fr} : Sel l l
  | n {l : Fr} : Sel l []
  | d {x : Nat × V} {l r : Fr} (h : Sel l r) : Sel (x :: l) r
  | k {x : Nat × V} {l r : Fr} (h : Sel l r) : Sel (x :: l) (x :: r)
  | i {l r : Fr} (t : Nat) (v : V) (h : Sel l r) : Sel l ((t,v) :: r)
section
variable {x y z u : Nat × V} {l r : Fr}
theorem Sel.k2 (h : Sel l r) : Sel (x :: y :: l) (x :: y :: r):=.k (.k h)
theorem Sel.k3 (h : Sel l r) : Sel (x :: y :: z :: l) (x :: y :: z :: r):=.k (.k (.k h))
theorem Sel.k4 (h : Sel l r) : Sel (x :: y :: z :: u :: l) (x :: y :: z :: u :: r):=.k (.k (.k (.k h)))
theorem Sel.d2 (h : Sel l r) : Sel (x :: y :: l) r:=.d (.d h)
theorem Sel.d3 (h : Sel l r) : Sel (x :: y :: z :: l) r:=.d (.d (.d h))
theorem Sel.d4 (h : Sel l r) : Sel (x :: y :: z :: u :: l) r:=.d (.d (.d (.d h)))
end
section
variable {P : Program} {sz : Nat} {df : List Deferred} {m : Nat} {ops : Array Oper} {i id : Nat} {fr fr' : Fr} {ob ob' : Objs} {K : St → Prop} {Q : PostS} {c : Code}
theorem rk (n : Nat) (s : Sel fr fr') (k : RegJ P sz df m ops (i + n) ⟨fr',ob⟩ K) (h : (stepJ P sz ops n i ⟨fr,ob⟩).map (fun S1=>(fr'.map fun e=>fget S1.fr e.1,S1.ob)) = some (fr'.map Prod.snd,ob):=by kernel_rfl) : RegJ P sz df m ops i ⟨fr,ob⟩ K:=RegJ.run n fr' ob h k
theorem rko (n : Nat) (s : Sel fr fr') (ob' : Objs) (k : RegJ P sz df m ops (i + n) ⟨fr',ob'⟩ K) (h : (stepJ P sz ops n i ⟨fr,ob⟩).map (fun S1=>(fr'.map fun e=>fget S1.fr e.1,S1.ob)) = some (fr'.map Prod.snd,ob'):=by kernel_rfl) : RegJ P sz df m ops i ⟨fr,ob⟩ K:=RegJ.run n fr' ob' h k
theorem tk (s : Sel fr fr') (k : Q .normal ⟨fr',ob⟩) (h : (stepJ P sz ops ops.size 0 ⟨fr,ob⟩).map (fun S1=>(fr'.map fun e=>fget S1.fr e.1,S1.ob)) = some (fr'.map Prod.snd,ob):=by kernel_rfl) : TriE P sz df m (.region id ops false) ⟨fr,ob⟩ Q:=TriE.run fr' ob h k
theorem sk (s : Sel fr fr') (k : TriE P sz df m c ⟨fr',ob⟩ Q) (h : (stepJ P sz ops ops.size 0 ⟨fr,ob⟩).map (fun S1=>(fr'.map fun e=>fget S1.fr e.1,S1.ob)) = some (fr'.map Prod.snd,ob):=by kernel_rfl) : TriE P sz df m (.seq (.region id ops false) c) ⟨fr,ob⟩ Q:=TriE.seq (TriE.run fr' ob h k)
theorem sko (s : Sel fr fr') (ob' : Objs) (k : TriE P sz df m c ⟨fr',ob'⟩ Q) (h : (stepJ P sz ops ops.size 0 ⟨fr,ob⟩).map (fun S1=>(fr'.map fun e=>fget S1.fr e.1,S1.ob)) = some (fr'.map Prod.snd,ob'):=by kernel_rfl) : TriE P sz df m (.seq (.region id ops false) c) ⟨fr,ob⟩ Q:=TriE.seq (TriE.run fr' ob' h k)
theorem jf (s : Sel fr fr') (k : K ⟨fr',ob⟩) (h : (fr'.map fun e=>fget fr e.1) = fr'.map Prod.snd:=by kernel_rfl) (hi : Nat.beq ops.size i = true:=by kernel_rfl) : RegJ P sz df m ops i ⟨fr,ob⟩ K:=jd fr' h hi k
theorem jk (n : Nat) (s : Sel fr fr') (k : K ⟨fr',ob⟩) (h : (stepJ P sz ops n i ⟨fr,ob⟩).map (fun S1=>(fr'.map fun e=>fget S1.fr e.1,S1.ob)) = some (fr'.map Prod.snd,ob):=by kernel_rfl) (hi : Nat.beq ops.size (i + n) = true:=by kernel_rfl) : RegJ P sz df m ops i ⟨fr,ob⟩ K:=jrd n fr' ob h hi k
theorem jko (n : Nat) (s : Sel fr fr') (ob' : Objs) (k : K ⟨fr',ob'⟩) (h : (stepJ P sz ops n i ⟨fr,ob⟩).map (fun S1=>(fr'.map fun e=>fget S1.fr e.1,S1.ob)) = some (fr'.map Prod.snd,ob'):=by kernel_rfl) (hi : Nat.beq ops.size (i + n) = true:=by kernel_rfl) : RegJ P sz df m ops i ⟨fr,ob⟩ K:=jrd n fr' ob' h hi k
theorem ts (s : Sel fr fr') (k : TriE P sz df m c ⟨fr',ob⟩ Q) (h : (fr'.map fun e=>fget fr e.1) = fr'.map Prod.snd:=by kernel_rfl) : TriE P sz df m c ⟨fr,ob⟩ Q:=TriE.sees (sl h) k
theorem rs (s : Sel fr fr') (k : RegJ P sz df m ops i ⟨fr',ob⟩ K) (h : (fr'.map fun e=>fget fr e.1) = fr'.map Prod.snd:=by kernel_rfl) : RegJ P sz df m ops i ⟨fr,ob⟩ K:=RegJ.sees (sl h) k
theorem dr {ts : List Nat} {y : V} (s : Sel fr fr') (hr : resT ts fr' = y) (ho : ob = ob') (h : (fr'.map fun e=>fget fr e.1) = fr'.map Prod.snd:=by kernel_rfl) : DoneS m ts y ob' .ret ⟨fr,ob⟩:=DoneS.ret (S':=⟨fr',ob⟩) (sl h) hr ho
theorem dn {ts : List Nat} {y : V} (s : Sel fr fr') (hr : resT ts fr' = y) (ho : ob = ob') (h : (fr'.map fun e=>fget fr e.1) = fr'.map Prod.snd:=by kernel_rfl) : DoneS m ts y ob' .normal ⟨fr,ob⟩:=DoneS.normal (S':=⟨fr',ob⟩) (sl h) hr ho
theorem dk {acc : List (List Nat × List Nat)} (n : Nat) (s : Sel fr fr') (k : RegD P sz df m ops (i + n) ⟨fr',ob ++ List.replicate n none⟩ (accD P sz ops n i ⟨fr,ob⟩ acc) K) (h : (stepD P sz ops n i ⟨fr,ob⟩ acc).map Prod.fst = some ⟨fr',ob ++ List.replicate n none⟩:=by kernel_rfl) : RegD P sz df m ops i ⟨fr,ob⟩ acc K:=RegD.run n fr' _ h k
theorem dko {acc : List (List Nat × List Nat)} (n : Nat) (s : Sel fr fr') (ob' : Objs) (k : RegD P sz df m ops (i + n) ⟨fr',ob'⟩ (accD P sz ops n i ⟨fr,ob⟩ acc) K) (h : (stepD P sz ops n i ⟨fr,ob⟩ acc).map Prod.fst = some ⟨fr',ob'⟩:=by kernel_rfl) : RegD P sz df m ops i ⟨fr,ob⟩ acc K:=RegD.run n fr' _ h k
theorem dfi {acc : List (List Nat × List Nat)} (s : Sel fr fr') (rs : List Nat) (o : ObRen (rho ob.length rs) ob rs ob') (k : K ⟨fr',ob'⟩) (hi : Nat.beq ops.size i = true:=by kernel_rfl) (hd : drawOK ops acc = true:=by kernel_rfl) (hn : rs.Nodup:=by decide) (hf : (fr'.map fun e=>e.2.ren (rho ob.length rs)) = (fr'.map fun e=>fget fr e.1):=by kernel_rfl)
    (le : Nat.ble m ob'.length = true:=by kernel_rfl) (low : ((List.range m).all fun n=>Nat.beq (rs.getD n 0) n) = true:=by kernel_rfl) : RegD P sz df m ops i ⟨fr,ob⟩ acc K:=RegD.done hi hd (sc (S':=⟨fr',ob'⟩) rs hn hf o le low) k
variable {S : St} {v : V} {rd : List Nat} {eff : Eff} {acc : List (List Nat × List Nat)} {g : Bool} {t : Nat} {b : Bool}
theorem jo (d : Nat) (op : IOp) (h : Ok op (tau (fget S.fr)) (oget S.ob) S.ob.length v rd) (k : RegJ P sz df m ops (i + 1) ⟨(d,v) :: S.fr,S.ob⟩ K) (hc : compAt P sz ops i = some (I0 d op):=by kernel_rfl) (hx : op.as.all (xcond S.fr) = true:=by kernel_rfl) : RegJ P sz df m ops i S K :=
  jv v hc h hx k
theorem dp (d : Nat) (op : IOp) (h : Ok op (tau (fget S.fr)) (oget S.ob) S.ob.length v rd) (k : RegD P sz df m ops (i + 1) ⟨(d,v) :: S.fr,S.ob ++ [none]⟩ (acc ++ [(rd,[])]) K) (hc : compAt P sz ops i = some (I0 d op):=by kernel_rfl) (hx : op.as.all (xcond S.fr) = true:=by kernel_rfl) : RegD P sz df m ops i S acc K :=
  dv v hc h hx k
theorem jx (d : Nat) (op : IOp) (ob' : Objs) (h : isem op (tau (fget S.fr)) (oget S.ob) S.ob.length = some ⟨v,eff,true,rd⟩) (he : effOK eff S.ob.length = true) (ho : eff.obs S.ob = ob') (k : RegJ P sz df m ops (i + 1) ⟨(d,v) :: S.fr,ob'⟩ K) (hc : compAt P sz ops i = some (I0 d op):=by kernel_rfl) (hx : op.as.all (xcond S.fr) = true:=by kernel_rfl) : RegJ P sz df m ops i S K :=
  je v ob' hc h hx he ho k
theorem jn (op : IOp) (ob' : Objs) (h : isem op (tau (fget S.fr)) (oget S.ob) S.ob.length = some ⟨v,eff,true,rd⟩) (he : effOK eff S.ob.length = true) (ho : eff.obs S.ob = ob') (k : RegJ P sz df m ops (i + 1) ⟨S.fr,ob'⟩ K) (hc : compAt P sz ops i = some (IN op):=by kernel_rfl) (hx : op.as.all (xcond S.fr) = true:=by kernel_rfl) : RegJ P sz df m ops i S K :=
  je v ob' hc h hx he ho k
theorem dx (d : Nat) (op : IOp) (ob' : Objs) (h : isem op (tau (fget S.fr)) (oget S.ob) S.ob.length = some ⟨v,eff,true,rd⟩) (he : effOK eff S.ob.length = true) (ho : eff.obp S.ob = ob') (k : RegD P sz df m ops (i + 1) ⟨(d,v) :: S.fr,ob'⟩ (acc ++ [(rd,eff.tch S.ob.length)]) K) (hc : compAt P sz ops i = some (I0 d op):=by kernel_rfl) (hx : op.as.all (xcond S.fr) = true:=by kernel_rfl) : RegD P sz df m ops i S acc K :=
  de v ob' hc h hx he ho k
theorem dm (op : IOp) (ob' : Objs) (h : isem op (tau (fget S.fr)) (oget S.ob) S.ob.length = some ⟨v,eff,true,rd⟩) (he : effOK eff S.ob.length = true) (ho : eff.obp S.ob = ob') (k : RegD P sz df m ops (i + 1) ⟨S.fr,ob'⟩ (acc ++ [(rd,eff.tch S.ob.length)]) K) (hc : compAt P sz ops i = some (IN op):=by kernel_rfl) (hx : op.as.all (xcond S.fr) = true:=by kernel_rfl) : RegD P sz df m ops i S acc K :=
  de v ob' hc h hx he ho k
theorem gk (v : V) (d : Nat) (op : IOp) (t : Nat) (b : Bool) (hg : gval S.fr (some (t,b)) = some g) (hx : g = true → Conds S.fr op.as) (k : RegJ P sz df m ops (i + 1) ⟨(d,.cond g v) :: S.fr,S.ob⟩ K) (hv : isemV op (tau (fget S.fr)) (oget S.ob) S.ob.length = some v:=by kernel_rfl)
    (hc : compAt P sz ops i = some (IG d op t b):=by kernel_rfl) : RegJ P sz df m ops i S K:=RegJ.op (Op1.valk op op.as hc hg hv hx) k
theorem gj (v : V) (d : Nat) (op : IOp) (t : Nat) (b : Bool) (hg : gval S.fr (some (t,b)) = some g) (k : RegJ P sz df m ops (i + 1) ⟨(d,.cond g v) :: S.fr,S.ob⟩ K) (hx : op.as.all (xcond S.fr) = true:=by kernel_rfl) (hv : isemV op (tau (fget S.fr)) (oget S.ob) S.ob.length = some v:=by kernel_rfl)
    (hc : compAt P sz ops i = some (IG d op t b):=by kernel_rfl) : RegJ P sz df m ops i S K:=RegJ.op (Op1.valk op op.as hc hg hv fun _=>.of hx) k
theorem gd (g : Bool) (v : V) (d : Nat) (op : IOp) (t : Nat) (b : Bool) (hg : gval S.fr (some (t,b)) = some g) (hx : g = true → Conds S.fr op.as) (k : RegD P sz df m ops (i + 1) ⟨(d,.cond g v) :: S.fr,S.ob ++ [none]⟩ (acc ++ [(isemR op (tau (fget S.fr)) (oget S.ob) S.ob.length,[])]) K)
    (hv : isemV op (tau (fget S.fr)) (oget S.ob) S.ob.length = some v:=by kernel_rfl) (hc : compAt P sz ops i = some (IG d op t b):=by kernel_rfl) : RegD P sz df m ops i S acc K:=RegD.op (OpD.valk op op.as hc hg hv hx) k
theorem gu (g : Bool) (d : Nat) (op : IOp) (t : Nat) (b : Bool) (hg : gval S.fr (some (t,b)) = some g) (h : g = true → Ok op (tau (fget S.fr)) (oget S.ob) S.ob.length v rd) (hx : g = true → Conds S.fr op.as) (k : RegD P sz df m ops (i + 1) ⟨(d,.cond g v) :: S.fr,S.ob ++ [none]⟩ (acc ++ [(rd,[])]) K)
    (hc : compAt P sz ops i = some (IG d op t b):=by kernel_rfl) : RegD P sz df m ops i S acc K:=RegD.op (OpD.valg op op.as hc hg h hx) k
theorem gv (d : Nat) (op : IOp) (t : Nat) (b : Bool) (hg : gval S.fr (some (t,b)) = some g) (h : g = true → Ok op (tau (fget S.fr)) (oget S.ob) S.ob.length v rd) (hx : g = true → Conds S.fr op.as) (k : RegJ P sz df m ops (i + 1) ⟨(d,.cond g v) :: S.fr,S.ob⟩ K)
    (hc : compAt P sz ops i = some (IG d op t b):=by kernel_rfl) : RegJ P sz df m ops i S K:=RegJ.op (Op1.valg op op.as hc hg h hx) k
theorem q1 {x y : Code} {S : St} (h : TriE P sz df m x S (seqS P sz df m y Q)) : TriE P sz df m (.seq x y) S Q:=TriE.seq h
theorem q2 {S : St} (h : Q .normal S) : TriE P sz df m .skip S Q:=TriE.skip h
theorem q3 {S : St} (h : Q .ret S) : TriE P sz df m .ret S Q:=TriE.ret h
theorem q4 {id : Nat} {c : Code} {S : St} (h : TriE P sz df m c S (blockS id Q)) : TriE P sz df m (.block id c) S Q:=TriE.block h
theorem q5 {id : Nat} {S : St} (h : Q (.exit id) S) : TriE P sz df m (.exit id) S Q:=TriE.exit h
theorem q6 {id : Nat} {S : St} (h : RegJ P sz df m ops 0 S (Q .normal)) : TriE P sz df m (.region id ops false) S Q:=TriE.regJ h
theorem q7 {id : Nat} {c x : Code} {S : St} (h : TriE P sz df m c S (blockS id (seqS P sz df m x Q))) : TriE P sz df m (.seq (.block id c) x) S Q:=TriE.seq (TriE.block h)
theorem si {α : Type} {a b : α} (h : some a = some b) : a = b:=Option.some.inj h
theorem ck {α : Type} {b : Bool} {k : Option α} {r : α} (h : chk b k = some r) : b = true ∧ k = some r:=chk_some h
theorem bs {α β : Type} {x : Option α} {f : α → Option β} {r : β} (h : x.bind f = some r) : ∃ y,x = some y ∧ f y = some r:=bind_some h
theorem tc {R : Type} {p q : Option R} {r : R} {b : Bool} {S : St} {c : Operand} {x y : Code} (h : (bif b then p else q) = some r) (ht : b = true → p = some r → TriE P sz df m x S Q) (he : b = false → q = some r → TriE P sz df m y S Q) (hb : xbool S.fr (toX c) = some b:=by kernel_rfl) : TriE P sz df m (.cond c x y) S Q :=
  TriE.cond hb (fun e=>ht e (cond_t h e)) (fun e=>he e (cond_f h e))
theorem fo {k : FuncId} {fn : Func} {c : Code} {xs : List V} {ob' : Objs} {y : V} (ts : List Nat) (henter : ∀ args w,(callFunc k args).run P w = .ok (.enter k args) w) (hf : P.funcs[k]? = some fn) (hb : fn.body = some c) (h : TriE P fn.ntmps [] 0 c ⟨frOf xs 0,[]⟩ (DoneS 0 ts y ob'))
    (hr : fn.results = (ts.map ResultVar.tmp).toArray:=by kernel_rfl) (hn : Nat.ble xs.length fn.ntmps = true:=by kernel_rfl) : FnL P k xs [] y ob':=FnL.ofS henter hf hb hr (Nat.le_of_ble_eq_true hn) (Nat.zero_le _) (fun j h=>absurd h (Nat.not_lt_zero j)) h
theorem fob {k : FuncId} {fn : Func} {c : Code} {xs : List V} {ob ob' : Objs} {y : V} (ts : List Nat) (henter : ∀ args w,(callFunc k args).run P w = .ok (.enter k args) w) (hf : P.funcs[k]? = some fn) (hb : fn.body = some c) (ha : AllSome ob) (h : TriE P fn.ntmps [] ob.length c ⟨frOf xs 0,ob⟩ (DoneS ob.length ts y ob'))
    (hr : fn.results = (ts.map ResultVar.tmp).toArray:=by kernel_rfl) (hn : Nat.ble xs.length fn.ntmps = true:=by kernel_rfl) (hl : Nat.ble ob.length ob'.length = true:=by kernel_rfl) : FnL P k xs ob y ob':=FnL.ofS henter hf hb hr (Nat.le_of_ble_eq_true hn) (Nat.le_of_ble_eq_true hl) (hall_of ha) h
theorem po {cb c1 y1 yb : Bool} {S : St} (d : Nat) (c y : X) (hc : xval S.fr c = some (c1,cb)) (hy : xval S.fr y = some (y1,yb)) (k : RegJ P sz df m ops (i + 1) ⟨(d,vb (cb || yb)) :: S.fr,S.ob⟩ K) (hco : compAt P sz ops i = some (I0 d (.pick c (.c (.p (.bool true))) y)):=by kernel_rfl)
    (hok : (c1 && (cb || y1)) = true:=by first | exact hokO1 | exact hokO0 | simp) : RegJ P sz df m ops i S K:=RegJ.op (Op1.or hco hc hy hok) k
theorem pa {cb c1 y1 yb : Bool} {S : St} (d : Nat) (c y : X) (hc : xval S.fr c = some (c1,cb)) (hy : xval S.fr y = some (y1,yb)) (k : RegJ P sz df m ops (i + 1) ⟨(d,vb (cb && yb)) :: S.fr,S.ob⟩ K) (hco : compAt P sz ops i = some (I0 d (.pick c y (.c (.p (.bool false))))):=by kernel_rfl)
    (hok : (c1 && (!cb || y1)) = true:=by first | exact hokA1 | exact hokA0 | simp) : RegJ P sz df m ops i S K:=RegJ.op (Op1.and hco hc hy hok) k
theorem jc {f : Nat} {xs : List V} {y : V} (d : Nat) (as : List X) (h : FnL P f xs [] y []) (k : RegJ P sz df m ops (i + 1) ⟨(d,y) :: S.fr,S.ob⟩ K) (hy : y.ren (rho S.ob.length []) = y:=by kernel_rfl) (hc : compAt P sz ops i = some (I0 d (.call f as)):=by kernel_rfl) (ha : as.map (tau (fget S.fr)) = renL (rho S.ob.length []) xs:=by kernel_rfl)
    (hx : (IOp.call f as).as.all (xcond S.fr) = true:=by kernel_rfl) : RegJ P sz df m ops i S K:=RegJ.op (Op1.call as _ hc rfl h [] ha (.of hx) rfl rfl .nil hy .nil (List.append_nil _)) k
theorem jco {f : Nat} {xs : List V} {ob ob' obx oby ob2 : Objs} {y : V} (y' : V) (d : Nat) (as : List X) (h : FnL P f xs ob y ob') (rs : List Nat) (hob : rs.map (oget S.ob) = obx) (hobx : ObsRen (rho S.ob.length rs) ob obx) (hoby : ObsRen (rho S.ob.length rs) ob' oby) (ho : setAll S.ob rs oby = ob2)
    (k : RegJ P sz df m ops (i + 1) ⟨(d,y') :: S.fr,ob2⟩ K) (hc : compAt P sz ops i = some (I0 d (.call f as)):=by kernel_rfl) (ha : as.map (tau (fget S.fr)) = renL (rho S.ob.length rs) xs:=by kernel_rfl) (hx : (IOp.call f as).as.all (xcond S.fr) = true:=by kernel_rfl) (hrs : callOK S.ob.length rs = true:=by kernel_rfl)
    (hy : y.ren (rho S.ob.length rs) = y':=by kernel_rfl) : RegJ P sz df m ops i S K:=RegJ.op (Op1.call as _ hc rfl h rs ha (.of hx) hrs hob hobx hy hoby ho) k
theorem jy {f : Nat} {xs first caps : List V} {ob ob' obx oby ob2 : Objs} {y : V} (y' : V) (d : Nat) (gx : X) (as : List X) (hf : tau (fget S.fr) gx = .fn (.func f) first caps) (h : FnL P f xs ob y ob') (rs : List Nat) (hob : rs.map (oget S.ob) = obx) (hobx : ObsRen (rho S.ob.length rs) ob obx) (hoby : ObsRen (rho S.ob.length rs) ob' oby) (ho : setAll S.ob rs oby = ob2)
    (k : RegJ P sz df m ops (i + 1) ⟨(d,y') :: S.fr,ob2⟩ K) (hc : compAt P sz ops i = some (I0 d (.dyn gx as)):=by kernel_rfl) (ha : first ++ as.map (tau (fget S.fr)) ++ caps = renL (rho S.ob.length rs) xs:=by kernel_rfl) (hx : (IOp.dyn gx as).as.all (xcond S.fr) = true:=by kernel_rfl) (hrs : callOK S.ob.length rs = true:=by kernel_rfl)
    (hy : y.ren (rho S.ob.length rs) = y':=by kernel_rfl) : RegJ P sz df m ops i S K:=RegJ.op (Op1.dyn gx as _ hc rfl hf h rs ha (.of hx) hrs hob hobx hy hoby ho) k
theorem dc {f : Nat} {xs : List V} {ob ob' obx oby ob2 : Objs} {y : V} {tch : List Nat} (y' : V) (c : Nat) (d : Nat) (as : List X) (h : FnL P f xs ob y ob') (rs : List Nat) (hob : rs.map (oget S.ob) = obx) (hobx : ObsRen (rhoU S.ob.length c rs) ob obx) (hoby : ObsRen (rhoU S.ob.length c rs) ob' oby) (ho : setAll S.ob rs oby ++ [none] = ob2) (ht : CallT S rs c ob ob' tch)
    (k : RegD P sz df m ops (i + 1) ⟨(d,y') :: S.fr,ob2⟩ (acc ++ [(rs,tch)]) K) (hc : compAt P sz ops i = some (I0 d (.call f as)):=by kernel_rfl) (ha : as.map (tau (fget S.fr)) = renL (rhoU S.ob.length c rs) xs:=by kernel_rfl) (hx : (IOp.call f as).as.all (xcond S.fr) = true:=by kernel_rfl) (hrs : callOK S.ob.length rs = true:=by kernel_rfl)
    (hy : y.ren (rhoU S.ob.length c rs) = y':=by kernel_rfl) (hcc : c = ob'.length - rs.length:=by kernel_rfl) : RegD P sz df m ops i S acc K:=RegD.op (OpD.call c as _ hc h rs ha (.of hx) hrs hob hobx hy hoby ho hcc ht) k
theorem gc {f : Nat} {xs : List V} {y : V} (d : Nat) (as : List X) (t : Nat) (b : Bool) (hg : gval S.fr (some (t,b)) = some g) (h : g = true → FnL P f xs [] y []) (hx : g = true → Conds S.fr (IOp.call f as).as) (ha : g = true → as.map (tau (fget S.fr)) = renL (rho S.ob.length []) xs) (k : RegJ P sz df m ops (i + 1) ⟨(d,.cond g y) :: S.fr,S.ob⟩ K)
    (hy : y.ren (rho S.ob.length []) = y:=by kernel_rfl) (hc : compAt P sz ops i = some (IG d (.call f as) t b):=by kernel_rfl) : RegJ P sz df m ops i S K:=RegJ.op (Op1.callg as _ hc hg h [] ha hx rfl rfl .nil hy (List.append_nil _)) k
theorem du {f : Nat} {xs : List V} {y : V} (g : Bool) (d : Nat) (as : List X) (t : Nat) (b : Bool) (hg : gval S.fr (some (t,b)) = some g) (h : g = true → FnL P f xs [] y []) (hx : g = true → Conds S.fr (IOp.call f as).as) (ha : g = true → as.map (tau (fget S.fr)) = renL (rhoU S.ob.length 0 []) xs) (k : RegD P sz df m ops (i + 1) ⟨(d,.cond g y) :: S.fr,S.ob ++ [none]⟩ (acc ++ [([],[])]) K)
    (hy : y.ren (rhoU S.ob.length 0 []) = y:=by kernel_rfl) (hc : compAt P sz ops i = some (IG d (.call f as) t b):=by kernel_rfl) : RegD P sz df m ops i S acc K:=RegD.op (OpD.callg as _ hc hg h [] ha hx rfl rfl .nil hy (List.append_nil _) rfl) k
end
end
section
open Go
variable {P : Program} {sz : Nat} {df : List Deferred} {m : Nat}
end
section
open Go Go.Sort Go.Proofs
set_option linter.all false
end
end Go.Proofs.YtifabpmjiphhdaaGreat.As
