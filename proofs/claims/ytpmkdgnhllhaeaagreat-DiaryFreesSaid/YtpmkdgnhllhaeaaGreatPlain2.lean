/- What the functions compute, on plain data, and what follows from it, part 2: no condition. -/
import Derived.Test.YtpmkdgnhllhaeaaGreatPlain1
namespace Go.Proofs.YtpmkdgnhllhaeaaGreat.As
open Go
section
set_option maxRecDepth 4000
open Go
variable {d : Diary} {n : Nat} {w : Int}
theorem joinB_of (roads : List Road) (a b : Str) (w : Int) (h : (joinB roads a b w).2 = true) (lo : ∀ r ∈ roads,1 ≤ r.Minutes) (hi : ∀ r ∈ roads,r.Minutes ≤ 10000) :
    1 ≤ (joinB roads a b w).1 ∧ (joinB roads a b w).1 ≤ 10000 ∧ Jn roads w a b (joinB roads a b w).1.toNat:=by
  obtain ⟨⟨r,h1,h2,h3⟩,_⟩:=(joinB_spec a b w roads).2 h
  have g1:=lo r h1
  have g2:=hi r h1
  exact ⟨by omega,by omega,r,h1,h2,by omega⟩
theorem distW_walk (ok : OkR d.Places d.Roads) {a b : Str} (ha : a ∈ d.Places) (hb : b ∈ d.Places) {v : Int} (h : distW d.Places d.Roads a b w = some v) :
    Walk (Jn d.Roads w) (fun _=>True) a b v.toNat ∧ ∀ l,Walk (Jn d.Roads w) (fun _=>True) a b l → v ≤ ((l : Nat) : Int):=by
  have h1:=distW_dist ok ha hb w
  have h2:=distW_rng ok h
  rw [h] at h1
  refine ⟨h1.1 v.toNat rfl,fun l hl=>?_⟩
  obtain ⟨q,g1,g2⟩:=h1.2 l hl
  have : v.toNat = q:=Option.some.inj g1
  omega
theorem walk_distW (ok : OkR d.Places d.Roads) {a b : Str} (ha : a ∈ d.Places) (hb : b ∈ d.Places) {l : Nat} (h : Walk (Jn d.Roads w) (fun _=>True) a b l) :
    ∃ v,distW d.Places d.Roads a b w = some v ∧ v ≤ ((l : Nat) : Int):=by
  obtain ⟨q,g1,g2⟩:=(distW_dist ok ha hb w).2 l h
  cases e : distW d.Places d.Roads a b w with
  | none=>rw [e] at g1; cases g1
  | some v =>
    rw [e] at g1
    have : v.toNat = q:=Option.some.inj g1
    have:=distW_rng ok e
    exact ⟨v,rfl,by omega⟩
def goP (d : Diary) (b : Str) (w : Int) (at_ : Str) (left : Int) (y : Str) : Bool :=
  ((joinB d.Roads at_ y w).2 && (distW d.Places d.Roads y b w).isSome) && ((joinB d.Roads at_ y w).1 + (distW d.Places d.Roads y b w).getD 0 == left)
theorem go_ok (ok : OkR d.Places d.Roads) {at_ b y : Str} {left : Int} (h : goP d b w at_ left y = true) : (joinB d.Roads at_ y w).2 = true ∧ 1 ≤ (joinB d.Roads at_ y w).1 ∧ (joinB d.Roads at_ y w).1 ≤ 10000 ∧ distW d.Places d.Roads y b w = some (left - (joinB d.Roads at_ y w).1):=by
  rw [goP,Bool.and_eq_true,Bool.and_eq_true,beq_iff_eq] at h
  obtain ⟨⟨h1,h2⟩,h3⟩:=h
  obtain ⟨q1,q2,_⟩:=joinB_of d.Roads at_ y w h1 ok.lo ok.hi
  cases e : distW d.Places d.Roads y b w with
  | none=>rw [e] at h2; cases h2
  | some v =>
    rw [e] at h3
    refine ⟨h1,q1,q2,?_⟩
    congr 1
    simp only [Option.getD_some] at h3
    omega
structure RInv (d : Diary) (a b : Str) (w all : Int) (at_ : Str) (left : Int) (r : List Str) : Prop where
  mem : at_ ∈ d.Places
  dist : distW d.Places d.Roads at_ b w = some left
  ne : 1 ≤ r.length
  first : ix r 0 = a
  last : ix r (r.length - 1) = at_
  nodup : r.Nodup
  far : ∀ y ∈ r,y ∈ d.Places ∧ ∃ v,distW d.Places d.Roads y b w = some v ∧ left ≤ v
  legs : ∀ v,1 ≤ v → v < r.length → legE d r w v = 0
  sum : sumR d r w r.length = all - left
theorem ix_snoc {r : List Str} {y : Str} {v : Nat} (h : v < r.length) : ix (r ++ [y]) v = ix r v:=by
  rw [ix_eq (by simp; omega),ix_eq h,List.getElem_append_left h]
theorem ix_snoc' {r : List Str} {y : Str} : ix (r ++ [y]) r.length = y:=by
  rw [ix_eq (by simp),List.getElem_append_right (Nat.le_refl _)]; simp
theorem sumR_snoc {r : List Str} {y : Str} : ∀ v,v ≤ r.length → sumR d (r ++ [y]) w v = sumR d r w v
  | 0,_=>rfl
  | v + 1,h=>by
    rw [sumR,sumR,sumR_snoc v (by omega)]
    by_cases h0 : v = 0
    · subst h0; rfl
    · rw [legJ,legJ,ix_snoc (by omega),ix_snoc (by omega)]
theorem RInv.next (ok : OkR d.Places d.Roads) {a b : Str} {w all : Int} {at_ : Str} {left : Int} {r : List Str} (h : RInv d a b w all at_ left r) {y : Str} (hy : y ∈ d.Places) (hg : goP d b w at_ left y = true) :
    RInv d a b w all y (left - (joinB d.Roads at_ y w).1) (r ++ [y]):=by
  obtain ⟨g1,g2,g3,g4⟩:=go_ok ok hg
  have hne:=h.ne
  have hll : (r ++ [y]).length = r.length + 1:=by simp
  have hleg : legJ d (r ++ [y]) w r.length = joinB d.Roads at_ y w:=by
    rw [legJ,ix_snoc (by omega),ix_snoc',h.last]
  refine ⟨hy,g4,by omega,?_,?_,?_,?_,?_,?_⟩
  · rw [ix_snoc (by omega),h.first]
  · rw [hll,Nat.add_sub_cancel,ix_snoc']
  · rw [List.nodup_append]
    refine ⟨h.nodup,by simp,fun x hx z hz e=>?_⟩
    rw [List.mem_singleton] at hz
    subst hz; subst e
    obtain ⟨_,v,e1,e2⟩:=h.far _ hx
    rw [g4] at e1
    have:=Option.some.inj e1
    omega
  · intro z hz
    rcases List.mem_append.1 hz with hz | hz
    · obtain ⟨e0,v,e1,e2⟩:=h.far z hz
      exact ⟨e0,v,e1,by omega⟩
    · rw [List.mem_singleton] at hz
      subst hz
      exact ⟨hy,_,g4,Int.le_refl _⟩
  · intro v h1 h2
    by_cases e : v = r.length
    · rw [e,legE,hleg,g1]; rfl
    · have:=h.legs v h1 (by omega)
      rw [legE,legJ] at this ⊢
      rw [ix_snoc (by omega),ix_snoc (by omega)]
      exact this
  · rw [hll,sumR_succ hne,sumR_snoc _ (Nat.le_refl _),h.sum,hleg]
    omega
end
section
set_option maxRecDepth 4000
open Go
variable {d : Diary} {n : Nat}
theorem grandOf_ix {l : List Grand} {s : Str} (h : ¬ findI (isG s) l < 0) : grandOf l s = some (ix l (findI (isG s) l).toNat):=by
  obtain ⟨h1,h2,h3,h4⟩:=findI_pos h
  rw [grandOf,List.find?_eq_some_iff_getElem]
  refine ⟨h3,_,h2,(ix_eq h2).symm,fun j hj=>?_⟩
  have:=h4 j hj
  rw [ix_eq (by omega)] at this
  rw [this]; rfl
theorem known_findI {l : List Grand} {s : Str} (h : l.any (isG s) = true) : ¬ findI (isG s) l < 0:=fun c=>by
  have:=findI_none (isG s) l
  rw [h,decide_eq_true c] at this
  cases this
theorem Stands_ref (hd : OkD d) (hn : 1000 < n) (l : List Item) (hl : l.length ≤ 900) {g : Str} (hg : d.Grands.any (isG g) = true) (t : Int) : agrafferef09_Stands n d l g t = some (placeS (diaD d) l g t):=by
  have hgl:=hd.grands
  have hk:=known_findI hg
  obtain ⟨h1,h2,_,_⟩:=findI_pos hk
  have hi : (diaD d).init g = (ix d.Grands (findI (isG g) d.Grands).toNat).Place:=by
    simp only [diaD,grandOf_ix hk]
  rw [agrafferef09_Stands,GrandAt_eq (n:=n) d g (by omega) (by omega)]
  simp only [Option.bind_some,inB_of h1 h2,decide_eq_true h2,chk_t,withK_eq,← hi]
  refine loop_fold (st:=fun v=>placeS (diaD d) (l.take v) g t) (len:=l.length) (fun back v hv=>?_) (fun back=>?_) n (by omega) rfl
  · rw [agrafferef09_Stands_L1]
    simp only [hv,decide_true,cond_true,withK_eq,nI_of (by omega : v + 1 ≤ 9223372036854775807),chk_t,take_snoc hv]
    rw [placeS,placeS,List.foldl_append]
    show (bif movesTo g t (ix l v) then _ else _) = _
    simp only [List.foldl_cons,List.foldl_nil]
    cases movesTo g t (ix l v) <;> rfl
  · rw [agrafferef09_Stands_L1]; simp
theorem itemD_known {x : Item} (h : itemD d x = 0) : d.Grands.any (isG x.Grand) = true:=by
  have o:=itemD_ok h
  have hk:=o.kind
  have hf:=o.fr
  have ht:=o.to
  have hl:=o.lt
  have e0 : isBet 0 3 x.Kind = true:=by rw [isBet,decide_eq_true hk.1,decide_eq_true hk.2]; rfl
  have e1 : isBet 0 1000000 x.From = true:=by rw [isBet,decide_eq_true hf.1,decide_eq_true hf.2]; rfl
  have e2 : isBet 0 1000000 x.To = true:=by rw [isBet,decide_eq_true ht.1,decide_eq_true ht.2]; rfl
  have e3 : decide (x.To ≤ x.From) = false:=decide_eq_false (by omega)
  cases e : d.Grands.any (isG x.Grand) with
  | true=>rfl
  | false=>rw [itemD,e0,e1,e2,e3,e] at h; simp at h
section
variable {l : List Item} {v : Nat}
end
theorem placeS_mem (ok : OkP d) {g : Str} (hg : d.Grands.any (isG g) = true) (t : Int) {l : List Item} (hl : ∀ y ∈ l,y.Place ∈ d.Places) : placeS (diaD d) l g t ∈ d.Places:=by
  have hk:=known_findI hg
  have h0 : (diaD d).init g ∈ d.Places:=by
    simp only [diaD,grandOf_ix hk]
    exact (ok.g _ (ix_mem (findI_pos hk).2.1)).1
  unfold placeS
  generalize (diaD d).init g = a at h0
  induction l generalizing a with
  | nil=>exact h0
  | cons y l ih =>
    rw [List.foldl_cons]
    refine ih (fun z hz=>hl z (List.mem_cons_of_mem _ hz)) _ ?_
    cases movesTo g t y with
    | true=>exact hl y List.mem_cons_self
    | false=>exact h0
end
section
set_option maxRecDepth 4000
open Go
variable {d : Diary} {n : Nat}
theorem Rests_ref (ok : OkP d) (hn : 1000 < n) (l : List Item) (hl : l.length ≤ 900) (hit : ∀ y ∈ l,y.To ≤ 1000000 ∧ 0 ≤ y.To) {x : Item} (hx : OkIt d x) : agrafferef09_Rests n d l x = some (restS (diaD d) x l 0 (-1)):=by
  have hf:=hx.fr
  rw [agrafferef09_Rests,withK_eq]
  refine loop_fold (st:=fun v=>restS (diaD d) x (l.take v) 0 (-1)) (len:=l.length) (fun back v hv=>?_) (fun back=>?_) n (by omega) rfl
  · have hb:=hit _ (ix_mem hv)
    have hlen : (l.take v).length = v:=by simp; omega
    rw [agrafferef09_Rests_L1]
    simp only [decide_eq_true hv,cond_true,withK_eq,nI_of (by omega : v + 1 ≤ 9223372036854775807),chk_t,inI_of (by omega : -9223372036854775808 ≤ x.From - (ix l v).To) (by omega),Bool.or_true,take_snoc hv,restS_snoc,hlen]
    have et : tunes (diaD d) x (ix l v) = ((((ix l v).Kind == 0) && (decide ((ix l v).To ≤ x.From))) && (decide (x.From - (ix l v).To ≤ d.Lasts))):=rfl
    rw [et]
    cases (ix l v).Grand == x.Grand with
    | false=>rfl
    | true =>
      cases (((ix l v).Kind == 0) && (decide ((ix l v).To ≤ x.From))) && (decide (x.From - (ix l v).To ≤ d.Lasts)) <;> cases (ix l v).Kind == 1 <;> rfl
  · rw [agrafferef09_Rests_L1]; simp
theorem distZ_eq (a b : Str) (w : Int) : distZ d a b w = (distW d.Places d.Roads a b w).getD (-1):=by rw [distZ]; cases distW d.Places d.Roads a b w <;> rfl
theorem breaks_ref (hd : OkD d) (ok : OkP d) (hn : 1000 < n) (l : List Item) (hl : l.length ≤ 900) (hit : ∀ y ∈ l,itemD d y = 0) {x : Item} (hx : itemD d x = 0) :
    agrafferef09_breaks n d l x = some (firstNZ [changesE (diaD d) l x,standsE (diaD d) l x,travelsE (diaD d) l x,tunedE (diaD d) l x]):=by
  have hxo:=itemD_ok hx
  have hkn:=itemD_known hx
  have hf:=hxo.fr
  have ht:=hxo.to
  have hch:=ok.ch
  have hg:=hd.grands
  have hits:=okIts hit
  rw [agrafferef09_breaks,withK_eq,loop_any' (l:=l) (p:=clashB d x) (bad:=some 17) (no:=some (firstNZ [standsE (diaD d) l x,travelsE (diaD d) l x,tunedE (diaD d) l x])) (fun back v hv=>?_) (fun back=>?_) n (by omega)]
  · have e : changesE (diaD d) l x = bif l.any (clashB d x) then 17 else 0:=rfl
    rw [e]
    cases l.any (clashB d x) <;> rfl
  · have hb:=hits _ (ix_mem hv)
    rw [agrafferef09_breaks_L1]
    simp only [hv,decide_true,cond_true,inI_of (by omega : -9223372036854775808 ≤ (ix l v).To + d.Change) (by omega),Bool.or_true,chk_t,nI_of (by omega : v + 1 ≤ 9223372036854775807)]
    rfl
  · rw [agrafferef09_breaks_L1]
    simp only [Nat.lt_irrefl,decide_false,cond_false,Stands_ref hd hn l hl hkn,Option.bind_some,withK_eq]
    have last : loopN (agrafferef09_breaks_L2 n d l x fun _=>(gcall (x.Kind == (2 : Int)) (agrafferef09_Rests n d l x)).bind fun y8=>bif (x.Kind == (2 : Int)) && (decide (y8 < (0 : Int))) then some 26 else some 0) n 0 = some (firstNZ [travelsE (diaD d) l x,tunedE (diaD d) l x]):=by
      have fin : ((gcall (x.Kind == (2 : Int)) (agrafferef09_Rests n d l x)).bind fun y8=>bif (x.Kind == (2 : Int)) && (decide (y8 < (0 : Int))) then some 26 else some 0) = some (tunedE (diaD d) l x):=by
        rw [Rests_ref ok hn l hl hits hxo,gcall_some_,tunedE]
        simp only [Option.bind_some]
        cases x.Kind == 2 with
        | false=>rfl
        | true =>
          simp only [cond_true,Bool.true_and]
          cases decide (restS (diaD d) x l 0 (-1) < 0) <;> rfl
      rw [fin,travelsE]
      cases hk : x.Kind == 0 with
      | false =>
        obtain ⟨n',rfl⟩ : ∃ q,n = q + 1:=⟨n - 1,by omega⟩
        rw [loopN_s,agrafferef09_breaks_L2,hk,Bool.and_false]
        simp only [cond_false,Bool.false_and,firstNZ,bne_self_eq_false]
        exact congrArg some bif_int.symm
      | true =>
        rw [loop_any' (l:=l) (p:=farE (diaD d) x) (bad:=some 16) (no:=some (tunedE (diaD d) l x)) (fun back v hv=>?_) (fun back=>?_) n (by omega)]
        · simp only [Bool.true_and]
          cases l.any (farE (diaD d) x) with
          | true=>rfl
          | false =>
            simp only [cond_false,firstNZ,bne_self_eq_false]
            exact congrArg some bif_int.symm
        · have hb:=hits _ (ix_mem hv)
          have hpl:=(itemD_ok (hit _ (ix_mem hv))).place
          rw [agrafferef09_breaks_L2]
          simp only [hv,decide_true,hk,Bool.and_self,cond_true,withK_eq,chk_t,nI_of (by omega : v + 1 ≤ 9223372036854775807),Distance_ref ok.r hn hpl hxo.place 1,Option.bind_some]
          have e1 : farE (diaD d) x (ix l v) = (((ix l v).Kind == 0) && ((ix l v).Who == x.Who) && match distW d.Places d.Roads (ix l v).Place x.Place 1 with | none=>true | some q=>decide (x.From < (ix l v).To + q)):=rfl
          have e2 : (((ix l v).Kind != 0) || (!((ix l v).Who == x.Who))) = !(((ix l v).Kind == 0) && ((ix l v).Who == x.Who)):=by
            rw [Bool.not_and]; rfl
          rw [e1,e2,distZ_eq]
          cases ((ix l v).Kind == 0) && ((ix l v).Who == x.Who) with
          | false=>rfl
          | true =>
            simp only [Bool.not_true,cond_false,Bool.true_and]
            cases hdist : distW d.Places d.Roads (ix l v).Place x.Place 1 with
            | none=>rfl
            | some q =>
              have hq:=distW_rng ok.r hdist
              simp only [Option.getD_some,decide_eq_false (by omega : ¬ q < 0),Bool.not_false,Bool.not_true,Bool.false_or,inI_of (by omega : -9223372036854775808 ≤ (ix l v).To + q) (by omega),chk_t]
        · rw [agrafferef09_breaks_L2]; simp
    rw [last]
    have hmem:=placeS_mem ok hkn x.From (l:=l) (fun y hy=>(itemD_ok (hit y hy)).place)
    have hwid : (diaD d).width x.Grand = (ix d.Grands (findI (isG x.Grand) d.Grands).toNat).Width:=by
      simp only [diaD,grandOf_ix (known_findI hkn)]
    obtain ⟨g1,g2,_,_⟩:=findI_pos (known_findI hkn)
    rw [standsE,hwid]
    have hdD : ∀ a b w,(diaD d).dist a b w = distW d.Places d.Roads a b w:=fun _ _ _=>rfl
    rw [hdD]
    have hkne : (x.Kind != 1) = !(x.Kind == 1):=rfl
    rw [hkne]
    cases x.Kind == 1 with
    | false =>
      cases hp : placeS (diaD d) l x.Grand x.From == x.Place with
      | false=>rfl
      | true=>simp only [Bool.not_false,Bool.not_true,Bool.and_false,cond_false,cond_true,firstNZ,bne_self_eq_false]
    | true =>
      simp only [Bool.not_true,Bool.false_and,cond_false,cond_true]
      cases hp : placeS (diaD d) l x.Grand x.From == x.Place with
      | true=>rfl
      | false =>
        simp only [cond_false,GrandAt_eq (n:=n) d x.Grand (by omega) (by omega),Option.bind_some,inB_of g1 g2,decide_eq_true g2,chk_t,Distance_ref ok.r hn hmem hxo.place,distZ_eq]
        cases hdist : distW d.Places d.Roads (placeS (diaD d) l x.Grand x.From) x.Place (ix d.Grands (findI (isG x.Grand) d.Grands).toNat).Width with
        | none=>rfl
        | some q =>
          have hq:=distW_rng ok.r hdist
          simp only [Option.getD_some,decide_eq_false (by omega : ¬ q < 0),cond_false,inI_of (by omega : -9223372036854775808 ≤ x.To - x.From) (by omega),chk_t]
          cases decide (x.To - x.From < q) with
          | true=>rfl
          | false=>simp only [cond_false,firstNZ,bne_self_eq_false]
theorem acceptR_in (hd : OkD d) (ok : OkP d) (hn : 1000 < n) (l : List Item) (hl : l.length ≤ 900) (hw : ∀ x ∈ l,x.Who.length ≤ 900) :
    ∀ m v f,v + m = l.length → m < f → (∀ y ∈ l.take v,itemD d y = 0) →
      loopN (agrafferef09_Accept_L1 n d l fun _=>some (0,(-1))) f v = some ((accS (diaD d) (l.take v) (l.drop v) v).2,(accS (diaD d) (l.take v) (l.drop v) v).1):=by
  have hp:=hd.places
  have ht:=hd.techs
  have hg:=hd.grands
  intro m
  induction m with
  | zero =>
    intro v f hv hf hz
    obtain ⟨f,rfl⟩ : ∃ q,f = q + 1:=⟨f - 1,by omega⟩
    rw [loopN_s,agrafferef09_Accept_L1,decide_eq_false (by omega : ¬ v < l.length),drop_nil (by omega : ¬ v < l.length)]; rfl
  | succ m ih =>
    intro v f hv hf hz
    obtain ⟨f,rfl⟩ : ∃ q,f = q + 1:=⟨f - 1,by omega⟩
    have hvl : v < l.length:=by omega
    have hci:=CheckItem_ref (n:=n) d (ix l v) (by omega) (by omega) (by omega) (hw _ (ix_mem hvl)) hn
    have htl : (l.take v).length ≤ 900:=by simp; omega
    have b5 : (!(decide (0 < v)) || inB (((v : Nat) : Int) - 1) l.length) = true:=by
      by_cases h0 : v = 0
      · subst h0; rfl
      · rw [inB_of (by omega) (by omega),Bool.or_true]
    have b6 : (!(decide (0 < v)) || decide ((((v : Nat) : Int) - 1).toNat < l.length)) = true:=by
      by_cases h0 : v = 0
      · subst h0; rfl
      · rw [Bool.or_eq_true]; exact .inr (decide_eq_true (by omega))
    have b7 : ((((v : Nat) : Int) - 1).toNat) = v - 1:=by omega
    rw [loopN_s,agrafferef09_Accept_L1,decide_eq_true hvl,cond_true,drop_ix hvl,accS_cons,errS_eq,b5,b6]
    simp only [inI_of (by omega : -9223372036854775808 ≤ ((v : Nat) : Int) - 1) (by omega),b7,chk_t,hci,Option.bind_some,Bool.or_true,decide_eq_true (Nat.le_of_lt hvl),nI_of (by omega : v + 1 ≤ 9223372036854775807)]
    have hce : (diaD d).ce (ix l v) = itemD d (ix l v):=rfl
    rw [hce]
    by_cases h1 : itemD d (ix l v) = 0
    · rw [h1,order_take hvl]
      simp only [bne_self_eq_false,cond_false]
      cases h2 : decide (0 < v) && decide ((ix l v).From < (ix l (v - 1)).From) with
      | true=>rfl
      | false =>
        rw [breaks_ref hd ok hn (l.take v) htl hz h1]
        simp only [Option.bind_some,cond_false,bne_self_eq_false,firstNZ]
        by_cases h3 : changesE (diaD d) (l.take v) (ix l v) = 0
        · by_cases h4 : standsE (diaD d) (l.take v) (ix l v) = 0
          · by_cases h5 : travelsE (diaD d) (l.take v) (ix l v) = 0
            · by_cases h6 : tunedE (diaD d) (l.take v) (ix l v) = 0
              · rw [h3,h4,h5,h6]
                simp only [cond_false,bne_self_eq_false]
                rw [← take_snoc hvl]
                refine ih (v + 1) f (by omega) (by omega) fun y hy=>?_
                rw [take_snoc hvl,List.mem_append,List.mem_singleton] at hy
                rcases hy with hy | rfl
                · exact hz y hy
                · exact h1
              · rw [h3,h4,h5]
                simp only [bne_t h6,cond_true,bne_self_eq_false,cond_false]
            · rw [h3,h4]
              simp only [bne_t h5,cond_true,bne_self_eq_false,cond_false]
          · rw [h3]
            simp only [bne_t h4,cond_true,bne_self_eq_false,cond_false]
        · simp only [bne_t h3,cond_true]
    · simp only [bne_t h1,cond_true]
theorem Accept_ref (hd : OkD d) (hn : 1000 < n) (l : List Item) (hl : l.length ≤ 900) (hw : ∀ x ∈ l,x.Who.length ≤ 900) : agrafferef09_Accept n d l = some ((acceptD d l).2,(acceptD d l).1):=by
  rw [agrafferef09_Accept,CheckDiary_ref d hd hn,acceptD]
  simp only [Option.bind_some,withK_eq]
  by_cases h : diaryD d = 0
  · rw [h,accL]
    simp only [bne_self_eq_false,cond_false]
    cases decide (100 < l.length) with
    | true=>rfl
    | false =>
      simp only [cond_false]
      exact acceptR_in hd (okP h) hn l hl hw l.length 0 n (by omega) (by omega) (by simp)
  · simp only [bne_t h,cond_true]
end
section
set_option maxRecDepth 4000
open Go
variable {d : Diary} {n : Nat}
end
section
set_option maxRecDepth 4000
open Go
variable {d : Diary} {n : Nat}
theorem With_ref (l : List Item) (x : Item) (hl : l.length ≤ 800) (hn : 1000 < n) : agrafferef09_With n l x = some (insS l x):=by
  have hle : (l.takeWhile (notLater x)).length ≤ l.length:=(List.takeWhile_sublist _).length_le
  rw [agrafferef09_With,withK_eq,addLoop l x (agrafferef09_With_L1 l x _) _ (fun back v=>rfl) (by omega) l.length 0 n (by omega) (by omega),Nat.zero_add,List.drop_zero]
  rw [chk_of (decide_eq_true hle),chk_of (room_of (by simp; omega) (by simp; omega)),chk_of (room_of (by simp; omega) (by simp; omega)),chk_of (room_of (by simp; omega) (by simp; omega))]
  rw [← insL_insS,insL,List.append_assoc]; rfl
def addA (d : Diary) (l : List Item) (x : Item) : Int × List Item:=bif diaryD d != 0 then (diaryD d,[]) else bif (accL d l).2 != 0 then ((accL d l).2,[]) else bif decide (100 ≤ l.length) then (8,[]) else addD d l x
theorem Add_ref (hd : OkD d) (hn : 1000 < n) (l : List Item) (x : Item) (hl : l.length ≤ 800) (hw : ∀ y ∈ l,y.Who.length ≤ 900) (hx : x.Who.length ≤ 900) : agrafferef09_Add n d l x = some (addA d l x):=by
  have hwI : ∀ y ∈ insS l x,y.Who.length ≤ 900:=fun y hy=>by
    rcases (insS_mem l x y).1 hy with rfl | hy
    · exact hx
    · exact hw y hy
  rw [agrafferef09_Add,Accept_ref hd hn l (by omega) hw,acceptD,addA]
  simp only [Option.bind_some]
  by_cases h0 : diaryD d = 0
  · rw [h0]
    simp only [bne_self_eq_false,cond_false]
    by_cases hA : (accL d l).2 = 0
    · rw [hA]
      simp only [bne_self_eq_false,cond_false]
      cases decide (100 ≤ l.length) with
      | true=>rfl
      | false =>
        simp only [cond_false,With_ref l x hl hn,Option.bind_some,Accept_ref hd hn (insS l x) (by rw [insS_len]; omega) hwI,acceptD,h0,bne_self_eq_false,addD]
        cases (accL d (insS l x)).2 != 0 <;> rfl
    · simp only [bne_t hA,cond_true]
  · simp only [bne_t h0,cond_true]
end
section
set_option maxRecDepth 4000
open Go
variable {d : Diary} {n : Nat} {w : Int}
def sumM : List Road → Int
  | []=>0
  | r :: l=>r.Minutes + sumM l
theorem flatLen {f : Road → List Nat} (hf : ∀ r,(f r).length = r.Minutes.toNat) : ∀ l : List Road,(∀ r ∈ l,1 ≤ r.Minutes) → (((l.flatMap f).length : Nat) : Int) = sumM l
  | [],_=>rfl
  | r :: l,h=>by
    have:=flatLen hf l fun x hx=>h x (List.mem_cons_of_mem _ hx)
    have h1:=h r List.mem_cons_self
    rw [List.flatMap_cons,List.length_append,sumM,hf]
    omega
theorem crossing (ok : OkR d.Places d.Roads) {a : Str} (ha : a ∈ d.Places) {t : Int} {c b : Str} {l : Nat} (hw : Walk (Jn d.Roads w) (fun _=>True) c b l) : ∀ {dc db : Int},distW d.Places d.Roads a c w = some dc → dc ≤ t → distW d.Places d.Roads a b w = some db → t < db → c ∈ d.Places →
    ∃ x y m dx dy,Jn d.Roads w x y m ∧ distW d.Places d.Roads a x w = some dx ∧ distW d.Places d.Roads a y w = some dy ∧ dx ≤ t ∧ t < dy ∧ x ∈ d.Places ∧ y ∈ d.Places:=by
  induction hw with
  | refl a =>
    intro dc db h1 h2 h3 h4 _
    rw [h1] at h3
    have:=Option.some.inj h3
    omega
  | @edge c b m h =>
    intro dc db h1 h2 h3 h4 hc
    exact ⟨c,b,m,dc,db,h,h1,h3,h2,h4,hc,(Jn_mem ok h).2.1⟩
  | @cons c e b m l h _ k ih =>
    intro dc db h1 h2 h3 h4 hc
    have he:=(Jn_mem ok h).2.1
    have wk:=(distW_walk ok ha hc h1).1.trans trivial (.edge h)
    obtain ⟨de,e1,e2⟩:=walk_distW ok ha he wk
    by_cases q : de ≤ t
    · exact ih e1 q h3 h4 he
    · exact ⟨c,e,m,dc,de,h,h1,e1,h2,by omega,hc,he⟩
theorem dist_le_sum (ok : OkR d.Places d.Roads) {a b : Str} (ha : a ∈ d.Places) (hb : b ∈ d.Places) {v : Int} (h : distW d.Places d.Roads a b w = some v) : v ≤ sumM d.Roads:=by
  have hr:=distW_rng ok h
  obtain ⟨hw,_⟩:=distW_walk ok ha hb h
  have h0 : distW d.Places d.Roads a a w = some 0:=by
    obtain ⟨q,q1,q2⟩:=walk_distW (w:=w) ok ha ha (.refl a)
    have:=distW_rng ok q1
    rw [q1]; congr 1; omega
  let Dn : Str → Nat:=fun x=>((distW d.Places d.Roads a x w).getD 0).toNat
  let f : Road → List Nat:=fun r=>(List.range r.Minutes.toNat).map fun k=>min (Dn r.A) (Dn r.B) + k
  have hf : ∀ r,(f r).length = r.Minutes.toNat:=fun r=>by simp [f]
  have hl:=flatLen hf d.Roads ok.lo
  have hle : (List.range v.toNat).length ≤ (d.Roads.flatMap f).length:=by
    refine nodupLen _ _ List.nodup_range fun t ht=>?_
    rw [List.mem_range] at ht
    obtain ⟨x,y,m,dx,dy,q1,q2,q3,q4,q5,q6,q7⟩:=crossing (t:=((t : Nat) : Int)) ok ha hw h0 (by omega) h (by omega) ha
    have rx:=distW_rng ok q2
    have tri : dy ≤ dx + ((m : Nat) : Int):=by
      have:=(distW_walk ok ha q7 q3).2 _ ((distW_walk ok ha q6 q2).1.trans trivial (.edge q1))
      omega
    obtain ⟨r,r1,r2,r3⟩:=q1
    have hx : Dn x = dx.toNat:=by simp [Dn,q2]
    have hy : Dn y = dy.toNat:=by simp [Dn,q3]
    have hmin : min (Dn r.A) (Dn r.B) = dx.toNat:=by
      rw [conn,Bool.and_eq_true,Bool.or_eq_true,Bool.and_eq_true,Bool.and_eq_true] at r2
      simp only [beq_iff_eq] at r2
      rcases r2.1 with ⟨e1,e2⟩ | ⟨e1,e2⟩
      · rw [e1,e2,hx,hy]; omega
      · rw [e1,e2,hx,hy]; omega
    rw [List.mem_flatMap]
    refine ⟨r,r1,?_⟩
    simp only [f,List.mem_map,List.mem_range]
    exact ⟨t - dx.toNat,by omega,by rw [hmin]; omega⟩
  rw [List.length_range] at hle
  omega
def lastT (l : List Item) : Int:=l.foldl (fun a y=>iMax a y.To) 0
theorem iMax_eq (a b : Int) : iMax a b = if a ≤ b then b else a:=by
  unfold iMax
  split <;> split <;> omega
theorem lastT_bound {l : List Item} {B : Int} (hB : 0 ≤ B) (h : ∀ y ∈ l,y.To ≤ B) : 0 ≤ lastT l ∧ lastT l ≤ B ∧ ∀ y ∈ l,y.To ≤ lastT l:=by
  unfold lastT
  suffices ∀ (l : List Item) (a : Int),0 ≤ a → a ≤ B → (∀ y ∈ l,y.To ≤ B) → a ≤ l.foldl (fun a y=>iMax a y.To) a ∧ l.foldl (fun a y=>iMax a y.To) a ≤ B ∧ ∀ y ∈ l,y.To ≤ l.foldl (fun a y=>iMax a y.To) a by
    have:=this l 0 (Int.le_refl _) hB h
    exact ⟨this.1,this.2.1,this.2.2⟩
  intro l
  induction l with
  | nil=>intro a h1 h2 _; exact ⟨Int.le_refl _,h2,fun y hy=>by cases hy⟩
  | cons y l ih =>
    intro a h1 h2 h3
    have hy:=h3 y List.mem_cons_self
    have hm : a ≤ iMax a y.To ∧ y.To ≤ iMax a y.To ∧ iMax a y.To ≤ B:=by
      rw [iMax_eq]; split <;> omega
    obtain ⟨g1,g2,g3⟩:=ih (iMax a y.To) (by omega) hm.2.2 (fun z hz=>h3 z (List.mem_cons_of_mem _ hz))
    rw [List.foldl_cons]
    refine ⟨by omega,g2,fun z hz=>?_⟩
    rcases List.mem_cons.1 hz with rfl | hz
    · omega
    · exact g3 z hz
theorem sumM_take {l : List Road} {v : Nat} (h : v < l.length) : sumM (l.take (v + 1)) = sumM (l.take v) + (ix l v).Minutes:=by
  rw [take_snoc h]
  suffices ∀ (m : List Road) (r : Road),sumM (m ++ [r]) = sumM m + r.Minutes from this _ _
  intro m r
  induction m with
  | nil=>simp [sumM]
  | cons x m ih=>rw [List.cons_append,sumM,sumM,ih]; omega
theorem sumM_bound {l : List Road} {B : Int} (lo : ∀ r ∈ l,1 ≤ r.Minutes) (hi : ∀ r ∈ l,r.Minutes ≤ B) : 0 ≤ sumM l ∧ sumM l ≤ B * ((l.length : Nat) : Int):=by
  induction l with
  | nil=>simp [sumM]
  | cons r l ih =>
    have h1:=lo r List.mem_cons_self
    have h2:=hi r List.mem_cons_self
    obtain ⟨g1,g2⟩:=ih (fun x hx=>lo x (List.mem_cons_of_mem _ hx)) (fun x hx=>hi x (List.mem_cons_of_mem _ hx))
    rw [sumM,List.length_cons]
    have e : B * ((l.length + 1 : Nat) : Int) = B * ((l.length : Nat) : Int) + B:=by
      rw [Int.natCast_add,Int.mul_add]; simp
    rw [e]
    omega
theorem Horizon_ref (ok : OkP d) (hn : 1000 < n) (l : List Item) (hl : l.length ≤ 900) (hit : ∀ y ∈ l,y.To ≤ 1000000 ∧ 0 ≤ y.To) : agrafferef09_Horizon n d l = some (lastT l + (d.Change + sumM d.Roads) + 1):=by
  have hrl:=ok.r.rlen
  have hch:=ok.ch
  have hsb:=sumM_bound (l:=d.Roads) ok.r.lo ok.r.hi
  have hlb:=lastT_bound (l:=l) (B:=1000000) (by omega) (fun y hy=>(hit y hy).1)
  rw [agrafferef09_Horizon]
  simp only [withK_eq]
  refine loop_fold (st:=fun v=>lastT (l.take v)) (len:=l.length) (fun back v hv=>?_) (fun back=>?_) n (by omega) rfl
  · rw [agrafferef09_Horizon_L1]
    simp only [hv,decide_true,cond_true,nI_of (by omega : v + 1 ≤ 9223372036854775807),chk_t]
    rw [take_snoc hv,lastT,lastT,List.foldl_append]
    rfl
  · rw [agrafferef09_Horizon_L1]
    simp only [Nat.lt_irrefl,decide_false,cond_false,List.take_length]
    refine loop_fold (st:=fun v=>d.Change + sumM (d.Roads.take v)) (len:=d.Roads.length) (fun back v hv=>?_) (fun back=>?_) n (by omega) (by simp [sumM])
    · have hb:=sumM_bound (l:=d.Roads.take v) (B:=10000) (fun x hx=>ok.r.lo x (List.take_subset _ _ hx)) (fun x hx=>ok.r.hi x (List.take_subset _ _ hx))
      have hbl : (d.Roads.take v).length ≤ 100:=by simp; omega
      have hlo:=ok.r.lo _ (ix_mem hv)
      have hhi:=ok.r.hi _ (ix_mem hv)
      rw [agrafferef09_Horizon_L2]
      simp only [hv,decide_true,cond_true,nI_of (by omega : v + 1 ≤ 9223372036854775807),chk_t,sumM_take hv]
      rw [chk_of (inI_of (by omega) (by omega)),Int.add_assoc]
    · rw [agrafferef09_Horizon_L2]
      simp only [Nat.lt_irrefl,decide_false,cond_false,List.take_length]
      rw [chk_of (inI_of (by omega) (by omega)),chk_of (inI_of (by omega) (by omega))]
theorem try_in (hd : OkD d) (h0 : diaryD d = 0) (hn : 1000 < n) {l : List Item} (hl : l.length < 100) (hw : ∀ x ∈ l,x.Who.length ≤ 900) (hA : (accL d l).2 = 0) {x : Item} (hx : x.Who.length ≤ 900) (hi : itemD d x = 0) (H : Int) (hH : 0 ≤ H ∧ H ≤ 1000000000) :
    ∀ m f s,iMax x.From H + 1 - s ≤ ((m : Nat) : Int) → m < f → x.From ≤ s → s ≤ iMax x.From H + 1 → (∀ t,t < s → ¬ Feas d l x t) →
      (∃ t,Feas d l x t ∧ (∀ t',t' < t → ¬ Feas d l x t') ∧ loopN (agrafferef09_FreeFrom_L1 n d l x H fun _=>some (-1)) f (s,s + (x.To - x.From)) = some t) ∨
      ((∀ t,t ≤ iMax x.From H → ¬ Feas d l x t) ∧ loopN (agrafferef09_FreeFrom_L1 n d l x H fun _=>some (-1)) f (s,s + (x.To - x.From)) = some (-1)):=by
  have hit:=itemD_ok hi
  have hfr:=hit.fr
  have hto:=hit.to
  have hmx : x.From ≤ iMax x.From H ∧ iMax x.From H ≤ 1000000000:=by rw [iMax_eq]; split <;> omega
  intro m
  induction m with
  | zero =>
    intro f s h1 h2 h3 h4 h5
    obtain ⟨f,rfl⟩ : ∃ q,f = q + 1:=⟨f - 1,by omega⟩
    refine .inr ⟨fun t ht=>h5 t (by omega),?_⟩
    rw [loopN_s,agrafferef09_FreeFrom_L1,decide_eq_false (by omega : ¬ s ≤ iMax x.From H)]; rfl
  | succ m ih =>
    intro f s h1 h2 h3 h4 h5
    obtain ⟨f,rfl⟩ : ∃ q,f = q + 1:=⟨f - 1,by omega⟩
    by_cases c1 : s ≤ iMax x.From H
    · by_cases c2 : s + (x.To - x.From) ≤ 1000000
      · have ee : Item.mk x.Kind s (s + (x.To - x.From)) x.Grand x.Place x.Who x.Deposit = at_ x s:=rfl
        rw [loopN_s,agrafferef09_FreeFrom_L1,decide_eq_true c1,decide_eq_true c2,Bool.and_self,cond_true,ee,Add_ref hd hn l (at_ x s) (by omega) hw hx,addA,h0,hA,addD]
        simp only [bne_self_eq_false,cond_false,decide_eq_false (by omega : ¬ 100 ≤ l.length),Option.bind_some]
        by_cases c3 : (accL d (insS l (at_ x s))).2 = 0
        · rw [c3]
          exact .inl ⟨s,⟨h3,c2,c3⟩,h5,rfl⟩
        · have hb : ((accL d (insS l (at_ x s))).2 == 0) = false:=beq_eq_false_iff_ne.2 c3
          simp only [bne_t c3,cond_true,hb,cond_false]
          rw [chk_of (inI_of (by omega) (by omega)),chk_of (inI_of (by omega) (by omega)),show s + (x.To - x.From) + 1 = s + 1 + (x.To - x.From) by omega]
          refine ih f (s + 1) (by omega) (by omega) (by omega) (by omega) fun t ht hF=>?_
          by_cases e : t = s
          · rw [e] at hF; exact c3 hF.2.2
          · exact h5 t (by omega) hF
      · refine .inr ⟨fun t ht hF=>?_,?_⟩
        · by_cases e : t < s
          · exact h5 t e hF
          · have:=hF.2.1; omega
        · rw [loopN_s,agrafferef09_FreeFrom_L1,decide_eq_false c2,Bool.and_false]; rfl
    · refine .inr ⟨fun t ht=>h5 t (by omega),?_⟩
      rw [loopN_s,agrafferef09_FreeFrom_L1,decide_eq_false c1]; rfl
theorem feas_horizon (ok : OkP d) {l : List Item} (hl : l.length < 100) (hA : (accL d l).2 = 0) {x : Item} (hi : itemD d x = 0) {t : Int} (hF : Feas d l x t) (hmin : ∀ t',t' < t → ¬ Feas d l x t') : t ≤ iMax x.From (lastT l + (d.Change + sumM d.Roads) + 1):=by
  have hok:=(accL_items hA).2
  have hits:=okIts (okF_mem hok)
  have hch:=ok.ch
  have hlb:=lastT_bound (l:=l) (B:=1000000) (by omega) (fun y hy=>(hits y hy).1)
  have hsb:=sumM_bound (l:=d.Roads) ok.r.lo ok.r.hi
  have hF':=(feas_iff hl).1 hF
  obtain ⟨s,hs1⟩ : ∃ s : Nat,t = x.From + (s : Int):=⟨(t - x.From).toNat,by omega⟩
  obtain ⟨c,g1,g2,g3,g4⟩:=feas_least (D:=diaD d) (x:=x) hch.1 hok s t hs1 (fun s h1 h2=>itemD_at hi h1 (by omega)) hF'.2.2
  have hc : Feas d l x c:=(feas_iff hl).2 ⟨g1,by omega,g3⟩
  have hct : c = t:=by
    have : ¬ c < t:=fun q=>hmin c q hc
    omega
  have hmx : x.From ≤ iMax x.From (lastT l + (d.Change + sumM d.Roads) + 1) ∧ lastT l + (d.Change + sumM d.Roads) + 1 ≤ iMax x.From (lastT l + (d.Change + sumM d.Roads) + 1):=by rw [iMax_eq]; split <;> omega
  rcases g4 with g4 | g4
  · omega
  · obtain ⟨y,hy,h⟩:=List.mem_flatMap.1 g4
    have hyo:=itemD_ok (okF_mem hok y hy)
    have hyl:=hlb.2.2 y hy
    have hyf:=hyo.lt
    have hxo:=itemD_ok hi
    have hchD : (diaD d).change = d.Change:=rfl
    have hdD : (diaD d).dist y.Place x.Place 1 = distW d.Places d.Roads y.Place x.Place 1:=rfl
    rw [hchD,hdD] at h
    cases hdd : distW d.Places d.Roads y.Place x.Place 1 with
    | none =>
      rw [hdd] at h
      simp only [List.append_nil,List.mem_cons,List.not_mem_nil,or_false] at h
      omega
    | some q =>
      have hq:=dist_le_sum ok.r hyo.place hxo.place hdd
      rw [hdd] at h
      simp only [List.mem_append,List.mem_cons,List.not_mem_nil,or_false] at h
      omega
theorem near_eq (d : Diary) (l : List Item) (x : Item) (hr : d.Roads.length ≤ 900) (hl : l.length ≤ 900) (hn : 1000 < n) : ∃ b,agraffelaw09_near n d l x = some b ∧ (b = true → (∀ r ∈ d.Roads,r.Minutes ≤ 30) ∧ (∀ y ∈ l,y.To ≤ 200) ∧ d.Change ≤ 30 ∧ x.To ≤ 200):=by
  refine ⟨!(d.Roads.any fun r=>decide (30 < r.Minutes)) && (!(l.any fun y=>decide (200 < y.To)) && (decide (d.Change ≤ 30) && decide (x.To ≤ 200))),?_,fun h=>?_⟩
  · rw [agraffelaw09_near]
    simp only [withK_eq]
    rw [loop_any' (l:=d.Roads) (p:=fun r=>decide (30 < r.Minutes)) (bad:=some false) (no:=some (!(l.any fun y=>decide (200 < y.To)) && (decide (d.Change ≤ 30) && decide (x.To ≤ 200)))) (fun back v hv=>?_) (fun back=>?_) n (by omega)]
    · cases d.Roads.any fun r=>decide (30 < r.Minutes) <;> rfl
    · rw [agraffelaw09_near_L1]
      simp only [hv,decide_true,cond_true,nI_of (by omega : v + 1 ≤ 9223372036854775807),chk_t]
    · rw [agraffelaw09_near_L1]
      simp only [Nat.lt_irrefl,decide_false,cond_false]
      rw [loop_any' (l:=l) (p:=fun y=>decide (200 < y.To)) (bad:=some false) (no:=some (decide (d.Change ≤ 30) && decide (x.To ≤ 200))) (fun back v hv=>?_) (fun back=>?_) n (by omega)]
      · cases l.any fun y=>decide (200 < y.To) <;> rfl
      · rw [agraffelaw09_near_L2]
        simp only [hv,decide_true,cond_true,nI_of (by omega : v + 1 ≤ 9223372036854775807),chk_t]
      · rw [agraffelaw09_near_L2]; simp
  · rw [Bool.and_eq_true,Bool.and_eq_true,Bool.and_eq_true,Bool.not_eq_true',Bool.not_eq_true'] at h
    obtain ⟨h1,h2,h3,h4⟩:=h
    refine ⟨fun r hr=>?_,fun y hy=>?_,of_decide_eq_true h3,of_decide_eq_true h4⟩
    · have:=List.any_eq_false.1 h1 r hr
      simp only [decide_eq_true_eq] at this; omega
    · have:=List.any_eq_false.1 h2 y hy
      simp only [decide_eq_true_eq] at this; omega
theorem pure_DiaryFrees (a0 : Diary) (a1 : List Item) (a2 : Item) (hp : a0.Places.length ≤ 9223372036854775807) (ht : a0.Technicians.length ≤ 9223372036854775807) (h1 : a1.length ≤ 9223372036854775807) :
    agraffelaw09_DiaryFrees (a0.Places.length + a0.Technicians.length + a1.length + 5000) a0 a1 a2 = some true:=by
  have hn : 4000 < a0.Places.length + a0.Technicians.length + a1.length + 5000:=by omega
  obtain ⟨b,hb,hok⟩:=Light_eq (n:=a0.Places.length + a0.Technicians.length + a1.length + 5000) a0 (by omega) (by omega) (by omega) hp ht
  obtain ⟨f,hf,hfok⟩:=Few_eq (n:=a0.Places.length + a0.Technicians.length + a1.length + 5000) a1 (by omega) h1
  have haw : agraffelaw09_awake (a0.Places.length + a0.Technicians.length + a1.length + 5000) = some true:=awake_ok (a0.Places.length + a0.Technicians.length + a1.length + 3000)
  rw [agraffelaw09_DiaryFrees,haw,hb,hf]
  generalize a0.Places.length + a0.Technicians.length + a1.length + 5000 = n at hn
  simp only [Option.bind_some,Bool.not_true,cond_false,gcall_some_,agraffelaw09_slim]
  cases b with
  | false=>simp [gcall]
  | true =>
    cases f with
    | false=>simp [gcall]
    | true =>
      have hd:=hok rfl
      have hL:=hfok rfl
      have hlen:=hL.len
      have hw : ∀ x ∈ a1,x.Who.length ≤ 900:=fun x hx=>by have:=(hL.it x hx).who; omega
      have hrl:=hd.roads
      simp only [Bool.not_true,Bool.not_false,Bool.false_or,cond_true]
      cases hmany : (decide (6 < a1.length)) && (decide (a1.length ≤ 100)) with
      | true=>simp [gcall]
      | false =>
        have e : (((decide (a2.Grand.length ≤ 30)) && (decide (a2.Place.length ≤ 30))) && (decide (a2.Who.length ≤ 30))) = slimB a2:=rfl
        simp only [e,Bool.false_or]
        cases hs : slimB a2 with
        | false=>simp [gcall]
        | true =>
          have hx:=(slimB_ok hs).who
          obtain ⟨g,hg,hgok⟩:=near_eq (n:=n) a0 a1 a2 (by omega) (by omega) (by omega)
          simp only [Bool.not_true,Bool.not_false,hg,gcall_some_,Option.bind_some,cond_true,Bool.false_or]
          cases g with
          | false=>rfl
          | true =>
            obtain ⟨n1,n2,n3,n4⟩:=hgok rfl
            have hp':=hd.places
            have ht':=hd.techs
            have hg':=hd.grands
            simp only [Bool.not_true,cond_false,town_ok a0 _ hd,(items_ok (n:=n) (l:=a1) (by omega)).2,Option.bind_some,Accept_ref hd (by omega : 1000 < n) a1 (by omega) hw,withK_eq,
              CheckItem_ref (n:=n) a0 a2 (by omega) (by omega) (by omega) (by omega) (by omega)]
            by_cases hall : diaryD a0 = 0 ∧ (accL a0 a1).2 = 0 ∧ a1.length < 100 ∧ itemD a0 a2 = 0
            · obtain ⟨h0,hA,hl,hi⟩:=hall
              have ok:=okP h0
              have hok1:=(accL_items hA).2
              have hits:=okIts (okF_mem hok1)
              have hch:=ok.ch
              have hit:=itemD_ok hi
              have hfr:=hit.fr
              have hlt:=hit.lt
              have hsb:=sumM_bound (l:=a0.Roads) ok.r.lo n1
              have hlb:=lastT_bound (l:=a1) (B:=200) (by omega) n2
              have hacc : (acceptD a0 a1).2 = 0:=acceptD_ok.2 ⟨h0,hA⟩
              rw [hacc,hi]
              simp only [beq_self_eq_true,cond_true,bne_self_eq_false,cond_false]
              have hH:=Horizon_ref ok (by omega : 1000 < n) a1 (by omega) hits
              have hmx : iMax a2.From (lastT a1 + (a0.Change + sumM a0.Roads) + 1) ≤ 3000:=by rw [iMax_eq]; split <;> omega
              have e0 : a2.To = a2.From + (a2.To - a2.From):=by omega
              have hT:=try_in hd h0 (by omega : 1000 < n) hl hw hA (by omega : a2.Who.length ≤ 900) hi (lastT a1 + (a0.Change + sumM a0.Roads) + 1) (by omega) 3001 n a2.From (by omega) (by omega) (Int.le_refl _)
                (by have : a2.From ≤ iMax a2.From (lastT a1 + (a0.Change + sumM a0.Roads) + 1):=(by rw [iMax_eq]; split <;> omega); omega) (fun t ht hF=>by have:=hF.1; omega)
              rw [← e0] at hT
              rw [agrafferef09_FreeFrom,hH]
              simp only [Option.bind_some,withK_eq]
              rcases FreeFrom_eq hd h0 (by omega : 1000 < n) a1 a2 hl hw (by omega) hA hi with ⟨t,q1,q2,q3⟩ | ⟨q1,q2⟩
              · have hhor:=feas_horizon ok hl hA hi q1 q2
                rw [q3]
                rcases hT with ⟨t2,r1,r2,r3⟩ | ⟨r1,r2⟩
                · rw [r3]
                  have : t = t2:=by
                    have c1 : ¬ t < t2:=fun c=>r2 t c q1
                    have c2 : ¬ t2 < t:=fun c=>q2 t2 c r1
                    omega
                  subst this
                  have:=q1.1
                  simp only [Option.bind_some,decide_eq_false (by omega : ¬ t < 0),cond_false,beq_self_eq_true,Bool.and_self]
                · exact absurd q1 (r1 t hhor)
              · rw [q2]
                rcases hT with ⟨t2,r1,r2,r3⟩ | ⟨r1,r2⟩
                · exact absurd r1 (q1 t2)
                · rw [r2]; rfl
            · rw [FreeFrom_bad hd (by omega : 1000 < n) a1 a2 (by omega) hw (by omega) hall,acceptD]
              by_cases h0 : diaryD a0 = 0
              · rw [h0]
                simp only [bne_self_eq_false,cond_false]
                by_cases hA : (accL a0 a1).2 = 0
                · have hl100:=(accL_items hA).1
                  have hl6 : a1.length ≤ 6:=by
                    simp only [Bool.and_eq_false_iff,decide_eq_false_iff_not] at hmany
                    omega
                  have hi : itemD a0 a2 ≠ 0:=fun c=>hall ⟨h0,hA,by omega,c⟩
                  rw [hA]
                  simp only [bne_self_eq_false,cond_false,decide_eq_false (by omega : ¬ 100 ≤ a1.length),beq_self_eq_true,cond_true,bne_t hi,Option.bind_some,Bool.and_self]
                · have : ((accL a0 a1).2 == 0) = false:=beq_eq_false_iff_ne.2 hA
                  simp only [bne_t hA,cond_true,this,cond_false,Option.bind_some,beq_self_eq_true,Bool.and_self]
              · have : (diaryD a0 == 0) = false:=beq_eq_false_iff_ne.2 h0
                simp only [bne_t h0,cond_true,this,cond_false,Option.bind_some,beq_self_eq_true,Bool.and_self]
end
end Go.Proofs.YtpmkdgnhllhaeaaGreat.As
