/- What the functions compute, on plain data, and what follows from it, part 2: no condition. -/
import Derived.Test.YtpmkdgnhllhaeaaGreatPlain1
namespace Go.Proofs.YtpmkdgnhllhaeaaGreat.As
open Go
section
set_option maxRecDepth 4000
open Go
variable {d : Diary} {n : Nat}
theorem itemD_dep {x : Item} (h : itemD d x = 0) : (x.Kind ≠ 3 → x.Deposit = 0) ∧ 0 ≤ x.Deposit ∧ x.Deposit ≤ 1000000000:=by
  have o:=itemD_ok h
  have hkn:=itemD_known h
  have hk:=o.kind
  have hf:=o.fr
  have ht:=o.to
  have hl:=o.lt
  have e0 : zbc 0 3 x.Kind = true:=by rw [zbc,decide_eq_true hk.1,decide_eq_true hk.2]; rfl
  have e1 : zbc 0 1000000 x.From = true:=by rw [zbc,decide_eq_true hf.1,decide_eq_true hf.2]; rfl
  have e2 : zbc 0 1000000 x.To = true:=by rw [zbc,decide_eq_true ht.1,decide_eq_true ht.2]; rfl
  have e3 : decide (x.To ≤ x.From) = false:=decide_eq_false (by omega)
  have e4 : d.Pcs.any (isS x.Place) = true:=by rw [List.any_eq_true]; exact ⟨x.Place,o.place,by rw [isS,beq_self_eq_true]⟩
  rw [itemD,e0,e1,e2,e3,hkn,e4] at h
  simp only [Bool.not_true,Bool.or_self,cond_false] at h
  cases e5 : (x.Kind == 0) && (!d.Tc.any (isS x.Who)) with
  | true=>rw [e5] at h; simp at h
  | false =>
    rw [e5,cond_false] at h
    by_cases e6 : x.Kind = 3
    · have e6b : (x.Kind == 3) = true:=by rw [e6]; rfl
      rw [e6b,cond_true] at h
      cases e7 : nameB x.Who with
      | false=>rw [e7] at h; simp at h
      | true =>
        cases e8 : zbc 0 1000000000 x.Deposit with
        | false=>rw [e7,e8] at h; simp at h
        | true =>
          simp only [zbc,Bool.and_eq_true,decide_eq_true_eq] at e8
          exact ⟨fun c=>absurd e6 c,e8.1,e8.2⟩
    · have e6b : (x.Kind == 3) = false:=beq_eq_false_iff_ne.2 e6
      rw [e6b,cond_false] at h
      by_cases e7 : x.Deposit = 0
      · exact ⟨fun _=>e7,by omega,by omega⟩
      · rw [zdx e7] at h; simp at h
def depS (l : List Item) (t : Int) : Int:=l.foldl (fun a y=>bif (decide (y.From ≤ t)) && (decide (t < y.To)) then a + y.Deposit else a) 0
theorem depS_snoc (l : List Item) (y : Item) (t : Int) : depS (l ++ [y]) t = bif (decide (y.From ≤ t)) && (decide (t < y.To)) then depS l t + y.Deposit else depS l t:=by
  rw [depS,List.foldl_append]; rfl
theorem depS_bound {l : List Item} {t : Int} (h : ∀ y ∈ l,0 ≤ y.Deposit ∧ y.Deposit ≤ 1000000000) : ∀ v,v ≤ l.length → 0 ≤ depS (l.take v) t ∧ depS (l.take v) t ≤ 1000000000 * ((v : Nat) : Int)
  | 0,_=>by simp [depS]
  | v + 1,hv=>by
    obtain ⟨h1,h2⟩:=depS_bound (t:=t) h v (by omega)
    have hy:=h _ (zby (show v < l.length by omega))
    rw [zbr (by omega),depS_snoc]
    cases (decide ((ix l v).From ≤ t)) && (decide (t < (ix l v).To)) with
    | true=>simp only [cond_true]; omega
    | false=>simp only [cond_false]; omega
theorem Dep_ref (hn : 1000 < n) (l : List Item) (hl : l.length ≤ 900) (h : ∀ y ∈ l,0 ≤ y.Deposit ∧ y.Deposit ≤ 1000000000) (t : Int) : q24k n l t = some (depS l t):=by
  rw [q24k,zaf]
  refine loop_fold (st:=fun v=>depS (l.take v) t) (len:=l.length) (fun back v hv=>?_) (fun back=>?_) n (by omega) rfl
  · have hb:=depS_bound (t:=t) h v (Nat.le_of_lt hv)
    have hy:=h _ (zby hv)
    rw [q44k]
    simp only [hv,decide_true,cond_true,zaf,zch (by omega : v + 1 ≤ 9223372036854775807),zbf,zfd (by omega : -9223372036854775808 ≤ depS (l.take v) t + (ix l v).Deposit) (by omega),zbr hv,depS_snoc]
    cases (decide ((ix l v).From ≤ t)) && (decide (t < (ix l v).To)) <;> rfl
  · rw [q44k]; simp
def depD (d : Diary) (l : List Item) (t : Int) : Int × Int:=bif zcp d != 0 then (zcp d,0) else bif (accL d l).2 != 0 then ((accL d l).2,0) else bif !zbc 0 1000000 t then (2,0) else (0,depS l t)
theorem Deposits_eq (hd : OkD d) (hn : 1000 < n) (l : List Item) (hl : l.length ≤ 900) (hw : ∀ x ∈ l,x.Who.length ≤ 900) (t : Int) : zeq n d l t = some (depD d l t):=by
  rw [zeq,depD]
  rcases read_eq hd hn l hl hw with ⟨h1,h2⟩ | ⟨h1,c,h2,h3⟩
  · rw [h2]
    simp only [zaf,Option.bind_some,zdx h1,cond_true]
  · rw [h2,h1]
    simp only [zaf,Option.bind_some,bne_self_eq_false,cond_false]
    by_cases ha : (accL d l).2 = 0
    · rw [ha]
      have hz:=okF_mem (accL_items ha).2
      have hdp : ∀ y ∈ l,0 ≤ y.Deposit ∧ y.Deposit ≤ 1000000000:=fun y hy=>(itemD_dep (hz y hy)).2
      simp only [bne_self_eq_false,cond_false,zbh,zav,Option.bind_some]
      have e : ((decide (0 ≤ t)) && (decide (t ≤ 1000000))) = zbc 0 1000000 t:=rfl
      rw [e]
      cases zbc 0 1000000 t with
      | false=>rfl
      | true =>
        simp only [Bool.not_true,cond_false]
        refine loop_fold (st:=fun v=>depS (l.take v) t) (len:=l.length) (fun back v hv=>?_) (fun back=>?_) n (by omega) rfl
        · have hb:=depS_bound (t:=t) hdp v (Nat.le_of_lt hv)
          have hy:=itemD_dep (hz _ (zby hv))
          rw [zel]
          simp only [hv,decide_true,cond_true,zaf,zch (by omega : v + 1 ≤ 9223372036854775807),zbf,zfd (by omega : -9223372036854775808 ≤ depS (l.take v) t + (ix l v).Deposit) (by omega),zbr hv,depS_snoc]
          by_cases hk : (ix l v).Kind = 3
          · rw [hk,beq_self_eq_true,Bool.true_and]
            cases (decide ((ix l v).From ≤ t)) && (decide (t < (ix l v).To)) <;> rfl
          · have hkb : ((ix l v).Kind == 3) = false:=beq_eq_false_iff_ne.2 hk
            rw [hkb,Bool.false_and,Bool.false_and,cond_false,hy.1 hk,Int.add_zero]
            cases (decide ((ix l v).From ≤ t)) && (decide (t < (ix l v).To)) <;> rfl
        · rw [zel]; simp
    · simp only [zdx ha,cond_true]
def busyB (g : Bool) (s : Str) (y : Item) : Bool:=(g && (y.Grand == s)) || (((!g) && (y.Kind == 0)) && (y.Who == s))
def timesS (g : Bool) (s : Str) (l : List Item) : List A2i:=(l.filter (busyB g s)).map fun y=>A2i.mk y.From y.To
theorem timesS_snoc (g : Bool) (s : Str) (l : List Item) (y : Item) : timesS g s (l ++ [y]) = bif busyB g s y then timesS g s l ++ [A2i.mk y.From y.To] else timesS g s l:=by
  rw [timesS,List.filter_append,List.map_append,List.filter_cons]
  cases busyB g s y <;> simp [timesS]
theorem timesS_len (g : Bool) (s : Str) (l : List Item) : (timesS g s l).length ≤ l.length:=by
  rw [timesS,List.length_map]; exact List.length_filter_le _ _
theorem times_rise (ok : OkP d) {l : List Item} (hF : okF (diaD d) [] l) (g : Bool) (s : Str) : ∀ v,v ≤ l.length → (timesS g s (l.take v)).Pairwise (fun a b=>a.a0 < b.a0) ∧ ∀ b ∈ timesS g s (l.take v),∃ k,k < v ∧ busyB g s (ix l k) = true ∧ b.a0 = (ix l k).From
  | 0,_=>by simp [timesS]
  | v + 1,hv=>by
    have hch:=ok.ch
    obtain ⟨h1,h2⟩:=times_rise ok hF g s v (by omega)
    rw [zbr (by omega),timesS_snoc]
    cases hb : busyB g s (ix l v) with
    | false =>
      rw [cond_false]
      exact ⟨h1,fun b hbm=>by obtain ⟨k,k1,k2,k3⟩:=h2 b hbm; exact ⟨k,by omega,k2,k3⟩⟩
    | true =>
      rw [cond_true]
      refine ⟨List.pairwise_append.2 ⟨h1,List.pairwise_singleton _ _,fun a ha b hbm=>?_⟩,fun b hbm=>?_⟩
      · rw [List.mem_singleton] at hbm
        subst hbm
        obtain ⟨k,k1,k2,k3⟩:=h2 a ha
        rw [k3]
        have hkl : k < l.length:=by omega
        have hlt:=(okIt_at hF hkl).lt
        have key : (ix l k).To ≤ (ix l v).From:=by
          cases g with
          | true =>
            simp only [busyB,Bool.true_and,Bool.not_true,Bool.false_and,Bool.or_false,beq_iff_eq] at hb k2
            have:=pairOf ok hF (by omega : v < l.length) k1 (by rw [k2,hb])
            omega
          | false =>
            simp only [busyB,Bool.false_and,Bool.not_false,Bool.true_and,Bool.false_or,Bool.and_eq_true,beq_iff_eq] at hb k2
            have he:=okF_at hF (show v < l.length by omega)
            rw [ix_getE (by omega)] at he
            have h5:=travelsE_zero.1 (errS_zero.1 he).2.2.2.2.1 hb.1 (ix l k) (ix_take_mem (by omega) k1)
            rw [farE,k2.1,k2.2,hb.2] at h5
            simp only [beq_self_eq_true,Bool.and_self,Bool.true_and] at h5
            have hdD : (diaD d).dist (ix l k).Place (ix l v).Place 1 = distW d.Pcs d.Roads (ix l k).Place (ix l v).Place 1:=rfl
            rw [hdD] at h5
            cases hdd : distW d.Pcs d.Roads (ix l k).Place (ix l v).Place 1 with
            | none=>rw [hdd] at h5; cases h5
            | some q =>
              have hq:=distW_rng ok.r hdd
              rw [hdd] at h5
              have:=of_decide_eq_false h5
              omega
        show (ix l k).From < (ix l v).From
        omega
      · rcases List.mem_append.1 hbm with hbm | hbm
        · obtain ⟨k,k1,k2,k3⟩:=h2 b hbm
          exact ⟨k,by omega,k2,k3⟩
        · rw [List.mem_singleton] at hbm
          subst hbm
          exact ⟨v,by omega,hb,rfl⟩
theorem cmp_gt {a b : Int} (h : b < a) : q50k n a b = some 1:=by
  rw [q50k]
  simp only [q96k,Option.bind_some,bne_self_eq_false,cond_false,decide_eq_false (by omega : ¬ a < b),decide_eq_true h,cond_true]
theorem cmp_some (a b : Int) : ∃ r,q50k n a b = some r:=by
  rw [q50k]
  simp only [q96k,Option.bind_some,bne_self_eq_false,cond_false]
  cases decide (a < b) with
  | true=>exact ⟨_,rfl⟩
  | false=>cases decide (b < a) <;> exact ⟨_,rfl⟩
theorem busyCmp (hn : 1000 < n) {x y : A2i} (h : y.a0 < x.a0) : diary_Busy_f1 n x y = some 1:=by
  obtain ⟨r,hr⟩:=cmp_some (n:=n) x.a1 y.a1
  obtain ⟨n',rfl⟩ : ∃ q,n = q + 1:=⟨n - 1,by omega⟩
  rw [diary_Busy_f1,cmp_gt h,hr]
  simp only [Option.bind_some,q152k,zaf]
  rw [zct,q141k]
  rfl
theorem insertion_id (hn : 1000 < n) {t : List A2i} (hl : t.length ≤ 900) (ht : t.Pairwise (fun a b=>a.a0 < b.a0)) : q6k n t 0 ((t.length : Nat) : Int) = some t:=by
  rw [q6k]
  have R : ∀ m v f,v + m = t.length → 1 ≤ v → m < f → loopN (q2k n 0 ((t.length : Nat) : Int)) f (((v : Nat) : Int),t) = some t:=by
    intro m
    induction m with
    | zero =>
      intro v f h1 h2 h3
      obtain ⟨f,rfl⟩ : ∃ q,f = q + 1:=⟨f - 1,by omega⟩
      rw [zct,q2k,decide_eq_false (by omega : ¬ ((v : Nat) : Int) < ((t.length : Nat) : Int))]; rfl
    | succ m ih =>
      intro v f h1 h2 h3
      obtain ⟨f,rfl⟩ : ∃ q,f = q + 1:=⟨f - 1,by omega⟩
      have hv : v < t.length:=by omega
      have hlt : (ix t (v - 1)).a0 < (ix t v).a0:=by
        have:=List.pairwise_iff_getElem.1 ht (v - 1) v (by omega) hv (by omega)
        rw [zdl (by omega),zdl hv]; exact this
      rw [zct,q2k,decide_eq_true (by omega : ((v : Nat) : Int) < ((t.length : Nat) : Int)),cond_true]
      simp only [zaf]
      obtain ⟨n',hn'⟩ : ∃ q,n = q + 1:=⟨n - 1,by omega⟩
      have one : ∀ k : List A2i → Option (List A2i),loopN (q7k n 0 k) n (((v : Nat) : Int),t) = k t:=fun k=>by
        conv=>lhs; arg 2; rw [hn']
        rw [zct,q7k]
        have e1 : (((v : Nat) : Int) - 1).toNat = v - 1:=by omega
        simp only [decide_eq_true (by omega : (0 : Int) < ((v : Nat) : Int)),Int.toNat_natCast,e1,inB_of (by omega : (0 : Int) ≤ ((v : Nat) : Int)) (by simpa using hv),decide_eq_true hv,zfd (by omega : -9223372036854775808 ≤ ((v : Nat) : Int) - 1) (by omega),
          inB_of (by omega : (0 : Int) ≤ ((v : Nat) : Int) - 1) (by rw [e1]; omega : (((v : Nat) : Int) - 1).toNat < t.length),decide_eq_true (by omega : v - 1 < t.length),Bool.or_true,zbf,busyCmp hn hlt,zbd,Option.bind_some,cond_true,Bool.true_and]
        rfl
      rw [one,chk_of (zfd (by omega) (by omega))]
      exact ih (v + 1) f (by omega) (by omega) (by omega)
  rw [chk_of (zfd (by omega) (by omega))]
  by_cases h0 : t.length = 0
  · obtain ⟨n',hn'⟩ : ∃ q,n = q + 1:=⟨n - 1,by omega⟩
    conv=>lhs; arg 2; rw [hn']
    rw [zct,q2k,decide_eq_false (by omega : ¬ (0 : Int) + 1 < ((t.length : Nat) : Int))]; rfl
  · exact R (t.length - 1) 1 n (by omega) (Nat.le_refl _) (by omega)
theorem len_some : ∀ k,k ≤ 12 → ∃ r,q87k n (IntKind.u64.wrap ((k : Nat) : Int)) = some r:=by
  have h : (List.range 13).all (fun k=>(q87k 0 (IntKind.u64.wrap ((k : Nat) : Int))).isSome) = true:=by decide +kernel
  intro k hk
  have h1:=List.all_eq_true.1 h k (List.mem_range.2 (by omega))
  have e : q87k n (IntKind.u64.wrap ((k : Nat) : Int)) = q87k 0 (IntKind.u64.wrap ((k : Nat) : Int)):=rfl
  rw [e]
  exact Option.isSome_iff_exists.1 h1
theorem sort_id (hn : 1000 < n) {t : List A2i} (hl : t.length ≤ 12) (ht : t.Pairwise (fun a b=>a.a0 < b.a0)) : q53k n t = some t:=by
  obtain ⟨r,hr⟩:=len_some (n:=n) t.length hl
  have hp : q15k n t 0 ((t.length : Nat) : Int) r = some t:=by
    obtain ⟨n',hn'⟩ : ∃ q,n = q + 1:=⟨n - 1,by omega⟩
    rw [q15k]
    conv=>lhs; arg 2; rw [hn']
    rw [zct,q49k,chk_of (zfd (by omega) (by omega)),decide_eq_true (by omega : ((t.length : Nat) : Int) - 0 ≤ 12),cond_true,insertion_id hn (by omega) ht]
    simp only [Option.bind_some,decide_true,zbf]
  rw [q53k,hr]
  simp only [Option.bind_some,hp,decide_true,zbf]
def isGr (d : Diary) (s : Str) : Bool:=d.Gds.any (isG s)
def busyD (d : Diary) (l : List Item) (s : Str) : Int × List A2i :=
  bif zcp d != 0 then (zcp d,[]) else bif (accL d l).2 != 0 then ((accL d l).2,[]) else bif (!isGr d s) && (!d.Tc.any (isS s)) then (6,[]) else (0,timesS (isGr d s) s l)
theorem Busy_eq (hd : OkD d) (hn : 1000 < n) (l : List Item) (hl : l.length ≤ 900) (hl2 : (accL d l).2 = 0 → l.length ≤ 10) (hw : ∀ x ∈ l,x.Who.length ≤ 900) (s : Str) : diary_Busy n d l s = some (busyD d l s):=by
  have htl:=hd.techs
  rw [diary_Busy,busyD]
  rcases read_eq hd hn l hl hw with ⟨h1,h2⟩ | ⟨h1,c,h2,h3⟩
  · rw [h2]
    simp only [zaf,Option.bind_some,zdx h1,cond_true]
  · rw [h2,h1]
    simp only [zaf,Option.bind_some,bne_self_eq_false,cond_false]
    by_cases ha : (accL d l).2 = 0
    · have ok:=okP h1
      have hF:=(accL_items ha).2
      have hl10:=hl2 ha
      rw [ha,grandP ok hn s,Contains_eq (n:=n) d.Tc s (by omega) (by omega)]
      have hG : (grandT (zbz d.Gds s)).2.2.2 = isGr d s:=by
        rw [isGr,← grandOf_some]
        cases zbz d.Gds s <;> rfl
      simp only [bne_self_eq_false,cond_false,Option.bind_some,zbd,hG]
      have hdef : (default : Bool) = false:=rfl
      rw [hdef]
      have hcond : ((!isGr d s) && (!(bif !isGr d s then d.Tc.any (isS s) else false))) = ((!isGr d s) && (!d.Tc.any (isS s))):=by cases isGr d s <;> rfl
      rw [hcond]
      cases (!isGr d s) && (!d.Tc.any (isS s)) with
      | true=>rfl
      | false =>
        simp only [cond_false]
        have hpw:=(times_rise ok hF (isGr d s) s l.length (Nat.le_refl _)).1
        rw [List.take_length] at hpw
        have htl2:=timesS_len (isGr d s) s l
        refine loop_fold (st:=fun v=>timesS (isGr d s) s (l.take v)) (len:=l.length) (fun back v hv=>?_) (fun back=>?_) n (by omega) rfl
        · have hlt:=timesS_len (isGr d s) s (l.take v)
          have hlt2 : (l.take v).length ≤ 900:=by simp; omega
          have hro : room 16 (timesS (isGr d s) s (l.take v) ++ [A2i.mk (ix l v).From (ix l v).To]).length = true:=room_of (by simp; omega) (by simp; omega)
          rw [diary_Busy_L1]
          simp only [hv,decide_true,cond_true,zaf,zch (by omega : v + 1 ≤ 9223372036854775807),zbf,hro,hG,zbr hv,timesS_snoc]
          show (bif busyB (isGr d s) s (ix l v) then _ else _) = _
          cases busyB (isGr d s) s (ix l v) <;> rfl
        · rw [diary_Busy_L1]
          simp only [Nat.lt_irrefl,decide_false,cond_false,List.take_length,sort_id hn (by omega : (timesS (isGr d s) s l).length ≤ 12) hpw,Option.bind_some,decide_true,zbf]
    · simp only [zdx ha,cond_true]
theorem Busy_ref (hd : OkD d) (hn : 1000 < n) (l : List Item) (hl : l.length ≤ 900) (s : Str) : q78k n d l s = some (bif (!isGr d s) && (!d.Tc.any (isS s)) then ([],false) else (timesS (isGr d s) s l,true)):=by
  have htl:=hd.techs
  have hgl:=hd.grands
  rw [q78k,GrandAt_eq (n:=n) d s (by omega) (by omega),HasText_eq (n:=n) d.Tc s (by omega) (by omega)]
  have e : decide ((0 : Int) ≤ zdm (isG s) d.Gds) = isGr d s:=findI_any _ _
  simp only [Option.bind_some,zbd,e,zaf]
  have hdef : (default : Bool) = false:=rfl
  rw [hdef]
  have hcond : ((!isGr d s) && (!(bif !isGr d s then d.Tc.any (isS s) else false))) = ((!isGr d s) && (!d.Tc.any (isS s))):=by cases isGr d s <;> rfl
  rw [hcond]
  cases (!isGr d s) && (!d.Tc.any (isS s)) with
  | true=>rfl
  | false =>
    simp only [cond_false]
    refine loop_fold (st:=fun v=>timesS (isGr d s) s (l.take v)) (len:=l.length) (fun back v hv=>?_) (fun back=>?_) n (by omega) rfl
    · have hlt:=timesS_len (isGr d s) s (l.take v)
      have hlt2 : (l.take v).length ≤ 900:=by simp; omega
      have hro : room 16 (timesS (isGr d s) s (l.take v) ++ [A2i.mk (ix l v).From (ix l v).To]).length = true:=room_of (by simp; omega) (by simp; omega)
      rw [q76k]
      simp only [hv,decide_true,cond_true,zaf,zch (by omega : v + 1 ≤ 9223372036854775807),zbf,hro,e,zbr hv,timesS_snoc]
      show (bif busyB (isGr d s) s (ix l v) then _ else _) = _
      cases busyB (isGr d s) s (ix l v) <;> rfl
    · rw [q76k]; simp
theorem PlaceOf_ref (hd : OkD d) (hn : 1000 < n) (l : List Item) (hl : l.length ≤ 900) (m : Moment) (hg : d.Gds.any (isG m.Grand) = true) : q31k n d l m = some (bif l.any (runsM m.Grand m.Minute) then [] else zbx (diaD d) l m.Grand m.Minute):=by
  rw [q31k,zaf,loop_any' (l:=l) (p:=runsM m.Grand m.Minute) (bad:=some []) (no:=some (zbx (diaD d) l m.Grand m.Minute)) (fun back v hv=>?_) (fun back=>?_) n (by omega)]
  · cases l.any (runsM m.Grand m.Minute) <;> rfl
  · rw [q55k]
    simp only [hv,decide_true,cond_true,zch (by omega : v + 1 ≤ 9223372036854775807),zbf]
    rfl
  · rw [q55k]
    simp only [Nat.lt_irrefl,decide_false,cond_false,Stands_ref hd hn l hl hg,Option.bind_some]
theorem same_times (t : List A2i) (hl : t.length ≤ 900) (hn : 1000 < n) (e : Int) (b : Bool) (k : Unit → Option Bool) : loopN (q12k (e,t) (t,b) k) n 0 = k ():=by
  refine loop_through (st:=fun v=>v) (len:=t.length) (fun back v hv=>?_) (fun back=>?_) n (by omega)
  · rw [q12k]
    simp only [hv,decide_true,cond_true,zbf,beq_self_eq_true,Bool.and_self,Bool.not_true,cond_false,zch (by omega : v + 1 ≤ 9223372036854775807)]
  · rw [q12k]; simp
theorem pure_DiaryPlaces (a0 : Diary) (a1 : List Item) (a2 : Moment) (hp : a0.Pcs.length ≤ 9223372036854775807) (ht : a0.Tc.length ≤ 9223372036854775807) (h1 : a1.length ≤ 9223372036854775807) :
    q43k (a0.Pcs.length + a0.Tc.length + a1.length + 2000) a0 a1 a2 = some true:=by
  have hn : 1000 < a0.Pcs.length + a0.Tc.length + a1.length + 2000:=by omega
  obtain ⟨b,hb,hok⟩:=Light_eq (n:=a0.Pcs.length + a0.Tc.length + a1.length + 2000) a0 hn (by omega) (by omega) hp ht
  obtain ⟨f,hf,hfok⟩:=Few_eq (n:=a0.Pcs.length + a0.Tc.length + a1.length + 2000) a1 (by omega) h1
  rw [q43k,awake_ok,hb,hf]
  generalize a0.Pcs.length + a0.Tc.length + a1.length + 2000 = n at hn
  simp only [Option.bind_some,Bool.not_true,cond_false,zbd]
  cases b with
  | false=>rfl
  | true =>
    cases f with
    | false=>rfl
    | true =>
      have hd:=hok rfl
      have hL:=hfok rfl
      have hlen:=hL.len
      have hgl:=hd.grands
      have hw : ∀ x ∈ a1,x.Who.length ≤ 900:=fun x hx=>by have:=(hL.it x hx).who; omega
      have hl10 : (accL a0 a1).2 = 0 → a1.length ≤ 10:=fun h=>by have:=(accL_items h).1; have:=hL.few; omega
      simp only [Bool.not_true,Bool.not_false,Bool.false_or,cond_true]
      cases hlim : decide (30 < a2.Grand.length) with
      | true=>rfl
      | false =>
        simp only [cond_false,town_ok a0 _ hd,(items_ok (n:=n) (l:=a1) (by omega)).2,Option.bind_some,PlaceOf_eq hd hn a1 (by omega) hw,Busy_eq hd hn a1 (by omega) hl10 hw,Deposits_eq hd hn a1 (by omega) hw,Accept_ref hd hn a1 (by omega) hw]
        by_cases hacc : (acceptD a0 a1).2 = 0
        · obtain ⟨h0,hA⟩:=acceptD_ok.1 hacc
          have ok:=okP h0
          have hz:=okF_mem (accL_items hA).2
          have hdp : ∀ y ∈ a1,0 ≤ y.Deposit ∧ y.Deposit ≤ 1000000000:=fun y hy=>(itemD_dep (hz y hy)).2
          rw [hacc,placeOfD,busyD,depD,h0,hA]
          have hGA : decide (zdm (isG a2.Grand) a0.Gds < 0) = !isGr a0 a2.Grand:=findI_none _ _
          have eM : ((decide (0 ≤ a2.Minute)) && (decide (a2.Minute ≤ 1000000))) = zbc 0 1000000 a2.Minute:=rfl
          have hgr : a0.Gds.any (isG a2.Grand) = isGr a0 a2.Grand:=rfl
          have htm:=timesS_len (isGr a0 a2.Grand) a2.Grand a1
          have fin : ((q4k n a0 a2.Grand).bind fun y18 =>
                  bif decide (y18 < (0 : Int)) then
                    some (((bif !isGr a0 a2.Grand then ((6 : Int),([] : Str)) else bif !zbc 0 1000000 a2.Minute then (2,[]) else bif a1.any (runsM a2.Grand a2.Minute) then (0,[]) else (0,zbx (diaD a0) a1 a2.Grand a2.Minute)).1 == (6 : Int)) && ((bif !isGr a0 a2.Grand then ((6 : Int),([] : Str)) else bif !zbc 0 1000000 a2.Minute then (2,[]) else bif a1.any (runsM a2.Grand a2.Minute) then (0,[]) else (0,zbx (diaD a0) a1 a2.Grand a2.Minute)).2 == ([] : Str)))
                  else
                    (q3k n a2.Minute).bind fun y19 =>
                    bif !((decide (0 ≤ a2.Minute)) && (decide (a2.Minute ≤ 1000000))) then
                      some (((bif !isGr a0 a2.Grand then ((6 : Int),([] : Str)) else bif !zbc 0 1000000 a2.Minute then (2,[]) else bif a1.any (runsM a2.Grand a2.Minute) then (0,[]) else (0,zbx (diaD a0) a1 a2.Grand a2.Minute)).1 == (2 : Int)) && ((bif !isGr a0 a2.Grand then ((6 : Int),([] : Str)) else bif !zbc 0 1000000 a2.Minute then (2,[]) else bif a1.any (runsM a2.Grand a2.Minute) then (0,[]) else (0,zbx (diaD a0) a1 a2.Grand a2.Minute)).2 == ([] : Str)))
                    else
                      (zeh ((bif !isGr a0 a2.Grand then ((6 : Int),([] : Str)) else bif !zbc 0 1000000 a2.Minute then (2,[]) else bif a1.any (runsM a2.Grand a2.Minute) then (0,[]) else (0,zbx (diaD a0) a1 a2.Grand a2.Minute)).1 == (0 : Int)) (q31k n a0 a1 a2)).bind fun y20 =>
                      some (((bif !isGr a0 a2.Grand then ((6 : Int),([] : Str)) else bif !zbc 0 1000000 a2.Minute then (2,[]) else bif a1.any (runsM a2.Grand a2.Minute) then (0,[]) else (0,zbx (diaD a0) a1 a2.Grand a2.Minute)).1 == (0 : Int)) && ((bif !isGr a0 a2.Grand then ((6 : Int),([] : Str)) else bif !zbc 0 1000000 a2.Minute then (2,[]) else bif a1.any (runsM a2.Grand a2.Minute) then (0,[]) else (0,zbx (diaD a0) a1 a2.Grand a2.Minute)).2 == y20))) = some true:=by
            rw [GrandAt_eq (n:=n) a0 a2.Grand (by omega) (by omega)]
            simp only [Option.bind_some,hGA,q3k,q1k,eM]
            cases hg : isGr a0 a2.Grand with
            | false=>rfl
            | true =>
              cases zbc 0 1000000 a2.Minute with
              | false=>rfl
              | true =>
                rw [PlaceOf_ref hd hn a1 (by omega) a2 hg]
                simp only [Bool.not_true,cond_false]
                cases a1.any (runsM a2.Grand a2.Minute) with
                | true=>simp [zeh]
                | false=>simp [zeh]
          simp only [bne_self_eq_false,cond_false,hgr,Busy_ref hd hn a1 (by omega),Option.bind_some,zaf]
          have dep : ∀ K : Option Bool,((q3k n a2.Minute).bind fun y16 =>
              bif !((decide (0 ≤ a2.Minute)) && (decide (a2.Minute ≤ 1000000))) then
                bif ((bif !zbc 0 1000000 a2.Minute then ((2 : Int),(0 : Int)) else (0,depS a1 a2.Minute)).1 != (2 : Int)) || ((bif !zbc 0 1000000 a2.Minute then ((2 : Int),(0 : Int)) else (0,depS a1 a2.Minute)).2 != (0 : Int)) then some false else K
              else
                (zeh (!((bif !zbc 0 1000000 a2.Minute then ((2 : Int),(0 : Int)) else (0,depS a1 a2.Minute)).1 != (0 : Int))) (q24k n a1 a2.Minute)).bind fun y17 =>
                bif ((bif !zbc 0 1000000 a2.Minute then ((2 : Int),(0 : Int)) else (0,depS a1 a2.Minute)).1 != (0 : Int)) || ((bif !zbc 0 1000000 a2.Minute then ((2 : Int),(0 : Int)) else (0,depS a1 a2.Minute)).2 != y17) then some false else K) = K:=fun K=>by
            simp only [q3k,q1k,Option.bind_some,eM,Dep_ref hn a1 (by omega) hdp,zbd]
            cases zbc 0 1000000 a2.Minute with
            | false=>rfl
            | true=>simp
          cases hb2 : (!isGr a0 a2.Grand) && (!a0.Tc.any (isS a2.Grand)) with
          | true =>
            simp only [cond_true]
            rw [same_times [] (by simp) hn]
            refine Eq.trans ?_ fin
            exact dep _
          | false =>
            simp only [cond_false,decide_true,Bool.not_true,Bool.false_and,Bool.true_and,bne_self_eq_false,Bool.or_self]
            rw [same_times (timesS (isGr a0 a2.Grand) a2.Grand a1) (by omega) hn]
            refine Eq.trans ?_ fin
            exact dep _
        · have hpl : placeOfD a0 a1 a2 = ((acceptD a0 a1).2,[]):=by
            rw [placeOfD]; rw [acceptD] at hacc ⊢
            by_cases h0 : zcp a0 = 0
            · rw [h0] at hacc ⊢
              simp only [bne_self_eq_false,cond_false] at hacc ⊢
              rw [zdx hacc,cond_true]
            · simp only [zdx h0,cond_true]
          have hbu : busyD a0 a1 a2.Grand = ((acceptD a0 a1).2,[]):=by
            rw [busyD]; rw [acceptD] at hacc ⊢
            by_cases h0 : zcp a0 = 0
            · rw [h0] at hacc ⊢
              simp only [bne_self_eq_false,cond_false] at hacc ⊢
              rw [zdx hacc,cond_true]
            · simp only [zdx h0,cond_true]
          have hde : depD a0 a1 a2.Minute = ((acceptD a0 a1).2,0):=by
            rw [depD]; rw [acceptD] at hacc ⊢
            by_cases h0 : zcp a0 = 0
            · rw [h0] at hacc ⊢
              simp only [bne_self_eq_false,cond_false] at hacc ⊢
              rw [zdx hacc,cond_true]
            · simp only [zdx h0,cond_true]
          rw [hpl,hbu,hde]
          simp only [zdx hacc,cond_true,beq_self_eq_true,Bool.and_self,Bool.not_true,Bool.false_or]
          rfl
end
end Go.Proofs.YtpmkdgnhllhaeaaGreat.As
