/-
  What is found is counted by kind. The law, on the models.
-/
import Derived.Test.YtepcfgnicnibnaaGreatDoorModelLFacetFound
import Derived.Test.YtepcfgnicnibnaaGreatDoorLawShardFacet
import Derived.Test.YtepcfgnicnibnaaGreatDoorLawMatchQ
set_option linter.unusedVariables false
namespace Go.Fk
open Go
theorem a9D {α β:Type}(p:α→Bool)(f:α→β): ∀l:List α,(l.flatMap fun x=>if p x then [f x] else [])=(l.filter p).map f
 | []=>rfl
 | x::l=>by
  rw [List.flatMap_cons,a9D p f l]
  cases h:p x with
  | true=>rw [if_pos rfl,List.filter_cons_of_pos h];rfl
  | false=>rw [if_neg (by decide),List.filter_cons_of_neg (by rw [h];decide)];rfl
theorem c4s {D:List y5}(h:D.Pairwise fun a b=>a.Id<b.Id)(p:y5→Bool){x:y5}(hx:x∈D):(((D.filter p).map (·.Id)).any fun n=>x.Id==n)=p x:=by
 rw [Bool.eq_iff_iff,List.any_eq_true]
 constructor
 ·rintro⟨n,hn,he⟩
  obtain⟨y,hy,rfl⟩:=List.mem_map.1 hn
  obtain⟨hyD,hp⟩:=List.mem_filter.1 hy
  have e:x.Id=y.Id:=eq_of_beq he
  have:x=y:=by
   obtain⟨i,hi,rfl⟩:=List.mem_iff_getElem.1 hx
   obtain⟨j,hj,rfl⟩:=List.mem_iff_getElem.1 hyD
   rcases Nat.lt_trichotomy i j with q | q | q
   ·have:=List.pairwise_iff_getElem.1 h i j hi hj q
    omega
   ·subst q;rfl
   ·have:=List.pairwise_iff_getElem.1 h j i hj hi q
    omega
  rw [this];exact hp
 ·intro hp
  exact⟨x.Id,List.mem_map.2 ⟨x,List.mem_filter.2 ⟨hx,hp⟩,rfl⟩,beq_self_eq_true _⟩
theorem b4w (p:y5→Bool)(f:y5→Int)(n:Int): ∀D:List y5,(D.flatMap fun d=>if p d then [f d] else []).count n=D.countP fun d=>p d&&f d==n
 | []=>rfl
 | d::D=>by
  rw [List.flatMap_cons,List.count_append,b4w p f n D,List.countP_cons]
  cases p d with
  | false=>rw [if_neg (by decide)];simp
  | true=>
   rw [if_pos rfl,q8,List.count_singleton]
   omega
theorem b7J (a b:Int→Nat): ∀ns:List Int,(ns.map fun n=>a n+b n).sum=(ns.map a).sum+(ns.map b).sum
 | []=>rfl
 | n::ns=>by
  rw [List.map_cons,List.map_cons,List.map_cons,List.sum_cons,List.sum_cons,List.sum_cons,b7J a b ns];omega
theorem b9l {x:Int}: ∀{l:List Int},(∀y∈l,x≠y)→(l.map fun n=>if true&&x==n then 1 else 0).sum=0
 | [],_=>rfl
 | b::l,h=>by
  rw [List.map_cons,List.sum_cons,b9l fun y hy=>h y (List.mem_cons_of_mem _ hy),q8,beq_eq_false_iff_ne.2 (h b (List.mem_cons_self ..)),if_neg (by decide)]
theorem c5g {ns:List Int}(h:ns.Pairwise fun a b=>a≠b)(x:Int)(q:Bool):(ns.map fun n=>if q&&x==n then 1 else 0).sum≤if q then 1 else 0:=by
 cases q with
 | false=>
  have: ∀l:List Int,(l.map fun n=>if false&&x==n then 1 else 0).sum=0:=fun l=>by
   induction l with
   | nil=>rfl
   | cons a l ih=>rw [List.map_cons,List.sum_cons,ih];rfl
  rw [this];exact Nat.le_refl _
 | true=>
  rw [if_pos rfl]
  induction ns with
  | nil=>exact Nat.zero_le _
  | cons a l ih=>
   obtain⟨h1,h2⟩:=List.pairwise_cons.1 h
   have ih:=ih h2
   rw [List.map_cons,List.sum_cons]
   by_cases e:x=a
   ·subst e
    have:=b9l h1
    rw [this,q8,beq_self_eq_true,if_pos rfl];exact Nat.le_refl _
   ·rw [q8,beq_eq_false_iff_ne.2 e,if_neg (by decide)];omega
theorem b48 {ns:List Int}(h:ns.Pairwise fun a b=>a≠b)(p:y5→Bool)(f:y5→Int): ∀D:List y5,(ns.map fun n=>D.countP fun d=>p d&&f d==n).sum≤D.countP p
 | []=>by
  have: ∀l:List Int,(l.map fun n=>([]:List y5).countP fun d=>p d&&f d==n).sum=0:=fun l=>by
   induction l with
   | nil=>rfl
   | cons a l ih=>rw [List.map_cons,List.sum_cons,ih];rfl
  rw [this];exact Nat.zero_le _
 | d::D=>by
  have ih:=b48 h p f D
  have h1:=c5g h (f d) (p d)
  have e:(ns.map fun n=>(d::D).countP fun d=>p d&&f d==n)=ns.map fun n=>(D.countP fun d=>p d&&f d==n)+if p d&&f d==n then 1 else 0:=by
   congr 1
   funext n
   rw [List.countP_cons]
  rw [e,b7J,List.countP_cons]
  omega
theorem c06 {ids:List Int}(h1: ∀n∈ids,0≤n∧n≤999999999)(h2:ids.Pairwise fun a b=>a<b)(h3:ids.length≤60):upS ids=true:=by
 unfold upS
 rw [l8,decide_eq_true_eq]
 refine⟨c2e (fun n hn=>?_) (h2.imp fun h=>b8 h),by omega⟩
 have:=h1 n hn
 rw [b8 this.1,b8 this.2];rfl
theorem b6N (F:Nat){a b:List Int}(ha:upS a=true)(hb:upS b=true)(hl:a.length≤60)(hl':b.length≤60):a2J F a b=some (a.filter fun n=>b.any fun x=>n==x):=by
 have hle:=List.length_filter_le (fun n=>b.any fun x=>n==x) a
 unfold a2J
 rw [b5B F a (by omega),a8,ha,l9,i6,b5B F b (by omega),a8,hb,l9,a8,i6]
 have e:=a9D (fun n:Int=>b.any fun x=>n==x) id a
 rw [List.map_id] at e
 rw [←e] at hle ⊢
 rw [a4s (xs:=a) (fun n=>if (b.any fun x=>n==x) then [id n] else []) 100 (fun i x acc hx hB=>?_) [] (by rw [List.nil_append];omega),List.nil_append]
 ·rfl
 ·rw [n5,hx,a8,a9x,a8]
  cases hp:b.any fun y=>x==y with
  | false=>rw [i6,if_neg (by decide),List.append_nil]
  | true=>
   rw [hp,if_pos rfl,n9,j9] at hB
   rw [i9,F1 (by simp only [j9];omega),if_pos rfl];rfl
theorem b8v {n:Int}(h0:0≤n)(h1:n≤999999999):a4y ⟨6,[114,97,116,101],[],n,n,[]⟩∧okQ 4 ⟨6,[114,97,116,101],[],n,n,[]⟩=true:=by
 have l:a4y ⟨6,[114,97,116,101],[],n,n,[]⟩:=.range (by decide) h0 h1 (Int.le_refl _) h1
 refine⟨l,?_⟩
 have a:=b4Y 100 (d:=1) (.leaf l) (by omega) (by omega)
 rw [b6K 100 _ (by omega)] at a
 exact Option.some.inj a
theorem c3A {α:Type}{o:Option α}{m:α}(h: ∃t,o=some t∧t=m):o=some m:=by
 obtain⟨t,h1,h2⟩:=h
 rw [h1,h2]
theorem b24 (code:List UInt8): ∃F,a0C F code=some true:=by
 refine⟨2000000000,?_⟩
 generalize hF:2000000000=F
 unfold a0C
 cases decide ((1048576:Int)<(code.length:Int))
 case true=>rfl
 obtain⟨c,s,q,h1,hc,hs,hsm⟩:=b5o F code (by omega)
 have hl:=hs.few
 have hst:=hc.stops.1
 have hlen:=b8p c s q
 have hself:=b6D F (U7 c s q) (by omega) (by omega)
 rw [i6,h1,a8]
 dsimp only
 rw [b1j F (by omega) (by omega) (by omega),a8,b7B F hsm hs hc (by omega),a8,hself,a8,l9,i6,a8p F c s (by omega) (by omega) (by omega),a8,a8,a8,hself,a8]
 cases ho:N0 c s with
 | false=>rfl
 | true=>
 obtain⟨k1,k2,k3⟩:=a3V ho
 obtain⟨i1,i2,i3⟩:=a3J k2
 have hdoc:=b0r k2
 rw [l9,i6,b78 F s.Docs _ _ (by omega) (by omega),a8]
 -- who is found
 obtain⟨p,hp⟩: ∃p:y5→Bool,U7 c s q=(s.Docs.filter p).map (·.Id):=by
  unfold U7
  rw [ho,q8]
  cases okQ 4 q with
  | false=>exact⟨fun _=>false,by rw [if_neg (by decide),List.filter_eq_nil_iff.2 (by simp)];rfl⟩
  | true=>
   refine⟨fun x=>decide (0<D1 c s 4 q x),?_⟩
   rw [if_pos rfl,←a9D];rfl
 have hin: ∀x∈s.Docs,((U7 c s q).any fun n=>x.Id==n)=p x:=fun x hx=>by rw [hp];exact c4s i3 p hx
 have up: ∀p:y5→Bool,upS ((s.Docs.filter p).map (·.Id))=true∧((s.Docs.filter p).map (·.Id)).length≤16:=fun p=>by
  have hle:=List.length_filter_le p s.Docs
  refine⟨c06 (fun n hn=>?_) ?_ (by rw [List.length_map];omega),by rw [List.length_map];omega⟩
  ·obtain⟨x,hx,rfl⟩:=List.mem_map.1 hn
   have:=i2 x (List.mem_filter.1 hx).1
   omega
  ·rw [List.pairwise_map]
   exact(i3.sublist (List.filter_sublist)).imp fun h=>h
 have hsel:b2k s.Docs (U7 c s q) [114,97,116,101]=s.Docs.flatMap fun d=>if (decide (0≤a0X d [114,97,116,101])&&p d) then [a0X d [114,97,116,101]] else []:=by
  unfold b2k
  have: ∀l:List y5,(∀x∈l,x∈s.Docs)→l.flatMap (b8A (U7 c s q) [114,97,116,101])=l.flatMap fun d=>if (decide (0≤a0X d [114,97,116,101])&&p d) then [a0X d [114,97,116,101]] else []:=by
   intro l
   induction l with
   | nil=>intro _;rfl
   | cons d l ih=>
    intro hx
    rw [List.flatMap_cons,List.flatMap_cons,ih fun y hy=>hx y (List.mem_cons_of_mem _ hy)]
    congr 1
    unfold b8A c5y
    rw [hin d (hx d (List.mem_cons_self ..))];rfl
  exact this _ fun x hx=>hx
 have hcnt: ∀n:Int,0≤n→(b2k s.Docs (U7 c s q) [114,97,116,101]).count n=s.Docs.countP fun d=>p d&&a0X d [114,97,116,101]==n:=fun n h0=>by
  rw [hsel,b4w]
  congr 1
  funext d
  by_cases e:a0X d [114,97,116,101]=n
  ·rw [e,beq_self_eq_true,b8 h0,q8]
  ·rw [beq_eq_false_iff_ne.2 e,Bool.and_false,Bool.and_false]
 have hC:=b7v (b2k s.Docs (U7 c s q) [114,97,116,101])
 have hsl:=b3H s.Docs (U7 c s q) [114,97,116,101]
 have hfac:c3j s.Docs (U7 c s q) [114,97,116,101]=(b1C (a3I (b2k s.Docs (U7 c s q) [114,97,116,101]))).map a08:=by
  unfold c3j
  rw [k2,hp,(up p).1];rfl
 have hlf:=a8Z hC
 rw [hfac]
 generalize hfl:b1C (a3I (b2k s.Docs (U7 c s q) [114,97,116,101]))=fl at *
 have hx: ∀x∈fl,(0≤x.1∧x.1≤999999999)∧x.2=((s.Docs.countP fun d=>p d&&a0X d [114,97,116,101]==x.1:Nat):Int):=fun x hx=>by
  obtain⟨a1,a2⟩:=(hC.2 x).1 hx
  have hr:0≤x.1∧x.1≤999999999:=by
   rw [hsel] at a1
   obtain⟨d,hd,ha⟩:=List.mem_flatMap.1 a1
   split at ha
   ·rename_i hq
    rw [List.mem_singleton.1 ha]
    simp only [l8,decide_eq_true_eq] at hq
    have:=c19 (name:=[114,97,116,101]) (hdoc d hd)
    have e:b1R d [114,97,116,101]=a0X d [114,97,116,101]:=rfl
    rw [e] at this
    omega
   ·cases ha
  exact⟨hr,by rw [a2,hcnt _ hr.1]⟩
 have hsumN: ∀i,((fl.take i).map fun x=>(s.Docs.countP fun d=>p d&&a0X d [114,97,116,101]==x.1)).sum≤s.Docs.countP p:=fun i=>by
  have h:=b48 (ns:=(fl.take i).map (·.1)) (by rw [List.pairwise_map];exact hC.1.sublist (List.take_sublist _ _)) p (fun d=>a0X d [114,97,116,101]) s.Docs
  rw [List.map_map] at h
  exact h
 have hPl:(U7 c s q).length=s.Docs.countP p:=by rw [hp,List.length_map,List.countP_eq_length_filter]
 have hP16:s.Docs.countP p≤16:=by omega
 have hrun: ∀f:Int×Int→Option ((Int×Int)⊕(Int⊕Bool)),(∀(i:Nat) (hi:i<fl.length),f (((((fl.take i).map fun x=>(s.Docs.countP fun d=>p d&&a0X d [114,97,116,101]==x.1)).sum:Nat):Int),(i:Int))=some (.inl (((((fl.take (i+1)).map fun x=>(s.Docs.countP fun d=>p d&&a0X d [114,97,116,101]==x.1)).sum:Nat):Int),((i+1:Nat):Int))))→
   (∀x,f (x,(fl.length:Int))=some (.inr (.inl x)))→v8 f F (0,0)=some (.inl ((((fl.take fl.length).map fun x=>(s.Docs.countP fun d=>p d&&a0X d [114,97,116,101]==x.1)).sum:Nat):Int)):=fun f hf h0=>by
  refine c3A (H4 (Post:=fun r:Int⊕Bool=>r= .inl ((((fl.take fl.length).map fun x=>(s.Docs.countP fun d=>p d&&a0X d [114,97,116,101]==x.1)).sum:Nat):Int)) (fun i (st:Int×Int)=>st=(((((fl.take i).map fun x=>(s.Docs.countP fun d=>p d&&a0X d [114,97,116,101]==x.1)).sum:Nat):Int),(i:Int))) fl.length (fun i st hi e=>?_) (fun st e=>?_) fl.length 0 (0,0) F (by omega) (by omega) rfl)
  ·subst e
   exact .inl ⟨_,hf i hi,rfl⟩
  ·subst e
   exact⟨_,h0 _,rfl⟩
 rw [hrun _ (fun i hi=>?_) (fun x=>?_)]
 ·simp only [a8,Sum.elim_inl]
  have:=hsumN fl.length
  rw [b8 (by omega)]
 ·have hxi:=hx fl[i] (List.getElem_mem hi)
  have hg:u0 (fl.map a08) (i:Int)=some (a08 fl[i]):=by rw [n5,List.getElem?_map,j4 hi];rfl
  have hs1:=hsumN (i+1)
  obtain⟨lq,hok⟩:=b8v hxi.1.1 hxi.1.2
  dsimp only
  rw [List.length_map,b8 (by omega),i9]
  simp only [hg,a8]
  have hm2:U7 c s ⟨6,[114,97,116,101],[],fl[i].1,fl[i].1,[]⟩=(s.Docs.filter fun d=>a0X d [114,97,116,101]==fl[i].1).map (·.Id):=by
   unfold U7
   rw [ho,hok,if_pos (show (true&&true)=true from rfl),←a9D]
   congr 1
   funext x
   have e:D1 c s 4 ⟨6,[114,97,116,101],[],fl[i].1,fl[i].1,[]⟩ x=if decide (fl[i].1≤a0X x [114,97,116,101])&&decide (a0X x [114,97,116,101]≤fl[i].1) then 100 else 0:=rfl
   unfold idQ
   rw [e]
   by_cases hn:a0X x [114,97,116,101]=fl[i].1
   ·rw [hn,b8 (Int.le_refl _),if_pos (show (true&&true)=true from rfl),beq_self_eq_true];rfl
   ·rw [beq_eq_false_iff_ne.2 hn]
    have:(decide (fl[i].1≤a0X x [114,97,116,101])&&decide (a0X x [114,97,116,101]≤fl[i].1))=false:=by
     rw [Bool.and_eq_false_iff,decide_eq_false_iff_not,decide_eq_false_iff_not];omega
    rw [this];rfl
  have hand:((U7 c s q).filter fun n=>((s.Docs.filter fun d=>a0X d [114,97,116,101]==fl[i].1).map (·.Id)).any fun x=>n==x).length=s.Docs.countP fun d=>p d&&a0X d [114,97,116,101]==fl[i].1:=by
   rw [hp,List.filter_map,List.length_map,List.filter_filter,←List.countP_eq_length_filter]
   refine List.countP_congr fun x hx=>?_
   show (((((s.Docs.filter fun d=>a0X d [114,97,116,101]==fl[i].1).map (·.Id)).any fun y=>x.Id==y)&&p x)=true↔_)
   rw [c4s i3 _ hx,Bool.and_comm]
  show ((Q8 F c s ⟨6,[114,97,116,101],[],fl[i].1,fl[i].1,[]⟩).bind _)=_
  rw [b1j F (by omega) (by omega) (by omega),a8,hm2,b6N F (by rw [hp];exact(up p).1) (up _).1 (by omega) (by have:=(up fun d=>a0X d [114,97,116,101]==fl[i].1).2;omega),a8,hand]
  rw [List.take_succ_eq_append_getElem hi,List.map_append,List.sum_append] at hs1 ⊢
  simp only [List.map_cons,List.map_nil,List.sum_cons,List.sum_nil,Nat.add_zero] at hs1 ⊢
  show (cond (!(((s.Docs.countP fun d=>p d&&a0X d [114,97,116,101]==fl[i].1:Nat):Int)==fl[i].2)) _ (some (Sum.inl (A1 (_+fl[i].2),A1 ((i:Int)+1))):Option ((Int×Int)⊕(Int⊕Bool))))=_
  rw [hxi.2,beq_self_eq_true,l9,i6,B9 ⟨by omega,by omega⟩,y2 (by omega)]
  rfl
 ·dsimp only
  rw [List.length_map,c6 (by omega)];rfl
end Go.Fk
