/-
  The reference's test of states is the plain one. Of no program.
-/
import Derived.Test.YtepcfgnicnibnaaLawHead
import Derived.Test.YtepcfgnicnibnaaLawPutS
namespace Go.Fk
open Go
theorem asc_bound {α:Type}(f:α→Nat)(N:Nat): ∀(l:List α) (n:Nat),(l.Pairwise fun a b=>f a<f b)→(∀a∈l,n≤f a∧f a<N)→n≤N→l.length+n≤N
 | [],n,_,_,h=>by simpa using h
 | a::l,n,h,h',_=>by
  have hc:=List.pairwise_cons.1 h
  have ha:=h' a (by simp)
  have:=asc_bound f N l (f a+1) hc.2 (fun c hm=>⟨hc.1 c hm,(h' c (by simp [hm])).2⟩) (by omega)
  simp only [List.length_cons];omega
def byteRank (b:UInt8):Nat:=if b.toNat<97 then b.toNat-48 else b.toNat-87
theorem wordB_iff {b:UInt8}(h:wordB b=true):(48≤b.toNat∧b.toNat≤57)∨(97≤b.toNat∧b.toNat≤122):=by
 unfold wordB at h
 simp only [Bool.or_eq_true,Bool.and_eq_true,decide_eq_true_iff,UInt8.le_iff_toNat_le] at h
 have e1:(97:UInt8).toNat=97:=rfl
 have e2:(122:UInt8).toNat=122:=rfl
 have e3:(48:UInt8).toNat=48:=rfl
 have e4:(57:UInt8).toNat=57:=rfl
 omega
theorem part_mem {y:Str}{x ws:List Str}(h:Part y x ws){w:Str}(hw:w∈x):y++w∈ws:=h.subset (List.mem_map_of_mem hw)
theorem part_len {y:Str}{x ws:List Str}(h:Part y x ws):x.length≤ws.length:=by
 have:=h.length_le
 simpa using this
theorem IsDawg.arcs {d:Sts}{ws:List Str}(h:IsDawg d ws){i:Nat}{s:GState}(hs:d[i]? =some s):s.Arcs.length≤36:=by
 have hi:=(List.getElem?_eq_some_iff.1 hs).1
 obtain⟨⟨y,hy⟩,_⟩:=h.part i hi
 have hb: ∀a∈s.Arcs,wordB a.Byte=true:=fun a ha=>by
  have hne:=h.good.full i s hs a ha
  obtain⟨w,hw⟩:=List.exists_mem_of_ne_nil _ hne
  have hm:a.Byte::w∈W d i:=by
   rw [W_at h.good.down hs,stW]
   exact List.mem_append_right _ (List.mem_flatMap.2 ⟨a,ha,List.mem_map_of_mem hw⟩)
  have hm2:=h.up.word _ (part_mem hy hm)
  unfold wordS at hm2
  rw [Bool.and_eq_true,List.all_eq_true] at hm2
  exact hm2.1 a.Byte (by simp)
 have:=asc_bound (fun a:GArc=>byteRank a.Byte) 36 s.Arcs 0 (by
  refine List.Pairwise.imp_of_mem (R:=fun a b=>a.Byte<b.Byte) ?_ (h.good.bytes i s hs)
  intro a b ha hb' hlt
  have h1:=wordB_iff (hb a ha)
  have h2:=wordB_iff (hb b hb')
  have h3:=UInt8.lt_iff_toNat_lt.1 hlt
  simp only [byteRank]
  split<;>split<;>omega) (fun a ha=>⟨Nat.zero_le _,by
  have h1:=wordB_iff (hb a ha)
  simp only [byteRank]
  split<;>omega⟩) (by omega)
 omega
theorem IsDawg.one {d:Sts}(h:IsDawg d []):d.length≤1:=by
 have:=build_len 13 [] []
 have he:(build 13 [] []).1=d:=by
  have h1:=h.eq
  unfold dawgS at h1
  rw [if_pos ((up_iff _).2 h.up)] at h1
  exact h1
 rw [he] at this
 simpa [tot] using this
def arcIn (i:Nat)(a:GArc):Bool:=decide (0≤a.To)&&decide (a.To<(i:Int))
def shapeP (q:GState×Nat):Bool:=q.1.Arcs.all (arcIn q.2)&&(decide (0≤q.1.Many)&&decide (q.1.Many≤40)&&decide (q.1.Arcs.length≤36))
def smallS (d:Sts):Bool:=(List.range d.length).all fun i=>decide ((W d i).length≤40)&&(decide ((W d i).length≠0)||decide (d.length≤1))
def shapeS (d:Sts):Bool:=d.zipIdx.all shapeP&&(decide (0<d.length)&&smallS d)
theorem spec_in (F:Nat)(n a b:Int):M.spec_l1In F n a b=some (decide (a≤n)&&decide (n≤b)):=by
 unfold M.spec_l1In
 cases decide (a≤n)<;>rfl
theorem shape_down {d:Sts}(h:d.zipIdx.all shapeP=true):Down d∧∀s∈d,s.Arcs.length≤36:=by
 rw [List.all_eq_true] at h
 have hat: ∀(i:Nat) s,d[i]? =some s→shapeP (s,i)=true:=fun i s hs=>h (s,i) (by
  rw [List.mem_iff_getElem?]
  exact⟨i,by rw [List.getElem?_zipIdx,hs];simp⟩)
 refine⟨fun i s hs a ha=>?_,fun s hs=>?_⟩
 ·have:=hat i s hs
  unfold shapeP at this
  rw [Bool.and_eq_true,List.all_eq_true] at this
  have:=this.1 a ha
  unfold arcIn at this
  simp only [Bool.and_eq_true,decide_eq_true_iff] at this
  exact this
 ·obtain⟨i,hi⟩:=List.mem_iff_getElem?.1 hs
  have:=hat i s hi
  unfold shapeP at this
  simp only [Bool.and_eq_true,decide_eq_true_iff] at this
  exact this.2.2
theorem take_len_flat (f:GArc→List Str)(l:List GArc)(i:Nat):((l.take i).flatMap f).length≤(l.flatMap f).length:=by
 conv=>rhs;rw [←List.take_append_drop i l,List.flatMap_append,List.length_append]
 omega
def counts (d:Sts)(i:Nat):List Int:=(List.range d.length).map fun j=>if j<i then ((W d j).length:Int) else 0
theorem counts_at {d:Sts}{i j:Nat}(h:j<d.length):(counts d i)[j]? =some (if j<i then ((W d j).length:Int) else 0):=by
 unfold counts
 rw [List.getElem?_map,List.getElem?_range h];rfl
theorem counts_len (d:Sts)(i:Nat):(counts d i).length=d.length:=by simp [counts]
theorem counts_set {d:Sts}{i:Nat}(h:i<d.length):(counts d i).set i ((W d i).length:Int)=counts d (i+1):=by
 apply List.ext_getElem?
 intro j
 rw [List.getElem?_set,counts_len]
 by_cases hij:i=j
 ·subst hij
  rw [if_pos rfl,if_pos h,counts_at h,if_pos (by omega)]
 ·rw [if_neg hij]
  by_cases hj:j<d.length
  ·rw [counts_at hj,counts_at hj]
   by_cases hlt:j<i
   ·rw [if_pos hlt,if_pos (by omega)]
   ·rw [if_neg hlt,if_neg (by omega)]
  ·rw [List.getElem?_eq_none (by rw [counts_len];omega),List.getElem?_eq_none (by rw [counts_len];omega)]
theorem count_ok (F:Nat)(d:Sts)(hF:d.length+100<F)(hl:d.length≤1048576)(h0:0<d.length)(hd:Down d)(ha: ∀s∈d,s.Arcs.length≤36): ∃c,M.spec_l4Count F d=some c∧decide (c≤40)=smallS d:=by
 unfold M.spec_l4Count makeL
 rw [if_pos ⟨by omega,by omega⟩,Option.bind_some]
 have hz:List.replicate ((d.length:Int)).toNat (0:Int)=counts d 0:=by
  apply List.ext_getElem?
  intro j
  rw [List.getElem?_replicate,Int.toNat_natCast]
  by_cases hj:j<d.length
  ·rw [if_pos hj,counts_at hj,if_neg (by omega)]
  ·rw [if_neg hj,List.getElem?_eq_none (by rw [counts_len];omega)]
 rw [hz]
 have key:=fun f step fin=>whileM_run (σ:=Int×List Int) (τ:=(List Int)⊕Int) (f:=f)
  (Post:=fun t=>t.elim (fun l=>l=counts d d.length∧smallS d=true) (fun r=>r=41∧smallS d=false))
  (fun i s=>s=((i:Int),counts d i)∧∀j,j<i→(W d j).length≤40∧((W d j).length≠0∨d.length≤1)) d.length step fin d.length 0 ((0:Int),counts d 0) F (by omega) (by omega) ⟨rfl,fun j h=>by omega⟩
 generalize hf:(fun (s27:Int×(List Int))=>_:Int×List Int→Option ((Int×List Int)⊕((List Int)⊕Int)))=f
 obtain⟨t,ht,hp⟩:=key f (fun i s hi hs=>by
  subst hf
  obtain⟨rfl,hj⟩:=hs
  dsimp only
  have hx:d[i]? =some d[i]:=List.getElem?_eq_getElem hi
  have hdn:=hd i _ hx
  have har:=ha d[i] (List.getElem_mem hi)
  have hW:=W_at hd hx
  rw [decide_eq_true (by omega),cond_true,getI_n,hx,Option.bind_some]
  have hfin:(cond d[i].Final (Option.bind (getI (counts d i) (i:Int)) fun x70=>(some (List.set (counts d i) ((i:Int)).toNat (1:Int)))) (some (counts d i)):Option (List Int))=some ((counts d i).set i (if d[i].Final then 1 else 0)):=by
   cases d[i].Final
   ·rw [cond_false]
    congr 1
    have:(counts d i)[i]'(by rw [counts_len];exact hi)=0:=by
     have h1:=counts_at (i:=i) hi
     rw [if_neg (by omega)] at h1
     exact(List.getElem?_eq_some_iff.1 h1).2
    apply List.ext_getElem?
    intro j
    rw [List.getElem?_set]
    by_cases hij:i=j
    ·subst hij
     rw [if_pos rfl,if_pos (by rw [counts_len];exact hi),counts_at hi,if_neg (by omega)];rfl
    ·rw [if_neg hij]
   ·rw [cond_true,getI_n,counts_at hi,Option.bind_some,Int.toNat_natCast];rfl
  rw [hfin,Option.bind_some]
  generalize hfv:(if d[i].Final=true then (1:Int) else 0)=fv
  have hfv01:0≤fv∧fv≤1:=by rw [←hfv];split<;>omega
  generalize har':d[i].Arcs=arcs at *
  have hsum:((W d i).length:Int)=fv+((arcs.flatMap (WA d)).length:Int):=by
   rw [hW,stW,har',←hfv,List.length_append]
   cases d[i].Final<;>simp <;>omega
  have hb40: ∀k,(hk:k<arcs.length)→(WA d arcs[k]).length≤40∧(counts d i)[arcs[k].To.toNat]? =some ((WA d arcs[k]).length:Int):=fun k hk=>by
   obtain⟨a1,a2⟩:=hdn arcs[k] (List.getElem_mem hk)
   have h1:=(hj arcs[k].To.toNat (by omega)).1
   have hwl:(WA d arcs[k]).length=(W d arcs[k].To.toNat).length:=by simp [WA]
   rw [hwl,counts_at (by omega),if_pos (by omega)]
   exact⟨h1,rfl⟩
  have hflat: ∀k,k≤arcs.length→((arcs.take k).flatMap (WA d)).length≤40*k:=by
   intro k
   induction k with
   | zero=>intro _;simp
   | succ k ih=>
    intro hk
    have:=ih (by omega)
    have:=(hb40 k (by omega)).1
    rw [List.take_succ_eq_append_getElem (by omega),List.flatMap_append,List.flatMap_singleton,List.length_append]
    omega
  have key2:=fun g step2 fin2=>whileM_run (σ:=Int×List Int) (τ:=List Int) (f:=g) (Post:=fun t=>t=(counts d i).set i ((W d i).length:Int))
   (fun k s=>s=((k:Int),(counts d i).set i (fv+(((arcs.take k).flatMap (WA d)).length:Int)))) arcs.length step2 fin2 arcs.length 0 ((0:Int),(counts d i).set i fv) F (by omega) (by omega) (by simp)
  generalize hg:(fun (s93:Int×(List Int))=>_:Int×List Int→Option ((Int×List Int)⊕(List Int)))=g
  obtain⟨t,ht,hp⟩:=key2 g (fun k s hk hs=>by
   subst hg hs
   dsimp only
   obtain⟨a1,a2⟩:=hdn arcs[k] (List.getElem_mem hk)
   obtain⟨b1,b2⟩:=hb40 k hk
   have b3:=hflat k (by omega)
   have hgi: ∀v:Int,((counts d i).set i v)[i]? =some v:=fun v=>by rw [List.getElem?_set,if_pos rfl,if_pos (by rw [counts_len];exact hi)]
   rw [Option.bind_some,har',decide_eq_true (by omega),cond_true,getI_n,hgi,Option.bind_some,Option.bind_some,har',getI_at hk,Option.bind_some,getI_pos a1,List.getElem?_set,if_neg (by omega),b2,Option.bind_some,Option.bind_some,w64_succ' (by omega),w64_of ⟨by omega,by omega⟩]
   refine .inl ⟨_,rfl,?_⟩
   rw [Int.toNat_natCast,List.set_set,List.take_succ_eq_append_getElem hk,List.flatMap_append,List.flatMap_singleton,List.length_append]
   congr 2
   omega) (fun s hs=>by
   subst hg hs
   dsimp only
   rw [Option.bind_some,har',decide_eq_false (by omega),cond_false]
   refine⟨_,rfl,?_⟩
   rw [List.take_length,hsum])
  rw [ht,Option.bind_some,Option.bind_some,hp,counts_set hi]
  have hci:(counts d (i+1))[i]? =some ((W d i).length:Int):=by rw [counts_at hi,if_pos (by omega)]
  rw [getI_n,hci,Option.bind_some,Option.bind_some,w64_succ' (by omega)]
  have hbad: ¬((W d i).length≤40∧((W d i).length≠0∨d.length≤1))→smallS d=false:=fun hn=>by
   rw [Bool.eq_false_iff]
   intro hs
   unfold smallS at hs
   rw [List.all_eq_true] at hs
   have:=hs i (List.mem_range.2 hi)
   simp only [Bool.and_eq_true,Bool.or_eq_true,decide_eq_true_iff] at this
   exact hn this
  by_cases h40:(W d i).length≤40
  ·rw [decide_eq_false (show ¬(40:Int)<((W d i).length:Int) by omega),cond_false]
   by_cases hz0:(W d i).length=0
   ·rw [show (((W d i).length:Int)==0)=true by rw [beq_iff_eq];omega,cond_true,Option.bind_some]
    by_cases h1:d.length≤1
    ·rw [decide_eq_false (by omega),cond_false]
     refine .inl ⟨_,rfl,rfl,fun j hj'=>?_⟩
     rcases Nat.lt_or_ge j i with h | h
     ·exact hj j h
     ·obtain rfl:j=i:=by omega
      exact⟨h40,.inr h1⟩
    ·rw [decide_eq_true (by omega),cond_true]
     exact .inr ⟨_,rfl,rfl,hbad (fun h=>by omega)⟩
   ·rw [show (((W d i).length:Int)==0)=false by rw [beq_eq_false_iff_ne];omega,cond_false,Option.bind_some,cond_false]
    refine .inl ⟨_,rfl,rfl,fun j hj'=>?_⟩
    rcases Nat.lt_or_ge j i with h | h
    ·exact hj j h
    ·obtain rfl:j=i:=by omega
     exact⟨h40,.inl hz0⟩
  ·rw [decide_eq_true (show (40:Int)<((W d i).length:Int) by omega),cond_true,Option.bind_some,cond_true]
   exact .inr ⟨_,rfl,rfl,hbad (fun h=>by omega)⟩) (fun s hs=>by
  subst hf
  obtain⟨rfl,hj⟩:=hs
  dsimp only
  rw [decide_eq_false (by omega),cond_false]
  refine⟨_,rfl,rfl,?_⟩
  unfold smallS
  rw [List.all_eq_true]
  intro i hi
  have:=hj i (List.mem_range.1 hi)
  simp only [Bool.and_eq_true,Bool.or_eq_true,decide_eq_true_iff]
  exact this)
 rw [ht]
 cases t with
 | inl l=>
  obtain⟨rfl,hs⟩:=hp
  refine⟨((W d (d.length-1)).length:Int),?_,?_⟩
  ·simp only [Option.bind_some,Sum.elim_inl]
   rw [w64_pred (by omega) (by omega),getI_n,counts_at (by omega),if_pos (by omega)];rfl
  ·rw [hs]
   unfold smallS at hs
   rw [List.all_eq_true] at hs
   have:=hs (d.length-1) (List.mem_range.2 (by omega))
   simp only [Bool.and_eq_true,decide_eq_true_iff] at this
   rw [decide_eq_true (by omega)]
 | inr r=>
  obtain⟨rfl,hs⟩:=hp
  exact⟨41,rfl,by rw [hs];rfl⟩
theorem all_while0 {α:Type}{p:α→Bool}{xs:List α}{f:Int→Option (Int⊕(Unit⊕Bool))}(F:Nat)(hF:xs.length<F)(h: ∀(i:Nat) x,xs[i]? =some x→f (i:Int)=some (if p x then .inl ((i+1:Nat):Int) else .inr (.inr false)))
  (h0:f (xs.length:Int)=some (.inr (.inl ()))):whileM f F (0:Int)=some (if xs.all p then .inl () else .inr false):=by
 have:=all_while h h0 xs.length 0 F (by omega) hF
 rwa [List.drop_zero] at this
theorem shape_ok (F:Nat)(d:Sts)(hF:d.length+3000000<F)(hl:d.length≤1048576)(ha: ∀s∈d,s.Arcs.length≤1048576):M.spec_l4Shape F d=some (shapeS d):=by
 unfold M.spec_l4Shape shapeS
 have hz:d.length=d.zipIdx.length:=by simp
 rw [all_while0 (p:=shapeP) (xs:=d.zipIdx) F (by omega) (fun i q hq=>?_) ?_]
 ·cases hs:d.zipIdx.all shapeP with
  | false=>rfl
  | true=>
   obtain⟨hd,ha'⟩:=shape_down hs
   simp only [if_true,Option.bind_some,Sum.elim_inl,Bool.true_and]
   by_cases h0:0<d.length
   ·obtain⟨c,hc,hc2⟩:=count_ok F d (by omega) hl h0 hd ha'
    rw [decide_eq_true (show (0:Int)<(d.length:Int) by omega),cond_true,hc,Option.bind_some,hc2,decide_eq_true h0];rfl
   ·rw [decide_eq_false (show ¬(0:Int)<(d.length:Int) by omega),decide_eq_false h0];rfl
 ·rw [←hz,decide_eq_false (by omega)];rfl
 ·obtain⟨hx,hi⟩:=zip_at hq
  have hlt:=(List.getElem?_eq_some_iff.1 hx).1
  have hal:=ha q.1 (List.mem_of_getElem? hx)
  rw [decide_eq_true (by omega),cond_true]
  rw [all_while0 (p:=arcIn i) (xs:=q.1.Arcs) F (by omega) (fun k a hk=>?_) ?_]
  ·unfold shapeP
   rw [hi]
   cases q.1.Arcs.all (arcIn i) with
   | false=>rfl
   | true=>
    simp only [if_true,Option.bind_some,Sum.elim_inl,Bool.true_and]
    rw [getI_n,hx,Option.bind_some,spec_in,Option.bind_some,w64_succ' (by omega)]
    cases (decide (0≤q.1.Many)&&decide (q.1.Many≤40)) with
    | false=>rfl
    | true=>
     rw [Bool.not_true,cond_false,Option.bind_some,Option.bind_some,Bool.true_and]
     by_cases h36:q.1.Arcs.length≤36
     ·rw [decide_eq_false (by omega),decide_eq_true h36];rfl
     ·rw [decide_eq_true (by omega),decide_eq_false h36];rfl
  ·rw [getI_n,hx,Option.bind_some,decide_eq_false (by omega)];rfl
  ·have hk':=(List.getElem?_eq_some_iff.1 hk).1
   have hsub:w64 ((i:Int)-1)=(i:Int)-1:=w64_of ⟨by omega,by omega⟩
   rw [getI_n,hx,Option.bind_some,decide_eq_true (by omega),cond_true,Option.bind_some,getI_n,hk,Option.bind_some,hsub,spec_in,Option.bind_some,w64_succ' (by omega)]
   unfold arcIn
   have:decide (a.To≤(i:Int)-1)=decide (a.To<(i:Int)):=by rw [decide_eq_decide];omega
   rw [this]
   cases decide ((0:Int)≤a.To)<;>cases decide (a.To<(i:Int))<;>rfl
end Go.Fk
