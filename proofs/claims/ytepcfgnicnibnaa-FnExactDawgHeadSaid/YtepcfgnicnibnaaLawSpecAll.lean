/-
  The reference lists the words of states, tests them and goes along a text. Of no program.
-/
import Derived.Test.YtepcfgnicnibnaaLawSpecOk
namespace Go.Fk
open Go
theorem all_ok (d:Sts)(hd:Down d)(h40: ∀i,i<d.length→(W d i).length≤40)(ha: ∀s∈d,s.Arcs.length≤36):
  ∀(at_ F:Nat) (head:Str),at_+50<F→at_<d.length→head.length+at_+1≤maxLen→M.spec_l4All F d (at_:Int) head=some ((W d at_).map (head++ ·)):=by
 intro at_
 induction at_ using Nat.strongRecOn with
 | ind at_ ih=>
  intro F head hF hat hh
  obtain⟨F,rfl⟩: ∃G,F=G+1:=⟨F-1,by omega⟩
  obtain⟨s0,hx⟩: ∃s0,d[at_]? =some s0:=⟨_,List.getElem?_eq_getElem hat⟩
  have hW:=W_at hd hx
  have hdn:=hd at_ _ hx
  have har:=ha s0 (List.mem_of_getElem? hx)
  have h40':=h40 at_ hat
  rw [M.spec_l4All]
  dsimp only
  rw [getI_n,hx,Option.bind_some]
  have hfin:(cond s0.Final (Option.bind (catL 16 ([]:List Str) ([head]:List Str)) fun x47=>(some x47)) (some ([]:List Str)):Option (List Str))=some (((if s0.Final then [[]] else []):List Str).map (head++ ·)):=by
   cases s0.Final
   ·rfl
   ·rw [cond_true,catL_ok (by simp)];simp
  rw [hfin,Option.bind_some]
  generalize har':s0.Arcs=arcs at *
  have key:=fun f step fin=>whileM_run (σ:=(List Str)×Int) (τ:=List Str) (f:=f) (Post:=fun t=>t=(W d at_).map (head++ ·))
   (fun k s=>s=((((if s0.Final then [[]] else []):List Str)++(arcs.take k).flatMap (WA d)).map (head++ ·),(k:Int))) arcs.length step fin arcs.length 0 (((if s0.Final then [[]] else []):List Str).map (head++ ·),(0:Int)) F (by omega) (by omega) (by simp)
  generalize hf:(fun (s70:(List Str)×Int)=>_:(List Str)×Int→Option (((List Str)×Int)⊕(List Str)))=f
  obtain⟨t,ht,hp⟩:=key f (fun k s hk hs=>by
   subst hf hs
   dsimp only
   obtain⟨a1,a2⟩:=hdn arcs[k] (List.getElem_mem hk)
   have e:arcs[k].To=((arcs[k].To.toNat:Nat):Int):=by omega
   have hl:=take_len_flat (WA d) arcs (k+1)
   rw [List.take_succ_eq_append_getElem hk,List.flatMap_append,List.flatMap_singleton,List.length_append] at hl
   have hwl:(WA d arcs[k]).length=(W d arcs[k].To.toNat).length:=by simp [WA]
   rw [hW,stW,har',List.length_append] at h40'
   rw [Option.bind_some,har',decide_eq_true (by omega),cond_true,Option.bind_some,har',getI_at hk,Option.bind_some,catS,if_pos (by simp only [List.length_singleton];omega),Option.bind_some,e,ih arcs[k].To.toNat (by omega) F (head++[arcs[k].Byte]) (by omega) (by omega) (by simp only [List.length_append,List.length_singleton];omega),Option.bind_some,
    catL_ok (by simp only [List.length_map,List.length_append];omega),Option.bind_some,w64_succ' (by omega)]
   refine .inl ⟨_,rfl,?_⟩
   rw [List.take_succ_eq_append_getElem hk,List.flatMap_append,List.flatMap_singleton,←List.append_assoc,List.map_append (l₁:=_++_)]
   congr 2
   rw [WA,map_head]) (fun s hs=>by
   subst hf hs
   dsimp only
   rw [Option.bind_some,har',decide_eq_false (by omega),cond_false]
   refine⟨_,rfl,?_⟩
   rw [List.take_length,hW,stW,har'])
  rw [ht,hp];rfl
theorem IsDawg.shape {d:Sts}{ws:List Str}(h:IsDawg d ws):shapeS d=true:=by
 unfold shapeS
 rw [Bool.and_eq_true,Bool.and_eq_true,decide_eq_true_iff]
 refine⟨?_,h.pos,?_⟩
 ·rw [List.all_eq_true]
  intro q hq
  obtain⟨i,hi⟩:=List.mem_iff_getElem?.1 hq
  obtain⟨hx,h2⟩:=zip_at hi
  have hlt:=(List.getElem?_eq_some_iff.1 hx).1
  have hm:=h.good.many i q.1 hx
  have hl:=part_len (h.part i hlt).1.choose_spec
  have hf:=h.few
  unfold shapeP
  rw [Bool.and_eq_true,List.all_eq_true]
  refine⟨fun a ha=>?_,?_⟩
  ·have:=h.good.down i q.1 hx a ha
   unfold arcIn
   rw [h2]
   simp only [Bool.and_eq_true,decide_eq_true_iff]
   exact this
  ·have:=h.arcs hx
   simp only [Bool.and_eq_true,decide_eq_true_iff]
   omega
 ·unfold smallS
  rw [List.all_eq_true]
  intro i hi
  have hi:=List.mem_range.1 hi
  have hl:=part_len (h.part i hi).1.choose_spec
  have hf:=h.few
  simp only [Bool.and_eq_true,Bool.or_eq_true,decide_eq_true_iff]
  refine⟨by omega,?_⟩
  rcases (h.part i hi).2 with h1 | h1
  ·exact .inl (fun e=>h1 (List.eq_nil_of_length_eq_zero e))
  ·subst h1;exact .inr h.one
theorem small_at {d:Sts}(h:smallS d=true){i:Nat}(hi:i<d.length):(W d i).length≤40:=by
 unfold smallS at h
 rw [List.all_eq_true] at h
 have:=h i (List.mem_range.2 hi)
 simp only [Bool.and_eq_true,decide_eq_true_iff] at this
 exact this.1
theorem map_nil_app (l:List Str):l.map (fun x=>([]:Str)++x)=l:=by
 have:(fun x:Str=>[]++x)=id:=by funext x;rfl
 rw [this,List.map_id]
theorem wordsAt_len (d:Sts): ∀(k:Nat) (i:Int),∀w∈wordsAt d k i,w.length≤k
 | 0,_,w,hw=>by simp [wordsAt] at hw
 | k+1,i,w,hw=>by
  unfold wordsAt at hw
  cases e:getI d i with
  | none=>rw [e] at hw;simp at hw
  | some s=>
   rw [e] at hw
   simp only [List.mem_append,List.mem_flatMap,List.mem_map] at hw
   rcases hw with hw | ⟨a,_,v,hv,rfl⟩
   ·cases hf:s.Final<;>rw [hf] at hw<;>simp at hw
    subst hw;simp
   ·have:=wordsAt_len d k a.To v hv
    simp only [List.length_cons];omega
theorem specOk_ok (F:Nat)(d:Sts)(hF:d.length+4000000<F)(hl:d.length≤1048576)(ha: ∀s∈d,s.Arcs.length≤1048576):M.spec_l4Ok F d=some (okS d):=by
 unfold M.spec_l4Ok
 rw [shape_ok F d (by omega) hl ha,Option.bind_some]
 cases hs:shapeS d with
 | false=>
  have:okS d=false:=by
   rw [Bool.eq_false_iff]
   intro hok
   have:=((okS_iff d).1 hok).shape
   rw [hs] at this;cases this
  rw [this];rfl
 | true=>
  unfold shapeS at hs
  rw [Bool.and_eq_true,Bool.and_eq_true,decide_eq_true_iff] at hs
  obtain⟨h1,h0,h2⟩:=hs
  obtain⟨hd,ha'⟩:=shape_down h1
  have hml:10000000≤maxLen:=by decide
  have hwo:W d (d.length-1)=wordsOf d:=by
   unfold wordsOf
   rw [wordsAt_eq hd (by omega)]
  have hwl:(wordsOf d).length≤40:=by rw [←hwo];exact small_at h2 (by omega)
  have hwlen: ∀w∈wordsOf d,w.length≤d.length:=fun w hw=>wordsAt_len d _ _ w hw
  rw [Bool.not_true,cond_false,w64_pred (by omega) (by omega),all_ok d hd (fun i hi=>small_at h2 hi) ha' (d.length-1) F [] (by omega) (by omega) (by simp only [List.length_nil];omega),map_nil_app,hwo,Option.bind_some,
   spec_up F _ (by omega) (by omega) (fun w hw=>by have:=hwlen w hw;omega),Option.bind_some]
  unfold okS
  rw [decide_eq_true h0,Bool.true_and]
  cases hu:upS (wordsOf d) with
  | false=>rfl
  | true=>
   have hm:(wordsOf d).map (List.drop 0)=wordsOf d:=by rw [show (List.drop 0:Str→Str)=id from rfl,List.map_id]
   have hup:=(up_iff _).1 hu
   have hb:=spec_put 12 F [] (wordsOf d) 0 (fun _ _=>Nat.zero_le _) (by omega) (by rw [hm];exact hup.fit) (by omega)
   rw [hm] at hb
   have hb:M.spec_l4Build F ([]:List GState) (wordsOf d) (0:Int)=_:=hb
   rw [Bool.not_true,cond_false,hb,Option.bind_some,Bool.true_and]
   have hdw:(build (12+1) [] (wordsOf d)).1=dawgS (wordsOf d):=by unfold dawgS;rw [if_pos hu]
   rw [hdw]
   obtain⟨hg,hgl⟩:=dawg_good (wordsOf d)
   by_cases hlen:(dawgS (wordsOf d)).length=d.length
   ·rw [show (((dawgS (wordsOf d)).length:Int)==(d.length:Int))=true by rw [beq_iff_eq];omega,Bool.not_true,cond_false]
    rw [eq_while (t:=sameS) hlen (fun i a b hx hy=>?_) ?_ F (by omega)]
    ·cases eqBy sameS (dawgS (wordsOf d)) d<;>rfl
    ·rw [decide_eq_false (by omega)];rfl
    ·have hi:=(List.getElem?_eq_some_iff.1 hx).1
     have hfew:=hg.few a (List.mem_of_getElem? hx)
     rw [decide_eq_true (by omega),cond_true,getI_n,getI_n,hx,hy,Option.bind_some,Option.bind_some,spec_same F a b (by omega) (by omega),Option.bind_some,w64_succ' (by omega)]
     cases sameS a b<;>rfl
   ·rw [show (((dawgS (wordsOf d)).length:Int)==(d.length:Int))=false by rw [beq_eq_false_iff_ne];omega,eqBy_len hlen];rfl
end Go.Fk
