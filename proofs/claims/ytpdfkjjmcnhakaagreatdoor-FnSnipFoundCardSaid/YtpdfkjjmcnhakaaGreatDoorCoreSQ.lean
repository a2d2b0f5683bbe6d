import Derived.Test.YtpdfkjjmcnhakaaGreatDoorCoreJL
import Derived.Shelf.SlSortCmp.WholeK
import Derived.Sort.LotA
import Derived.Test.YtpdfkjjmcnhakaaGreatDoorCoreMZ
/-
  slices.SortFunc b4P a call's state: out of the kit's contract. Of no program.
-/
namespace Go.Fk
open Go
set_option linter.unusedSectionVars false
variable [dr:Dr]
section
variable {w w0:World}{K K0:C7}{M:List Nat}{L:List B8}
theorem SH.grown (h:SH w0 K0 [] w K L)(hd:dr.D): ∃(q:Nat) (os:Array Obj),w=Go.Sort.grow (w0.drewN q) os:=by
 refine⟨w.drawn-w0.drawn,w.heap.extract w0.heap.size w.heap.size,?_⟩
 have h1:=h.os
 have h2:=h.tape
 have h3:=h.output
 have h4:=h.drawn hd
 have h5:=h.size
 have h6:=fun b hb=>h.old b hb (by simp)
 obtain⟨heap,tape,drawn,os,output⟩:=w
 obtain⟨heap0,tape0,drawn0,os0,output0⟩:=w0
 simp only at h1 h2 h3 h4 h5 h6
 subst h1 h2 h3
 unfold Go.Sort.grow World.drewN
 simp only [World.mk.injEq,true_and]
 refine⟨?_,by omega,trivial⟩
 apply Array.ext_getElem?
 intro i
 rcases Nat.lt_or_ge i heap0.size with hi | hi
 ·rw [Array.getElem?_append_left hi,h6 i hi]
 ·rw [Array.getElem?_append_right hi,Array.getElem?_extract]
  split
  ·congr 1;omega
  ·rw [Array.getElem?_eq_none];omega
theorem SH.growN (h:SH w0 K0 M w K L)(os:Array Obj)(m:Nat):SH w0 K0 M (Go.Sort.grow (Go.Sort.ahead w m) os) K L:=by
 have hat: ∀b,b<w.heap.size→(Go.Sort.grow (Go.Sort.ahead w m) os).heap[b]? =w.heap[b]? :=fun b hb=>by
  show (w.heap++os)[b]? =_
  rw [Array.getElem?_append_left hb]
 have hsz:w.heap.size≤(Go.Sort.grow (Go.Sort.ahead w m) os).heap.size:=by
  show w.heap.size≤(w.heap++os).size
  simp
 refine⟨h.os,h.tape,h.output,fun b o v e=>?_,h.le,Nat.le_trans h.size hsz,fun b hb hm=>?_,h.oldK,fun it hi=>?_,fun it hi b hb=>?_,h.nodup,fun d=>Nat.le_trans (h.drawn d) (Nat.le_add_right _ _)⟩
 ·have hlt:=h.holds.lt e
  rw [World.cell?_of_block (w:=w) (a:=⟨b,o,none⟩) (hat b hlt)]
  exact h.holds b o v e
 ·rw [hat b (Nat.lt_of_lt_of_le hb h.size)]
  exact h.old b hb hm
 ·have h1:=h.items it hi
  exact⟨h1.1,it.loc (fun b hb=>⟨(hat b (h.lt it hi b hb).1).symm,rfl⟩) h1.2⟩
 ·have:=h.lt it hi b hb
  exact⟨Nat.lt_of_lt_of_le this.1 hsz,this.2⟩
end
section
open Go.Proofs Go.Shelf Go.Sort Go.Lib
variable {P:Program}{ρ:Ren}{β:Type}{w w0:World}{K K0:C7}{M:List Nat}{Lst:List B8}{U:TypeId}
end
end Go.Fk
namespace Go.Fk
open Go
set_option linter.unusedSectionVars false
variable [dr:Dr]
section
open Go.Proofs Go.Shelf Go.Sort Go.Lib
variable {P:Program}{ρ:Ren}{β:Type}{w w0:World}{K K0:C7}{M:List Nat}{Lst:List B8}{U:TypeId}
theorem b41 (Ly:SlLaysF0.n6 P ρ)(hnone: ∀(p:Option Addr) (cap:Nat) (fv:Value) (w:World),Calls P (ρ.f 6) #[.slice p 0 cap,fv] w fun e w'=>e= .returned (.tuple #[])∧w'=w){T:Ty β}(hagg:T.agg=true)(aE: ∀w,(isAgg (ρ.t 24)).run P w= .ok true w)(zE: ∀w,(Go.sizeOf (ρ.t 24)).run P w= .ok T.size w)(cO:β→β→Option Int)
  (g:Nat)(eg: ∀args w,(callFunc g args).run P w= .ok (.enter g args) w){a:Option Addr}{n c:Nat}{xs ys:List β}{cs:List Value}
  (hS:SH w0 K0 M w K (N0 (.slice a n c) cs U T.size::Lst))(hr:A9 true T K cs xs)(hn:n=xs.length)
  (hcmp: ∀(K1:C7) (W:World) v x u y r,Go.Fk.F0 K1 W→T.rel K1 v x→T.rel K1 u y→cO x y=some r→Calls P g #[v,u] W fun e w'=>∃K',e= .returned (.int .i64 r)∧ @SH ⟨True⟩ W K1 [] w' K' [])
  (hy:b14 cO xs=some ys):
  Calls P (ρ.f 6) #[.slice a n c,.func (.func g) #[] #[]] w fun e w'=>∃cs',e= .returned (.tuple #[])∧SH w0 K0 M w' K (N0 (.slice a n c) cs' U T.size::Lst)∧A9 true T K cs' ys∧n=ys.length:=by
 unfold b14 at hy
 split at hy
 case isFalse=>cases hy
 rename_i hcond
 unfold b0V at hcond
 simp only [l5,decide_eq_true_iff,List.all_eq_true] at hcond
 obtain⟨⟨⟨⟨⟨hlen,hsome⟩,hirr⟩,htr⟩,hntr⟩,hpw⟩:=hcond
 cases hy
 subst hn
 by_cases hn:xs.length=0
 ·have hx0:xs=[]:=List.eq_nil_of_length_eq_zero hn
  subst hx0
  refine(hnone a c (.func (.func g) #[] #[]) w).mono fun e w' ⟨he,hw⟩=>?_
  subst he hw
  exact⟨cs,rfl,hS,by simpa using hr,by simp⟩
 ·have hnpos:0<xs.length:=by omega
  rcases hS.rowI_cases (List.mem_cons_self ..) with ⟨_,h2,_⟩ | ⟨g',cur,rfl,e2,e3,hcl0,hcur,hcs,hct,hKg⟩
  ·omega
  have hcl:cs.length=xs.length*T.size:=hcl0
  obtain⟨_,hc1,hcr⟩:=hr
  have hown:=hS.own
  -- the elements' cells
  let sz:=T.size
  let enc:Fin xs.length→List Value:=fun i=>(cs.drop (i.1*sz)).take sz
  have hsub: ∀i:Fin xs.length,i.1*sz+sz≤cs.length:=fun i=>by
   rw [hcl]
   have h1:(i.1+1)*sz≤xs.length*sz:=Nat.mul_le_mul_right _ i.2
   rw [Nat.add_mul,Nat.one_mul] at h1
   exact h1
  have henc: ∀i,(enc i).length=sz:=fun i=>by
   have:=hsub i
   simp only [enc,List.length_take,List.length_drop]
   omega
  have hone: ∀i,∀v∈enc i,v.oneCell'=true:=fun i v hv=>hc1 v (List.mem_of_mem_drop (List.mem_of_mem_take hv))
  have hval1: ∀i:Fin xs.length,T.rel K (.agg (enc i).toArray) xs[i.1]:=fun i=>by
   obtain⟨u,hu,hk⟩:=hcr i.1 xs[i.1] (i6 i.2)
   rcases T.shape hu with ⟨_,c',rfl⟩ | ⟨hf,_⟩
   ·have hsz:=T.size_eq hu
    have:enc i=c'.toList:=by
     apply List.ext_getElem?
     intro j
     rcases Nat.lt_or_ge j sz with hj | hj
     ·have hj2:j<c'.size:=by simpa [Value.cells] using (show j<(Value.agg c').cells.size by rw [hsz];exact hj)
      have:=hk j c'[j] (by simp [Value.cells])
      simp only [enc]
      rw [List.getElem?_take,if_pos hj,List.getElem?_drop,this]
      simp
     ·rw [List.getElem?_eq_none (by rw [henc];exact hj),List.getElem?_eq_none (by
       have:c'.size=sz:=by simpa [Value.cells] using hsz
       simp only [Array.length_toList];omega)]
    rw [this]
    simpa using hu
   ·rw [hagg] at hf;cases hf
  have hK1: ∀b o v,K b o=some v→b≠g'∧K b o=some v:=fun b o v e=>by
   by_cases hb:b=g'
   ·subst hb;rw [hKg] at e;cases e
   ·exact⟨hb,e⟩
  have:Inhabited (Fin xs.length):=⟨⟨0,hnpos⟩⟩
  let cf:Fin xs.length→Fin xs.length→Int:=fun i j=>(cO xs[i.1] xs[j.1]).getD 0
  have hmem: ∀i:Fin xs.length,xs[i.1]∈xs:=fun i=>List.getElem_mem i.2
  have hlt: ∀x y,(ltOf cf) x y=ltO cO xs[x.1] xs[y.1]:=fun x y=>rfl
  have hOF:SWO (ltOf cf):=⟨fun x=>by have:=hirr _ (hmem x);rw [hlt];simpa using this,fun x y z h1 h2=>by
   have:=htr _ (hmem x) _ (hmem y) _ (hmem z)
   rw [hlt] at h1 h2 ⊢
   rw [h1,h2] at this
   simpa using this,fun x y z h1 h2=>by
   have:=hntr _ (hmem x) _ (hmem y) _ (hmem z)
   rw [hlt] at h1 h2 ⊢
   rw [h1,h2] at this
   simpa using this⟩
  have hT: ∀x y:Fin xs.length,(ltOf cf) x y=false→(ltOf cf) y x=false→x=y:=fun x y h1 h2=>by
   rcases Nat.lt_trichotomy x.1 y.1 with h | h | h
   ·have:=List.pairwise_iff_getElem.1 hpw x.1 y.1 x.2 y.2 h
    rw [hlt] at h1 h2
    rw [h1,h2] at this
    simp at this
   ·exact Fin.ext h
   ·have:=List.pairwise_iff_getElem.1 hpw y.1 x.1 y.2 x.2 h
    rw [hlt] at h1 h2
    rw [h1,h2] at this
    simp at this
  let d:Array (Fin xs.length):=(List.finRange xs.length).toArray
  have hdsz:d.size=xs.length:=by simp [d]
  have hdat: ∀j,(hj:j<xs.length)→d[j]! =⟨j,hj⟩:=fun j hj=>by
   rw [getElem!_pos d j (by rw [hdsz];exact hj)]
   simp [d]
  have hfl: ∀(d':Array (Fin xs.length)) t,t<d'.size*sz→(flatK enc sz d')[t]? =some ((enc d'[t/sz]!)[t%sz]!):=fun d' t ht=>by
   rw [getElem?_pos _ _ (by rw [size_flatK];exact ht)]
   have:=get_flatK enc sz d' t ht
   rw [getElem!_pos _ _ (by rw [size_flatK];exact ht)] at this
   rw [this]
  have hH:HoldsK enc sz w g' 0 d:=by
   intro t ht
   rw [size_flatK,hdsz] at ht
   have hszp:0<sz:=by
    rcases Nat.eq_zero_or_pos sz with h | h
    ·rw [h] at ht;omega
    ·exact h
   have hq:t/sz<xs.length:=Nat.div_lt_of_lt_mul (by rw [Nat.mul_comm];exact ht)
   have hmod:=Nat.mod_lt t hszp
   have hdm:=Nat.div_add_mod t sz
   refine⟨?_,?_⟩
   ·rw [get_flatK enc sz d t (by rw [hdsz];exact ht),hdat _ hq]
    have h1:(enc ⟨t/sz,hq⟩)[t%sz]! =cs[t]'(by rw [hcl];exact ht):=by
     rw [getElem!_pos _ _ (by rw [henc];exact hmod)]
     simp only [enc,List.getElem_take,List.getElem_drop]
     congr 1
     rw [Nat.mul_comm];omega
    rw [h1]
    rw [Nat.zero_add];exact hS.row_cell (List.mem_cons_self ..) (i6 (by rw [hcl];exact ht))
   ·simp only [World.frozen?,hcur,Nat.zero_add]
    simp
  have hlays:CmpLays P g #[] enc sz cf g' 0 d.size w:=by
   intro m os dk hdk x y
   have hSW:Go.Fk.F0 K (sortWorldK enc sz w g' 0 m dk os):=fun b o v e=>by
    obtain⟨hb,hkv⟩:=hK1 b o v e
    have hlt:=hS.holds.lt hkv
    have hat:(sortWorldK enc sz w g' 0 m dk os).heap[b]? =w.heap[b]? :=by
     show ((w.heap.modify g' _)++os)[b]? =_
     rw [Array.getElem?_append_left (by simpa using hlt),Array.getElem?_modify,if_neg (fun e=>hb e.symm)]
    rw [World.cell?_of_block (w:=w) (a:=⟨b,o,none⟩) hat]
    exact hS.holds b o v hkv
   obtain⟨r,hr⟩:=Option.isSome_iff_exists.1 (hsome _ (hmem x) _ (hmem y))
   have hcf:cf x y=r:=by simp only [cf];rw [hr];rfl
   rw [hcf]
   refine(hcmp K _ _ _ _ _ r hSW (hval1 x) (hval1 y) hr).mono fun e w' ⟨K',he,hSH⟩=>⟨he,?_⟩
   exact SH.grown (dr:=⟨True⟩) hSH trivial
  have hcall:Calls P (ρ.f 6) #[.slice (some ⟨g',0,none⟩) d.size c,.func (.func g) #[] #[]] w fun e w'=>e= .returned (.tuple #[])∧∃m os,w'=sortWorldK enc sz w g' 0 m (d.toList.mergeSort fun x y=> !(ltOf cf) y x).toArray os:=
   (AnyQ.slices_SortFunc Ly sz aE zE enc henc hone cf hOF g #[] g' 0 c d w eg hlays hH hown.1 (by rw [hdsz];exact hlen)).mono fun e w' ⟨he,d',m,os,hp,hso,hw0⟩=>⟨he,m,os,by rw [hw0,←sorted_unique_holds hOF hT d d' hp hso]⟩
  rw [hdsz] at hcall
  refine hcall.mono fun e w' ⟨he,m,os,hw⟩=>?_
  subst he
  have hys:xs.mergeSort (fun x y=> !ltO cO y x)=(d.toList.mergeSort fun x y=> !(ltOf cf) y x).map fun i=>xs[i.1]'i.2:=by
   rw [List.map_mergeSort (r:=fun x y=> !(ltOf cf) y x) (s:=fun x y=> !ltO cO y x) (f:=fun i:Fin xs.length=>xs[i.1]'i.2) (fun a _ b _=>rfl)]
   congr 1
   apply List.ext_getElem
   ·simp [d]
   ·intro i h1 h2
    simp [d]
  have hpl:(d.toList.mergeSort fun x y=> !(ltOf cf) y x).length=xs.length:=by rw [List.length_mergeSort];simp [d]
  generalize (d.toList.mergeSort fun x y=> !(ltOf cf) y x)=ps at hw hys hpl
  -- the cells behind the call
  have hfsz:(flatK enc sz ps.toArray).size=xs.length*sz:=by rw [size_flatK];simp [hpl]
  have hcsz:xs.length*sz≤cur.size:=by rw [hcs];exact Nat.mul_le_mul_right _ e2
  have hS1:SH w0 K0 M (putRowK enc sz w g' 0 ps.toArray) K (N0 (.slice (some ⟨g',0,none⟩) xs.length c) (flatK enc sz ps.toArray).toList U T.size::Lst):=by
   have hrw:putRowK enc sz w g' 0 ps.toArray=w.setRow g' (putCells id 0 (flatK enc sz ps.toArray) cur).toList.toArray:=by
    have hheap:(putRowK enc sz w g' 0 ps.toArray).heap=(w.setRow g' (putCells id 0 (flatK enc sz ps.toArray) cur).toList.toArray).heap:=by
     apply Array.ext_getElem?
     intro b
     show (w.heap.modify g' _)[b]? =(w.heap.modify g' _)[b]?
     rw [Array.getElem?_modify,Array.getElem?_modify]
     by_cases hb:g'=b
     ·subst hb;rw [if_pos rfl,if_pos rfl,hcur];simp [onCells]
     ·rw [if_neg hb,if_neg hb]
    calc putRowK enc sz w g' 0 ps.toArray={w with heap:=(putRowK enc sz w g' 0 ps.toArray).heap}:=rfl
     _={w with heap:=(w.setRow g' (putCells id 0 (flatK enc sz ps.toArray) cur).toList.toArray).heap}:=by rw [hheap]
     _=_:=rfl
   rw [hrw]
   refine hS.setRowI ?_ e2 (by rw [Array.length_toList,hfsz]) ?_
   ·simp [putCells,hcs]
   ·apply List.ext_getElem?
    intro o
    rw [List.getElem?_take,Array.getElem?_toList,Array.getElem?_toList]
    by_cases ho:o<xs.length*sz
    ·rw [if_pos ho]
     simp only [putCells,Array.getElem?_mapIdx]
     rw [getElem?_pos cur o (by omega)]
     simp only [Option.map_some,Nat.zero_le,true_and,Nat.zero_add,Nat.sub_zero,id]
     rw [if_pos (by rw [hfsz];exact ho)]
     rw [getElem!_pos _ _ (by rw [hfsz];exact ho),←Array.getElem?_eq_getElem]
    ·rw [if_neg ho,Array.getElem?_eq_none (by rw [hfsz];omega)]
  have hfl2:(flatK enc sz ps.toArray).toList.length=ps.length*sz:=by rw [Array.length_toList,size_flatK];simp
  refine⟨(flatK enc sz ps.toArray).toList,rfl,?_,?_,?_⟩
  ·rw [hw]
   exact hS1.growN os m
  ·rw [hys]
   refine⟨⟨by rw [hfl2,List.length_map];exact Nat.le_refl _,fun _=>by rw [hfl2,List.length_map]⟩,fun c hc=>?_,fun j x hx=>?_⟩
   ·obtain⟨k,hk,e⟩:=List.getElem_of_mem hc
    rw [hfl2] at hk
    have h1:=hfl ps.toArray k (by simpa using hk)
    rw [←Array.getElem?_toList,i6 (by rw [hfl2];exact hk),e] at h1
    injection h1 with h1
    have hszp:0<sz:=by
     rcases Nat.eq_zero_or_pos sz with h | h
     ·rw [h] at hk;omega
     ·exact h
    rw [h1,getElem!_pos _ _ (by rw [henc];exact Nat.mod_lt _ hszp)]
    exact hone _ _ (List.getElem_mem _)
   rw [List.getElem?_map] at hx
   obtain⟨i,hi,rfl⟩:=Option.map_eq_some_iff.1 hx
   have hj:j<ps.length:=(g8.1 hi).1
   refine⟨.agg (enc i).toArray,hval1 i,fun e v he=>?_⟩
   have hel:e<sz:=by
    have:=(g8.1 he).1
    simpa [Value.cells,henc] using this
   have ht:j*sz+e<ps.toArray.size*sz:=by
    have h1:(j+1)*sz≤ps.length*sz:=Nat.mul_le_mul_right _ hj
    rw [Nat.add_mul,Nat.one_mul] at h1
    simp only [List.size_toArray];omega
   show (flatK enc sz ps.toArray).toList[j*sz+e]? =some v
   rw [Array.getElem?_toList,hfl ps.toArray (j*sz+e) ht]
   have hdiv:(j*sz+e)/sz=j:=by
    rw [Nat.mul_comm,Nat.mul_add_div (by omega),Nat.div_eq_of_lt hel,Nat.add_zero]
   have hmd:(j*sz+e)%sz=e:=by
    rw [Nat.mul_comm,Nat.mul_add_mod,Nat.mod_eq_of_lt hel]
   rw [hdiv,hmd]
   have hpj:ps.toArray[j]! =i:=by
    rw [getElem!_pos _ _ (by simpa using hj)]
    have:=(g8.1 hi).2
    simpa using this
   rw [hpj,getElem!_pos _ _ (by rw [henc];exact hel)]
   have:=(g8.1 he)
   obtain⟨h1,h2⟩:=this
   rw [←h2]
   simp [Value.cells]
  ·rw [List.length_mergeSort]
end
end Go.Fk
