/-
  slices.Sort of numbers over a row whose content lies in the item; a row lent to a function that only reads. Of no program.
-/
import Derived.Test.YtpjefkdclnmlfaaGreatCoreSQ
import Derived.Test.YtpjefkdclnmlfaaGreatCoreP
import Derived.Test.YtpjefkdclnmlfaaGreatCoreR
import Derived.Shelf.Sort.Plain
import Derived.Shelf.Slices.In.SortNone
namespace Go.Fk
open Go
set_option linter.unusedSectionVars false
variable [dr:Dr]
def sortZ (xs:List Int):List Int:=xs.mergeSort fun x y=>decide (x≤y)
def sortZO (xs:List Int):Option (List Int):=if xs.length<4611686018427387904 then some (sortZ xs) else none
section
variable {K:KMap}
theorem rowZ {cs:List Value}{xs:List Int}(h:RowAt true tInt K cs xs):cs=xs.map (Value.int .i64)∧∀z∈xs,rng64 z:=by
 obtain⟨⟨_,h1⟩,h2,h3⟩:=h
 have hl:cs.length=xs.length:=by have:=h1 rfl;simpa [tInt] using this
 refine⟨?_,fun z hz=>?_⟩
 ·apply List.ext_getElem?
  intro i
  rcases Nat.lt_or_ge i xs.length with hi | hi
  ·obtain⟨u,⟨rfl,_⟩,hk⟩:=h3 i xs[i] (List.getElem?_eq_getElem hi)
   have:=hk 0 (.int .i64 xs[i]) rfl
   rw [Nat.add_zero,show i*tInt.size=i from Nat.mul_one i] at this
   rw [this,List.getElem?_map,List.getElem?_eq_getElem hi];rfl
  ·rw [List.getElem?_eq_none (by omega),List.getElem?_eq_none (by rw [List.length_map];omega)]
 ·obtain⟨i,hi,rfl⟩:=List.mem_iff_getElem.1 hz
  obtain⟨u,⟨_,hr⟩,_⟩:=h3 i _ (List.getElem?_eq_getElem hi)
  exact hr
theorem rowZ_of {xs:List Int}(h: ∀z∈xs,rng64 z):RowAt true tInt K (xs.map (Value.int .i64)) xs:=
 ⟨⟨by simp [tInt],fun _=>by simp [tInt]⟩,fun c hc=>by obtain⟨z,_,rfl⟩:=List.mem_map.1 hc;rfl,fun i x hx=>⟨.int .i64 x,⟨rfl,h x (List.mem_of_getElem? hx)⟩,fun j d e=>by
  cases j with
  | zero=>
   simp [Value.cells] at e;subst e
   rw [Nat.add_zero,show i*tInt.size=i from Nat.mul_one i,List.getElem?_map,hx];rfl
  | succ j=>simp [Value.cells] at e⟩⟩
end
section
open Go.Proofs Go.Shelf Go.Sort Go.Lib
variable {P:Program}{ρ:Ren}{w w0:World}{K K0:KMap}{M:List Nat}{Lst:List Item}{U:TypeId}
theorem sortZ_call (Ly:Lays.n189 P ρ){a:Option Addr}{n c:Nat}{xs ys:List Int}{cs:List Value}(hS:SH w0 K0 M w K (rowI (.slice a n c) cs U 1::Lst))(hr:RowAt true tInt K cs xs)(hn:n=xs.length)(hy:sortZO xs=some ys):
  Calls P (ρ.f 189) #[.slice a n c] w fun e w'=>∃cs',e= .returned (.tuple #[])∧SH w0 K0 M w' K (rowI (.slice a n c) cs' U 1::Lst)∧RowAt true tInt K cs' ys∧n=ys.length:=by
 unfold sortZO at hy
 split at hy
 case isFalse=>cases hy
 rename_i hlen
 cases hy
 obtain⟨rfl,hz⟩:=rowZ hr
 have hz': ∀z∈sortZ xs,rng64 z:=fun z h=>hz z ((List.mergeSort_perm xs _).mem_iff.1 h)
 have hl':(sortZ xs).length=xs.length:=(List.mergeSort_perm xs _).length_eq
 subst hn
 by_cases h0:xs.length=0
 ·have hx0:xs=[]:=List.eq_nil_of_length_eq_zero h0
  subst hx0
  refine(Any.slices_Sort_int_none Ly a c w).mono fun e w' ⟨he,hw⟩=>?_
  subst he hw
  exact⟨_,rfl,hS,by simpa [sortZ] using hr,by simp [sortZ]⟩
 ·rcases hS.rowI_cases (List.mem_cons_self ..) with ⟨_,h2,_⟩ | ⟨g',cur,rfl,e2,e3,hcl0,hcur,hcs,hct,hKg⟩
  ·omega
  have hown:=hS.own
  have hH:Go.Sort.Holds (Value.int .i64) w g' 0 xs.toArray:=by
   intro j hj
   have hj':j<xs.length:=by simpa using hj
   refine⟨?_,?_⟩
   ·rw [Nat.zero_add]
    have hcell:(xs.map (Value.int .i64))[j]? =some (Value.int .i64 (xs[j]'hj')):=by rw [List.getElem?_map,List.getElem?_eq_getElem hj'];rfl
    have h5:=hS.row_cell (List.mem_cons_self ..) hcell
    rw [h5,getElem!_pos (xs.toArray) j hj];rfl
   ·simp only [World.frozen?,hcur,Nat.zero_add]
    simp
  refine(Any.slices_Sort_int Ly g' 0 c xs w hH hown.1 hlen).mono fun e w' ⟨he,m,os,hw⟩=>?_
  subst he
  refine⟨(sortZ xs).map (Value.int .i64),rfl,?_,rowZ_of hz',hl'.symm⟩
  have hcsz:xs.length≤cur.size:=by rw [hcs];omega
  have hS1:SH w0 K0 M (putRow (Value.int .i64) w g' 0 (sortZ xs).toArray) K (rowI (.slice (some ⟨g',0,none⟩) xs.length c) ((sortZ xs).map (Value.int .i64)) U 1::Lst):=by
   have hrw:putRow (Value.int .i64) w g' 0 (sortZ xs).toArray=w.setRow g' (putCells (Value.int .i64) 0 (sortZ xs).toArray cur).toList.toArray:=by
    have hheap:(putRow (Value.int .i64) w g' 0 (sortZ xs).toArray).heap=(w.setRow g' (putCells (Value.int .i64) 0 (sortZ xs).toArray cur).toList.toArray).heap:=by
     apply Array.ext_getElem?
     intro b
     show (w.heap.modify g' _)[b]? =(w.heap.modify g' _)[b]?
     rw [Array.getElem?_modify,Array.getElem?_modify]
     by_cases hb:g'=b
     ·subst hb;rw [if_pos rfl,if_pos rfl,hcur];simp [onCells]
     ·rw [if_neg hb,if_neg hb]
    calc putRow (Value.int .i64) w g' 0 (sortZ xs).toArray={w with heap:=(putRow (Value.int .i64) w g' 0 (sortZ xs).toArray).heap}:=rfl
     _={w with heap:=(w.setRow g' (putCells (Value.int .i64) 0 (sortZ xs).toArray cur).toList.toArray).heap}:=by rw [hheap]
     _=_:=rfl
   rw [hrw]
   refine hS.setRowI ?_ e2 (by rw [List.length_map,hl',Nat.mul_one]) ?_
   ·simp [putCells,hcs]
   ·apply List.ext_getElem?
    intro o
    rw [List.getElem?_take,Array.getElem?_toList,List.getElem?_map]
    by_cases ho:o<xs.length*1
    ·rw [if_pos ho]
     simp only [putCells,Array.getElem?_mapIdx]
     rw [getElem?_pos cur o (by omega)]
     simp only [Option.map_some,Nat.zero_le,true_and,Nat.zero_add,Nat.sub_zero]
     rw [if_pos (by simp [hl'];omega),getElem!_pos (sortZ xs).toArray o (by simp [hl'];omega),List.getElem?_eq_getElem (show o<(sortZ xs).length by rw [hl'];omega)]
     rfl
    ·rw [if_neg ho,List.getElem?_eq_none (show (sortZ xs).length≤o by rw [hl'];omega)];rfl
  rw [hw]
  exact hS1.growN os m
end
section
variable {P:Program}{w w0:World}{K K0:KMap}{M:List Nat}{L:List Item}{U:TypeId}
theorem lend_call {α:Type}{t:Ty α}{f:FuncId}{vs:Array Value}{v:Value}{S:Prop}{a:Option Addr}{n c:Nat}{cs:List Value}{xs:List α}(hS:SH w0 K0 M w K L)(hm:rowI (.slice a n c) cs U t.size∈L)(hp:0<t.size)(hr:RowAt true t K cs xs)
  (hc:SH w (seeK K w (rowI (.slice a n c) cs U t.size).gs) [] w (seeK K w (rowI (.slice a n c) cs U t.size).gs) []→SliceAt t (seeK K w (rowI (.slice a n c) cs U t.size).gs) a n c xs→Calls P f vs w fun e w'=>∃(K':KMap),e= .returned v∧SH w (seeK K w (rowI (.slice a n c) cs U t.size).gs) [] w' K' []∧S):
  Calls P f vs w fun e w'=>e= .returned v∧SH w0 K0 M w' K L∧S:=by
 have h1:=see_slice (t:=t) hS hm (fun b hb=>hb) hp (hr.mono (see_le hS.holds))
 have h2:SH w0 K0 M w K ([]++L):=hS
 exact(hc (h2.lend (see_holds hS.holds) (fun it hi=>by cases hi)) h1.1).mono fun e w' ⟨K',he,h3,hs⟩=>⟨he,h2.lent (see_le hS.holds) h3 rfl (fun it hi=>by cases hi),hs⟩
end
end Go.Fk
