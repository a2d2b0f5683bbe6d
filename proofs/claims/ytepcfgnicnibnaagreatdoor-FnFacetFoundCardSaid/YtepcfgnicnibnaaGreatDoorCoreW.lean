/-
  Maps that a call owns: the steps of a range b2j a map whose iterator lies anywhere. Of no program.
-/
import Derived.Test.YtepcfgnicnibnaaGreatDoorCoreAL
import Derived.Laws.IdiomRangeMap
import Derived.MapKept
namespace Go.Fk
open Go
set_option linter.unusedSectionVars false
variable [dr:Dr]
variable {P:Program}
theorem b5T (w:World)(ty:TypeId)(bi bm since c0:Nat)(seen:Array Nat)(es:Array MapEntry)(clock:Nat)(hi:w.heap[bi]? =some (.mapIter (some bm) since seen c0))(hb:w.heap[bm]? =some (.map es clock))
  (hold: ∀x∈es.toList,x.born<since)(hsc:since≤c0):
  ((leftOf es seen).size=0∧(Instr.next (.pointer (some ⟨bi,0,none⟩)) false ty).run P w= .ok (.tuple #[.bool false]) w)∨
  ∃e∈(leftOf es seen).toList,∃w1:World,(w1=w∨w1=w.drew)∧(Instr.next (.pointer (some ⟨bi,0,none⟩)) false ty).run P w= .ok (.tuple #[.bool true,e.key,e.val]) {w1 with heap:=w1.heap.setIfInBounds bi (.mapIter (some bm) since (seen.push e.born) clock)}:=by
 simp only [Instr.next,getObj,Sem.run_bind,Sem.run,hi,hb,Result.andThen,next_test_false seen es since c0 hold hsc,Bool.false_eq_true,if_false]
 unfold leftOf
 have hmem: ∀x∈(Array.filter (fun e=> !seen.contains e.born) es).toList,x.born<since:=fun x hx=>hold x (by simp at hx ⊢;exact hx.1)
 generalize Array.filter (fun e=> !seen.contains e.born) es=L at hmem ⊢
 have e1:L.filter (fun x=>decide (x.born<since))=L:=Array.filter_eq_self.2 (fun x hx=>by simpa using hmem x (by simpa using hx))
 have e2:L.filter (fun x=>decide (x.born≥since))=#[]:=by
  rw [Array.filter_eq_empty_iff]
  intro x hx
  have:=hmem x (by simpa using hx)
  simp
  omega
 simp only [e1,e2,Array.append_empty]
 by_cases h0:L.size=0
 ·left
  have:L=#[]:=Array.eq_empty_of_size_eq_zero h0
  subst this
  refine⟨rfl,?_⟩
  simp [choose,Sem.run,Question.forced]
 ·right
  have hne:L.isEmpty=false:=by simp [Array.isEmpty,h0]
  simp only [hne,Bool.false_eq_true,if_false,Array.empty_append,Array.size_map]
  have hch: ∃(j:Nat) (w1:World),j<L.size∧(w1=w∨w1=w.drew)∧(choose (Question.mapNext L.size)).run P w= .ok j w1:=by
   by_cases hf:L.size≤1
   ·exact⟨0,w,by omega,.inl rfl,by simp [choose,Sem.run,Question.forced,hf]⟩
   ·exact⟨_,w.drew,Nat.mod_lt _ (by omega),.inr rfl,by
     simp only [choose,Sem.run,Question.forced,decide_eq_true_eq,hf,if_false,Question.cut]
     rfl⟩
  obtain⟨j,w1,hj,hal,hrun⟩:=hch
  refine⟨L[j],by simp,w1,hal,?_⟩
  have hi1:w1.heap[bi]? =some (.mapIter (some bm) since seen c0):=by rcases hal with rfl | rfl<;>exact hi
  have hset: ∀o':Obj,(setObj bi o').run P w1= .ok () {w1 with heap:=w1.heap.setIfInBounds bi o'}:=fun o'=>by
   simp only [setObj,Sem.run,hi1]
  simp only [hrun,Array.getElem?_map,Array.getElem?_eq_getElem hj,Option.map_some,Sem.run_bind,hset,Result.andThen]
  rfl
theorem b4k (w:World)(bi bm since:Nat)(seen:Array Nat)(es:Array MapEntry)(clock:Nat)(e:MapEntry)(hi:w.heap[bi]? =some (.mapIter (some bm) since (seen.push e.born) clock))(hb:w.heap[bm]? =some (.map es clock))(he:e∈es.toList)(hn:(es.toList.map (·.born)).Nodup):
  (Instr.entry (.pointer (some ⟨bi,0,none⟩))).run P w= .ok (.tuple #[e.key,e.val]) w:=by
 have hf:es.find? (·.born==e.born)=some e:=by rw [←Array.find?_toList];exact find_born e es.toList hn he
 simp only [Instr.entry,getObj,Sem.run_bind,Sem.run,hi,hb,Result.andThen,Array.back?_push,bne_self_eq_false,Bool.false_eq_true,if_false,hf]
 rfl
def a1H (es:Array MapEntry)(m:List (Int×Int)):Prop:=es.toList.map (fun x=>(x.key,x.val))=m.map fun p=>(Value.int .i64 p.1,Value.int .i64 p.2)
theorem a1H.at {es:Array MapEntry}{m:List (Int×Int)}(h:a1H es m)(i:Nat):(es.toList[i]?).map (fun x=>(x.key,x.val))=(m[i]?).map fun p=>(Value.int .i64 p.1,Value.int .i64 p.2):=by
 have:=congrArg (fun l=>l[i]?) h
 simpa [List.getElem?_map] using this
theorem a1H.isKey {es:Array MapEntry}{m:List (Int×Int)}(h:a1H es m): ∀x∈es.toList,MapKept.IsKey (.int .i64) x.key:=fun x hx=>by
 obtain⟨i,hi⟩:=List.getElem?_of_mem hx
 have:=h.at i
 rw [hi] at this
 cases hm:m[i]? with
 | none=>rw [hm] at this;cases this
 | some p=>
  rw [hm] at this
  simp only [Option.map_some,Option.some.injEq,Prod.mk.injEq] at this
  rw [this.1];simp [MapKept.IsKey]
def a1s (m:List (Int×Int))(n:Int):Int:=(m.find? fun p=>p.1==n).elim 0 (·.2)
def a4Z (n v:Int):List (Int×Int)→List (Int×Int)
 | []=>[(n,v)]
 | p::r=>if p.1==n then (n,v)::r else p::a4Z n v r
theorem b62 {n v:Int}: ∀{m:List (Int×Int)},(∀p∈m,p.1≠n)→a4Z n v m=m++[(n,v)]
 | [],_=>rfl
 | p::r,h=>by
  have h1:(p.1==n)=false:=beq_eq_false_iff_ne.2 (h p (by simp))
  unfold a4Z
  rw [h1,if_neg (by simp),b62 (fun q hq=>h q (by simp [hq]))];rfl
theorem b9x {n v:Int}: ∀{m:List (Int×Int)} {j:Nat} {p:Int×Int},(m.Pairwise fun a b=>a.1≠b.1)→m[j]? =some p→p.1=n→a4Z n v m=m.set j (n,v)
 | [],_,_,_,h,_=>by simp at h
 | q::r,0,p,_,h,hp=>by
  simp only [List.getElem?_cons_zero,Option.some.injEq] at h
  subst h
  unfold a4Z
  rw [beq_iff_eq.2 hp,if_pos rfl];rfl
 | q::r,j+1,p,hd,h,hp=>by
  have hc:=List.pairwise_cons.1 hd
  rw [List.getElem?_cons_succ] at h
  have h1:(q.1==n)=false:=beq_eq_false_iff_ne.2 fun e=>hc.1 p (l7 h) (e.trans hp.symm)
  unfold a4Z
  rw [h1,if_neg (by simp),b9x hc.2 h hp];rfl
theorem b9e {n:Int}: ∀{m:List (Int×Int)} {j:Nat} {p:Int×Int},(m.Pairwise fun a b=>a.1≠b.1)→m[j]? =some p→p.1=n→m.find? (fun p=>p.1==n)=some p
 | [],_,_,_,h,_=>by simp at h
 | q::r,0,p,_,h,hp=>by
  simp only [List.getElem?_cons_zero,Option.some.injEq] at h
  subst h
  rw [List.find?_cons,beq_iff_eq.2 hp]
 | q::r,j+1,p,hd,h,hp=>by
  have hc:=List.pairwise_cons.1 hd
  rw [List.getElem?_cons_succ] at h
  have h1:(q.1==n)=false:=beq_eq_false_iff_ne.2 fun e=>hc.1 p (l7 h) (e.trans hp.symm)
  rw [List.find?_cons,h1]
  exact b9e hc.2 h hp
theorem c0A {w:World}{t k e:TypeId}{b:Nat}{es:Array MapEntry}{clock:Nat}{m:List (Int×Int)}{n:Int}(ht:P.underlying t=some (.map k e))(hk:P.underlying k=some (.int .i64))(hz:(zeroValue e).run P w= .ok (.int .i64 0) w)
  (hb:w.heap[b]? =some (.map es clock))(hm:a1H es m)(hd:m.Pairwise fun a b=>a.1≠b.1):(Instr.lookup t (.map (some b)) (.int .i64 n) false).run P w= .ok (.int .i64 (a1s m n)) w:=by
 have hkey:MapKept.IsKey (.int .i64) (.int .i64 n):=by simp [MapKept.IsKey]
 rcases MapKept.findNow_spec hkey es.toList 0 hm.isKey with ⟨h1,h2⟩ | ⟨j,e0,h1,h2,h3⟩
 ·have hl:a1s m n=0:=by
   unfold a1s
   rw [List.find?_eq_none.2 fun p hp hn=>?_]
   ·rfl
   ·obtain⟨i,hi⟩:=List.getElem?_of_mem hp
    have:=hm.at i
    rw [hi] at this
    cases hx:es.toList[i]? with
    | none=>rw [hx] at this;cases this
    | some x=>
     rw [hx] at this
     simp only [Option.map_some,Option.some.injEq,Prod.mk.injEq] at this
     exact h2 x (l7 hx) (by rw [this.1,eq_of_beq hn])
  rw [hl]
  simp [Instr.lookup,run_underlying ht,MapKept.run_getObj_map hb,MapKept.run_checkKey hk hkey,MapKept.run_findKey hk h1,hz,Result.andThen]
 ·have hv:e0.val= .int .i64 (a1s m n):=by
   have:=hm.at j
   rw [h2] at this
   cases hx:m[j]? with
   | none=>rw [hx] at this;cases this
   | some p=>
    rw [hx] at this
    simp only [Option.map_some,Option.some.injEq,Prod.mk.injEq] at this
    rw [h3] at this
    have hpn:p.1=n:=by have:=this.1;injection this with _ e;exact e.symm
    have hfind:=b9e hd hx hpn
    rw [this.2];unfold a1s;rw [hfind];rfl
  simp [Instr.lookup,run_underlying ht,MapKept.run_getObj_map hb,MapKept.run_checkKey hk hkey,MapKept.run_findKey hk h1,Result.andThen,hv]
theorem c2o {w:World}{t k e:TypeId}{b:Nat}{es:Array MapEntry}{clock:Nat}{m:List (Int×Int)}{n v:Int}(ht:P.underlying t=some (.map k e))(hk:P.underlying k=some (.int .i64))
  (hb:w.heap[b]? =some (.map es clock))(hm:a1H es m)(hd:m.Pairwise fun a b=>a.1≠b.1)(hs:MapKept.Stamped es clock):
  ∃es' clock',(Instr.mapUpdate t (.map (some b)) (.int .i64 n) (.int .i64 v)).run P w= .ok () {w with heap:=w.heap.setIfInBounds b (.map es' clock')}∧a1H es' (a4Z n v m)∧MapKept.Stamped es' clock':=by
 have hkey:MapKept.IsKey (.int .i64) (.int .i64 n):=by simp [MapKept.IsKey]
 rcases MapKept.findNow_spec hkey es.toList 0 hm.isKey with ⟨h1,h2⟩ | ⟨j,e0,h1,h2,h3⟩
 ·refine⟨es.push ⟨.int .i64 n,.int .i64 v,clock⟩,clock+1,?_,?_,MapKept.stamped_push hs h2⟩
  ·simp [Instr.mapUpdate,run_underlying ht,MapKept.run_getObj_map hb,MapKept.run_checkKey hk hkey,MapKept.run_findKey hk h1,MapKept.run_setObj_map _ hb,Result.andThen]
  ·have hno: ∀p∈m,p.1≠n:=fun p hp hn=>by
    obtain⟨i,hi⟩:=List.getElem?_of_mem hp
    have:=hm.at i
    rw [hi] at this
    cases hx:es.toList[i]? with
    | none=>rw [hx] at this;cases this
    | some x=>
     rw [hx] at this
     simp only [Option.map_some,Option.some.injEq,Prod.mk.injEq] at this
     exact h2 x (l7 hx) (by rw [this.1,hn])
   rw [b62 hno]
   unfold a1H at hm ⊢
   rw [Array.toList_push,List.map_append,hm,List.map_append];rfl
 ·have hx: ∃p,m[j]? =some p∧p.1=n:=by
   have:=hm.at j
   rw [h2] at this
   cases hx:m[j]? with
   | none=>rw [hx] at this;cases this
   | some p=>
    rw [hx] at this
    simp only [Option.map_some,Option.some.injEq,Prod.mk.injEq] at this
    rw [h3] at this
    exact⟨p,rfl,by have:=this.1;injection this with _ e;exact e.symm⟩
  obtain⟨p,hp,hpn⟩:=hx
  have hj:es[j]? =some e0:=by rw [←Array.getElem?_toList];exact h2
  have hstay:(Instr.keyThatStays (((es[j]?).map (·.key)).getD (.int .i64 n)) (.int .i64 n)).run P w= .ok (.int .i64 n) w:=by
   rw [hj]
   simp [Instr.keyThatStays,h3,Instr.sameBits]
  refine⟨es.modify j fun e=>{e with key:=.int .i64 n,val:=.int .i64 v},clock,?_,?_,?_⟩
  ·simp only [Instr.mapUpdate,Sem.run_bind,run_underlying ht,MapKept.run_getObj_map hb,MapKept.run_checkKey hk hkey,MapKept.run_findKey hk h1,Nat.zero_add,hstay,MapKept.run_setObj_map _ hb,Result.andThen]
  ·rw [b9x hd hp hpn]
   unfold a1H at hm ⊢
   rw [Array.toList_modify]
   apply List.ext_getElem?
   intro i
   have h0:=congrArg (fun l=>l[i]?) hm
   simp only [List.getElem?_map] at h0 ⊢
   rw [List.getElem?_modify,List.getElem?_set]
   by_cases hij:j=i
   ·subst hij
    rw [if_pos rfl,if_pos (i4.1 hp).1,h2]
    simp
   ·rw [if_neg hij,←h0]
    simp [hij]
  ·exact MapKept.stamped_modify hs j _ (fun e _=>rfl) (fun e _ he=>by rw [hj] at he;cases he;exact h3.symm)
def b1Q (g:Nat)(m:List (Int×Int)):E5:=one (some g) True fun o k=>(∃es clock,o=some (.map es clock)∧a1H es m∧MapKept.Stamped es clock)∧∀i,k i=none
section
variable {ops:Array Oper}{Q:Exit→Act→World→Prop}{N:Nat}{E:Env}{w w0:World}{K K0:F0}{M:List Nat}{L:List E5}{x y z:Operand}
variable {d:Tmp}{ty:TypeId}{pos:String}{af:Array Edge}{gd:Option (Nat×Bool)}{rest:List Oper}
theorem a8M {es:Array MapEntry}{clock:Nat}{m:List (Int×Int)}(hm:a1H es m)(hs:MapKept.Stamped es clock):m.Pairwise fun a b=>a.1≠b.1:=by
 have h3:=((MapKept.stamped_iff es clock).1 hs).2.2
 rw [List.pairwise_iff_getElem] at h3 ⊢
 intro i j hi hj hij e
 have hl:es.toList.length=m.length:=by
  have:=congrArg List.length hm
  simpa using this
 have k1:=hm.at i
 have k2:=hm.at j
 rw [j4 (by omega),j4 hi] at k1
 rw [j4 (by omega),j4 hj] at k2
 simp only [Option.map_some,Option.some.injEq,Prod.mk.injEq] at k1 k2
 exact h3 i j (by omega) (by omega) hij (by rw [k1.1,k2.1,e])
theorem SH.newMap (h:SH w0 K0 M w K L):SH w0 K0 M (w.alloc (.map #[] 0)) K (b1Q w.heap.size []::L):=by
 have hn: ∀o,K w.heap.size o=none:=h.ge_none (Nat.le_refl _)
 refine h.step rfl rfl rfl (by simp) (by simp) (fun b hb _=>RowKit.Below.heap_alloc w _ b hb) (by simp) (.inl h.size) h.fresh (fun _ _=>rfl) (fun _ _ e=>e) (fun o v e=>?_) rfl ⟨trivial,⟨⟨#[],0,Go.heap_alloc_new w _,rfl,MapKept.stamped_empty 0⟩,hn⟩⟩
 rw [hn] at e;cases e
theorem SH.mapAt {g:Nat}{m:List (Int×Int)}(h:SH w0 K0 M w K L)(hi:b1Q g m∈L): ∃es clock,w.heap[g]? =some (.map es clock)∧a1H es m∧MapKept.Stamped es clock:=
 ((h.items _ hi).2 g rfl).1
theorem SH.mapSet {g:Nat}{m m':List (Int×Int)}{es':Array MapEntry}{clock':Nat}(h:SH w0 K0 M w K (b1Q g m::L))(hm:a1H es' m')(hs:MapKept.Stamped es' clock'):
  SH w0 K0 M {w with heap:=w.heap.setIfInBounds g (.map es' clock')} K (b1Q g m'::L):=by
 have hown:=h.own
 have hap:=h.apart
 have hn:=((h.items _ (List.mem_cons_self ..)).2 g rfl).2
 refine(h.drop).step rfl rfl rfl (by simp) (by simp) (fun b hb hne=>by simp [Ne.symm hne]) (by simpa using hown.1) hown.2 hap (fun _ _=>rfl) (fun _ _ e=>e) (fun o v e=>?_) rfl ⟨trivial,⟨⟨es',clock',by simp [hown.1],hm,hs⟩,hn⟩⟩
 rw [hn] at e;cases e
theorem b8X {T:TypeId}(hw:N6 ops N E gd)(hd:Nat.blt d N=true)(hS:SH w0 K0 M w K L)
  (h: ∀g w',SH w0 K0 M w' K (b1Q g []::L)→WL P ops Q N rest ((d,.map (some g))::E) w'):WL P ops Q N (⟨some d,.makeMap T none,ty,pos,af,gd⟩::rest) E w:=
 a6k (v:=.map (some w.heap.size)) (w':=w.alloc (.map #[] 0)) hw hd (fun ρ _ _ _ _ _ _=>by
  simp [execOp,Instr.makeMap,newObj,Result.andThen];rfl) (h _ _ hS.newMap)
theorem c2u {T k e:TypeId}{g:Nat}{m:List (Int×Int)}{n:Int}{size bytes:Nat}{agg:Bool}(ht:P.underlying T=some (.map k e))(hk:P.underlying k=some (.int .i64))(hz:TF P e size agg (.int .i64 0) bytes)
  (hx:ev E x=some (.map (some g)))(hy:ev E y=some (.int .i64 n))(hi:b1Q g m∈L)(hS:SH w0 K0 M w K L):RV P E w (.lookup T x y false) (.int .i64 (a1s m n)):=fun ρ _ _ _ _ _ ha=>by
 obtain⟨es,clock,hb,hm,hs⟩:=hS.mapAt hi
 have:=c0A (P:=P) (n:=n) ht hk (a24 hz w) hb hm (a8M hm hs)
 simp only [execOp,ha x _ hx,ha y _ hy,Sem.run_bind,this,Result.andThen_ok]
 rfl
theorem c30 {T k e:TypeId}{g:Nat}{m:List (Int×Int)}{n v:Int}(hw:N6 ops N E gd)(ht:P.underlying T=some (.map k e))(hk:P.underlying k=some (.int .i64))
  (hx:ev E x=some (.map (some g)))(hy:ev E y=some (.int .i64 n))(hv:ev E z=some (.int .i64 v))(hS:SH w0 K0 M w K (b1Q g m::L))
  (h: ∀w',SH w0 K0 M w' K (b1Q g (a4Z n v m)::L)→WL P ops Q N rest E w'):WL P ops Q N (⟨none,.mapUpdate T x y z,ty,pos,af,gd⟩::rest) E w:=by
 obtain⟨es,clock,hb,hm,hs⟩:=hS.mapAt (List.mem_cons_self ..)
 obtain⟨es',clock',hr,hm',hs'⟩:=c2o (P:=P) (n:=n) (v:=v) ht hk hb hm (a8M hm hs) hs
 refine b7R hw (fun ρ _ _ _ _ _ ha=>?_) (h _ (hS.mapSet hm' hs'))
 simp only [execOp,ha x _ hx,ha y _ hy,ha z _ hv,Sem.run_bind,hr,Result.andThen_ok]
 rfl
def b6U (g:Nat)(es:Array MapEntry)(clock:Nat):E5:=one (some g) True fun o k=>o=some (.map es clock)∧∀i,k i=none
def a9M (g bm since:Nat)(seen:Array Nat)(c0:Nat):E5:=one (some g) True fun o k=>o=some (.mapIter (some bm) since seen c0)∧∀i,k i=none
theorem SH.mapOpen {g:Nat}{m:List (Int×Int)}(h:SH w0 K0 M w K (b1Q g m::L)): ∃es clock,SH w0 K0 M w K (b6U g es clock::L)∧a1H es m∧MapKept.Stamped es clock:=by
 obtain⟨es,clock,hb,hm,hs⟩:=h.mapAt (List.mem_cons_self ..)
 have hn:=((h.items _ (List.mem_cons_self ..)).2 g rfl).2
 refine⟨es,clock,⟨h.os,h.tape,h.output,h.holds,h.le,h.size,h.old,h.oldK,fun it hi=>?_,fun it hi=>?_,?_,h.drawn⟩,hm,hs⟩
 ·rcases List.mem_cons.1 hi with rfl | hi
  ·exact⟨trivial,fun b hb'=>by cases hb';exact⟨hb,hn⟩⟩
  ·exact h.items it (List.mem_cons_of_mem _ hi)
 ·rcases List.mem_cons.1 hi with rfl | hi
  ·exact fun b hb'=>h.lt (b1Q g m) (List.mem_cons_self ..) b hb'
  ·exact h.lt it (List.mem_cons_of_mem _ hi)
 ·exact h.nodup
theorem SH.newIter {bm since c0:Nat}{seen:Array Nat}(h:SH w0 K0 M w K L):SH w0 K0 M (w.alloc (.mapIter (some bm) since seen c0)) K (a9M w.heap.size bm since seen c0::L):=by
 have hn: ∀o,K w.heap.size o=none:=h.ge_none (Nat.le_refl _)
 refine h.step rfl rfl rfl (by simp) (by simp) (fun b hb _=>RowKit.Below.heap_alloc w _ b hb) (by simp) (.inl h.size) h.fresh (fun _ _=>rfl) (fun _ _ e=>e) (fun o v e=>?_) rfl ⟨trivial,⟨Go.heap_alloc_new w _,hn⟩⟩
 rw [hn] at e;cases e
theorem SH.iterSet {g bm since c0 c1:Nat}{seen seen':Array Nat}(h:SH w0 K0 M w K (a9M g bm since seen c0::L)):
  SH w0 K0 M {w with heap:=w.heap.setIfInBounds g (.mapIter (some bm) since seen' c1)} K (a9M g bm since seen' c1::L):=by
 have hown:=h.own
 have hap:=h.apart
 have hn:=((h.items _ (List.mem_cons_self ..)).2 g rfl).2
 refine(h.drop).step rfl rfl rfl (by simp) (by simp) (fun b hb hne=>by simp [Ne.symm hne]) (by simpa using hown.1) hown.2 hap (fun _ _=>rfl) (fun _ _ e=>e) (fun o v e=>?_) rfl ⟨trivial,⟨by simp [hown.1],hn⟩⟩
 rw [hn] at e;cases e
theorem c08 {T k e:TypeId}{bm clock:Nat}{es:Array MapEntry}(hw:N6 ops N E gd)(hd:Nat.blt d N=true)(ht:P.underlying T=some (.map k e))(hx:ev E x=some (.map (some bm)))(hS:SH w0 K0 M w K (b6U bm es clock::L))
  (h: ∀g w',SH w0 K0 M w' K (a9M g bm clock #[] clock::b6U bm es clock::L)→WL P ops Q N rest ((d,.pointer (some ⟨g,0,none⟩))::E) w'):WL P ops Q N (⟨some d,.range T x,ty,pos,af,gd⟩::rest) E w:=by
 have hb:=((hS.items _ (List.mem_cons_self ..)).2 bm rfl).1
 refine a6k (v:=.pointer (some ⟨w.heap.size,0,none⟩)) (w':=w.alloc (.mapIter (some bm) clock #[] clock)) hw hd (fun ρ _ _ _ _ _ ha=>?_) (h _ _ hS.newIter)
 simp only [execOp,ha x _ hx,Sem.run_bind,run_range_map w T k e bm es clock ht hb,Result.andThen_ok]
 rfl
theorem b7S {gi bm since c0 clock:Nat}{seen:Array Nat}{es:Array MapEntry}(hw:N6 ops N E gd)(hd:Nat.blt d N=true)(hx:ev E x=some (.pointer (some ⟨gi,0,none⟩)))(hS:SH w0 K0 M w K (a9M gi bm since seen c0::b6U bm es clock::L))
  (hold: ∀x∈es.toList,x.born<since)(hsc:since≤c0)(h0:(leftOf es seen).size=0→WL P ops Q N rest ((d,.tuple #[.bool false])::E) w)
  (h1: ∀e w',e∈(leftOf es seen).toList→SH w0 K0 M w' K (a9M gi bm since (seen.push e.born) clock::b6U bm es clock::L)→WL P ops Q N rest ((d,.tuple #[.bool true,e.key,e.val])::E) w'):
  WL P ops Q N (⟨some d,.next x false,ty,pos,af,gd⟩::rest) E w:=by
 have hi:=((hS.items _ (List.mem_cons_self ..)).2 gi rfl).1
 have hb:=((hS.items _ (List.mem_cons_of_mem _ (List.mem_cons_self ..))).2 bm rfl).1
 rcases b5T (P:=P) w ty gi bm since c0 seen es clock hi hb hold hsc with ⟨hl,hr⟩ | ⟨e,he,w1,hw1,hr⟩
 ·have key: ∀(ρ:Operand→Value) (dst:Option Tmp) (pos:String) (af:Array Edge) (gd:Option (Nat×Bool)),b4q E ρ→(execOp ρ ⟨dst,.next x false,ty,pos,af,gd⟩).run P w= .ok (.value (.tuple #[.bool false])) w:=fun ρ _ _ _ _ ha=>by
   simp only [execOp,ha x _ hx,Sem.run_bind,hr,Result.andThen_ok]
   rfl
  refine a6F (fun t ht=>hw t _ _ _ _ _ ht) fun t ht=>?_
  unfold Oper.wp
  rw [key _ _ _ _ _ ht.agree]
  exact h0 hl _ (ht.put hd _)
 ·have key: ∀(ρ:Operand→Value) (dst:Option Tmp) (pos:String) (af:Array Edge) (gd:Option (Nat×Bool)),b4q E ρ→(execOp ρ ⟨dst,.next x false,ty,pos,af,gd⟩).run P w= .ok (.value (.tuple #[.bool true,e.key,e.val])) {w1 with heap:=w1.heap.setIfInBounds gi (.mapIter (some bm) since (seen.push e.born) clock)}:=fun ρ _ _ _ _ ha=>by
   simp only [execOp,ha x _ hx,Sem.run_bind,hr,Result.andThen_ok]
   rfl
  refine a6F (fun t ht=>hw t _ _ _ _ _ ht) fun t ht=>?_
  unfold Oper.wp
  rw [key _ _ _ _ _ ht.agree]
  have hS1:SH w0 K0 M w1 K (a9M gi bm since seen c0::b6U bm es clock::L):=by
   rcases hw1 with rfl | rfl
   ·exact hS
   ·exact hS.drew
  exact h1 e _ he hS1.iterSet _ (ht.put hd _)
theorem c0D {gi bm since clock:Nat}{seen:Array Nat}{es:Array MapEntry}{e:MapEntry}(hx:ev E x=some (.pointer (some ⟨gi,0,none⟩)))(hi:a9M gi bm since (seen.push e.born) clock∈L)(hb:b6U bm es clock∈L)(hS:SH w0 K0 M w K L)
  (he:e∈es.toList)(hs:MapKept.Stamped es clock):RV P E w (.entry x) (.tuple #[e.key,e.val]):=fun ρ _ _ _ _ _ ha=>by
 have h1:=((hS.items _ hi).2 gi rfl).1
 have h2:=((hS.items _ hb).2 bm rfl).1
 have:=b4k (P:=P) w gi bm since seen es clock e h1 h2 he ((MapKept.stamped_iff es clock).1 hs).2.1
 simp only [execOp,ha x _ hx,Sem.run_bind,this,Result.andThen_ok]
 rfl
end
def Y7 (x:MapEntry):Int×Int:=match x.key,x.val with | .int _ a,.int _ b=>(a,b) | _,_=>(0,0)
theorem a1H.pairs {es:Array MapEntry}{m:List (Int×Int)}(h:a1H es m):es.toList.map Y7=m:=by
 apply List.ext_getElem?
 intro i
 have:=h.at i
 rw [List.getElem?_map]
 cases hx:es.toList[i]? with
 | none=>
  rw [hx] at this
  cases hm:m[i]? with
  | none=>rfl
  | some p=>rw [hm] at this;cases this
 | some x=>
  rw [hx] at this
  cases hm:m[i]? with
  | none=>rw [hm] at this;cases this
  | some p=>
   rw [hm] at this
   simp only [Option.map_some,Option.some.injEq,Prod.mk.injEq] at this
   simp only [Option.map_some,Option.some.injEq]
   unfold Y7
   rw [this.1,this.2]
theorem a1H.entry {es:Array MapEntry}{m:List (Int×Int)}(h:a1H es m){e:MapEntry}(he:e∈es.toList):e.key= .int .i64 (Y7 e).1∧e.val= .int .i64 (Y7 e).2:=by
 obtain⟨i,hi⟩:=List.getElem?_of_mem he
 have:=h.at i
 rw [hi] at this
 cases hm:m[i]? with
 | none=>rw [hm] at this;cases this
 | some p=>
  rw [hm] at this
  simp only [Option.map_some,Option.some.injEq,Prod.mk.injEq] at this
  unfold Y7
  rw [this.1,this.2];exact⟨rfl,rfl⟩
def b5g (es:Array MapEntry)(seen:Array Nat)(done:List (Int×Int)):Prop:=done.Perm ((es.toList.filter fun x=>seen.contains x.born).map Y7)
theorem c1L (es:Array MapEntry):b5g es #[] []:=by
 have:(es.toList.filter fun x=>(#[]:Array Nat).contains x.born)=[]:=List.filter_eq_nil_iff.2 fun x _=>by simp
 unfold b5g
 rw [this];exact List.Perm.refl _
theorem b6v {es:Array MapEntry}{seen:Array Nat}{done:List (Int×Int)}(h:b5g es seen done)(hl:(leftOf es seen).size=0):done.Perm (es.toList.map Y7):=by
 have:(es.toList.filter fun x=>seen.contains x.born)=es.toList:=List.filter_eq_self.2 fun x hx=>all_seen es seen hl x hx
 unfold b5g at h
 rwa [this] at h
theorem b1e {seen:Array Nat}{e:MapEntry}(hs:seen.contains e.born=false): ∀l:List MapEntry,(l.map (·.born)).Nodup→e∈l→(l.filter fun x=>(seen.push e.born).contains x.born).Perm ((l.filter fun x=>seen.contains x.born)++[e])
 | [],_,h=>by cases h
 | x::r,hn,h=>by
  have hn':x.born∉r.map (·.born)∧(r.map (·.born)).Nodup:=List.nodup_cons.1 hn
  rw [List.filter_cons,List.filter_cons,contains_push]
  rcases List.mem_cons.1 h with rfl | h
  ·have hrest:(r.filter fun x=>(seen.push e.born).contains x.born)=r.filter fun x=>seen.contains x.born:=by
    refine List.filter_congr fun x hx=>?_
    rw [contains_push]
    have:(x.born==e.born)=false:=beq_eq_false_iff_ne.2 fun k=>hn'.1 (by rw [←k];exact List.mem_map.2 ⟨x,hx,rfl⟩)
    rw [this,Bool.or_false]
   rw [hs,Bool.false_or,beq_self_eq_true,if_pos rfl,if_neg (by simp),hrest]
   exact(List.perm_append_singleton _ _).symm
  ·have ih:=b1e hs r hn'.2 h
   have hx:(x.born==e.born)=false:=beq_eq_false_iff_ne.2 fun k=>hn'.1 (by rw [k];exact List.mem_map.2 ⟨e,h,rfl⟩)
   rw [hx,Bool.or_false]
   cases seen.contains x.born
   ·rw [if_neg (by simp),if_neg (by simp)];exact ih
   ·rw [if_pos rfl,if_pos rfl];exact ih.cons x
theorem b4x {es:Array MapEntry}{seen:Array Nat}{done:List (Int×Int)}{e:MapEntry}{clock:Nat}(h:b5g es seen done)(hs:MapKept.Stamped es clock)(he:e∈(leftOf es seen).toList):b5g es (seen.push e.born) (done++[Y7 e]):=by
 obtain⟨h1,h2⟩:=mem_left he
 have hp:=b1e h2 es.toList ((MapKept.stamped_iff es clock).1 hs).2.1 h1
 unfold b5g at h ⊢
 refine List.Perm.trans ?_ (hp.map Y7).symm
 rw [List.map_append]
 exact h.append_right _
theorem c1K {es:Array MapEntry}{seen:Array Nat}{done:List (Int×Int)}(h:b5g es seen done):done.length≤es.toList.length:=by
 have:=h.length_eq
 rw [List.length_map] at this
 have h2:=List.length_filter_le (fun x:MapEntry=>seen.contains x.born) es.toList
 omega
end Go.Fk
