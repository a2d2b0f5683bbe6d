import Derived.Test.YtpdfkjjmcnhakaaGreatDoorCoreE
import Derived.Deep.LoopGhost
import Derived.Deep.Quiet
import Derived.Laws.BytesString
/-
  Literals, calls, loops, a call's beginning and end: of no program.
-/
namespace Go.Fk
open Go
set_option linter.unusedSectionVars false
variable [dr:Dr]
section
variable {P:Program}{ops:Array Oper}{Q:Exit→Act→World→Prop}{N:Nat}{E:X6}{w w0:World}{K K0:C7}{M:List Nat}{L:List B8}
variable {x y:Operand}{T T' U:TypeId}{size bytes:Nat}{zero:Value}{agg:Bool}
def evP (E:X6):List (Nat×Operand)→Option (List (Nat×Value))
 | []=>some []
 | (i,x)::r=>(ev E x).bind fun v=>(evP E r).map fun l=>(i,v)::l
theorem b0l {ρ:Operand→Value}(ha:b3g E ρ): ∀{l:List (Nat×Operand)} {r:List (Nat×Value)},evP E l=some r→l.map (fun p=>(p.1,ρ p.2))=r
 | [],r,h=>by simp [evP] at h;simp [h]
 | (i,x)::l,r,h=>by
  simp only [evP] at h
  obtain⟨v,hv,h⟩:=Option.bind_eq_some_iff.1 h
  obtain⟨l',hl,rfl⟩:=Option.map_eq_some_iff.1 h
  simp [ha x v hv,b0l ha hl]
def Q3 (P:Program)(T:TypeId):Option (List (Nat×Nat)):=
 match P.underlying T with
 | some (.struct fs)=>fs.toList.mapM fun f=>(P.info? f.type).map fun i=>(f.offset,i.size)
 | _=>none
theorem a8U: ∀(fs:List Field) (pl:List (Nat×Nat)) (w:World),fs.mapM (fun f=>(P.info? f.type).map fun i=>(f.offset,i.size))=some pl→
  (fs.mapM (fun f=>do pure (f.offset,←sizeOf f.type)):Sem (List (Nat×Nat))).run P w= .ok pl w
 | [],pl,w,h=>by simp at h;subst h;simp
 | f::fs,pl,w,h=>by
  simp only [List.mapM_cons,Option.bind_eq_bind,Option.bind_eq_some_iff] at h
  obtain⟨p,hp,l,hl,h⟩:=h
  obtain⟨i,hi,rfl⟩:=Option.map_eq_some_iff.1 hp
  cases h
  have ih:=a8U fs l w hl
  have h1:((do pure (f.offset,←sizeOf f.type)):Sem (Nat×Nat)).run P w= .ok (f.offset,i.size) w:=by simp [sizeOf,typeInfo,hi]
  rw [List.mapM_cons,Sem.run_bind,h1,Result.andThen_ok,Sem.run_bind,ih,Result.andThen_ok]
  rfl
theorem C4 {parts:List (Nat×Operand)}{pv:List (Nat×Value)}{pl:List (Nat×Nat)}{z cs:Array Value}(hP:Q3 P T=some pl)(hT:TF P T size true (.agg z) bytes)(hev:evP E parts=some pv)
  (hf:Instr.fill (fun i=>pl[i]?) z pv=some cs):RV P E w (.build T parts.toArray) (.agg cs):=fun ρ _ _ _ _ _ ha=>by
 unfold Q3 at hP
 split at hP
 ·rename_i fs hu
  have hr:=a8U (P:=P) fs.toList pl w hP
  have e:=b0l ha hev
  have hm:(fs.mapM (fun f=>do pure (f.offset,←sizeOf f.type)):Sem (Array (Nat×Nat))).run P w= .ok pl.toArray w:=by
   rw [Array.mapM_eq_mapM_toList]
   simp only [Sem.run_map,hr,Result.andThen_ok]
  simp only [execOp,Instr.build,Sem.run_bind,a1I hT,run_underlying hu,Result.andThen_ok,List.map_toArray,e]
  simp only [bind_pure_comp] at hm ⊢
  simp only [hm,Result.andThen_ok,Value.cells,List.getElem?_toArray,hf,Sem.run_pure]
 ·cases hP
theorem a9x {α:Type}{t:Ty α}{n:Nat}{parts:List (Nat×Operand)}{pv:List (Nat×Value)}{cs:List Value}{xs:List α}(hT:P.underlying T=some (.slice U))(hU:TF P U t.size agg zero bytes)
  (hev:evP E parts=some pv)(hn:Nat.blt 0 (n*t.size)=true)(hsm:Nat.ble (n*t.size) 16777216=true)
  (hf:Instr.fill (fun i=>some (i*t.size,t.size)) ((Array.range (n*t.size)).map fun i=>zero.cells[i%zero.cells.size]!) pv=some cs.toArray)
  (hl:xs.length=n)(hcl:cs.length=n*t.size)(hcs: ∀(i:Nat) z,xs[i]? =some z→∃u,t.rel K u z∧∀j d,u.cells.toList[j]? =some d→cs[i*t.size+j]? =some d)(hS:SH w0 K0 M w K L):
  ∃a' w' K',a1O P E w (.buildSlice T n parts.toArray) (.ok (.value (.slice a' n n)) w')∧H7 K K'∧b7 t K' a' n n xs∧SH w0 K0 M w' K' (tail (.slice a' n n) U t.size::L):=by
 have hn':0<n*t.size:=by simpa [Nat.blt_eq] using hn
 have hsm':n*t.size≤16777216:=by simpa using hsm
 have hmax:n≤maxLen:=by
  have:n≤n*t.size:=Nat.le_mul_of_pos_right n (Nat.pos_of_mul_pos_left hn')
  simp [maxLen];omega
 obtain⟨K',hle,hat,hS'⟩:=hS.newTail (cs:=cs) (rest:=[]) (n:=n) (cap:=n) (sz:=t.size) U hcl (by simpa using hcl) (Nat.le_refl _) hmax
 refine⟨some ⟨w.heap.size,0,none⟩,_,K',fun ρ _ _ _ _ _ ha=>?_,hle,b7.of_cells hl.symm (Nat.le_refl _) hmax (fun i z hz=>?_),hS'⟩
 ·have e:=b0l ha hev
  have h1: ¬(2 ^ 24<n*t.size):=by omega
  have h2: ¬(n*t.size=0):=by omega
  simp only [execOp,Instr.buildSlice,Sem.run_bind,run_underlying hT,H8 hU,Result.andThen_ok,List.map_toArray,e]
  rw [if_neg h1,if_neg h2]
  simp only [Sem.run_bind,Sem.run_pure,a1I hU,hf,newRow,Result.andThen_ok]
  rw [List.append_nil]
  rfl
 ·obtain⟨u,hu,hk⟩:=hcs i z hz
  refine⟨u,t.mono hle hu,fun j d e=>?_⟩
  have:=hat _ d (hk j d e)
  rwa [Nat.zero_add] at this
theorem a8S {α:Type}(t:Ty α)(hT:P.underlying T=some (.slice U))(hU:TF P U t.size agg zero bytes)(hS:SH w0 K0 M w K L):
  ∃a' w' K',a1O P E w (.buildSlice T 0 #[]) (.ok (.value (.slice a' 0 0)) w')∧H7 K K'∧b7 t K' a' 0 0 []∧SH w0 K0 M w' K' (tail (.slice a' 0 0) U t.size::L):=by
 obtain⟨K',hle,hat,hS'⟩:=hS.newTail (cs:=[]) (rest:=[]) (n:=0) (cap:=0) (sz:=t.size) U (by simp) (by simp) (Nat.le_refl _) (Nat.zero_le _)
 refine⟨some ⟨w.heap.size,0,none⟩,_,K',fun ρ _ _ _ _ _ _=>?_,hle,b7.of_cells rfl (Nat.le_refl _) (Nat.zero_le _) (fun i z hz=>by simp at hz),hS'⟩
 simp only [execOp,Instr.buildSlice,Sem.run_bind,run_underlying hT,H8 hU,Result.andThen_ok]
 have h1: ¬(0*t.size>2 ^ 24):=by omega
 have h2:0*t.size=0:=by omega
 rw [if_neg h1,if_pos h2]
 have h3:(Array.range 0).map (fun x=>(#[]:Array Value)[x%(#[]:Array Value).size]!)=#[]:=by simp [Array.range]
 have h4:((#[]:Array (Nat×Operand)).map fun (i,x)=>(i,ρ x)).toList=[]:=by simp
 simp only [h2,Sem.run_bind,Sem.run_pure,Result.andThen_ok,newRow,h3,h4,Instr.fill]
 rfl
end
end Go.Fk
namespace Go.Fk
open Go
set_option linter.unusedSectionVars false
variable [dr:Dr]
section
variable {P:Program}{ops:Array Oper}{Q:Exit→Act→World→Prop}{N:Nat}{E:X6}{w w0:World}{K K0:C7}{M:List Nat}{L:List B8}
variable {x y:Operand}{T T' U:TypeId}{size bytes:Nat}{zero:Value}{agg:Bool}
def q9 (P:Program)(f:FuncId):Prop:=∃fn,P.funcs[f]? =some fn∧(fn.name== "runtime.NumGoroutine")=false∧fn.body.isNone=false
def evL (E:X6):List Operand→Option (List Value)
 | []=>some []
 | x::r=>(ev E x).bind fun v=>(evL E r).map fun l=>v::l
theorem a7K {ρ:Operand→Value}(ha:b3g E ρ): ∀{l:List Operand} {r:List Value},evL E l=some r→l.map ρ=r
 | [],r,h=>by simp [evL] at h;simp [h]
 | x::l,r,h=>by
  simp only [evL] at h
  obtain⟨v,hv,h⟩:=Option.bind_eq_some_iff.1 h
  obtain⟨l',hl,rfl⟩:=Option.map_eq_some_iff.1 h
  simp [ha x v hv,a7K ha hl]
theorem A6 {f:FuncId}{args:List Operand}{ats:Array TypeId}{vs:List Value}(hf:q9 P f)(hev:evL E args=some vs):
  a1O P E w (.call {callee:=.value (.func f),args:=args.toArray,argTypes:=ats}) (.ok (.enter f vs.toArray) w):=fun ρ _ _ _ _ _ ha=>by
 obtain⟨fn,h1,h2,h3⟩:=hf
 have e:=a7K ha hev
 have ef:ρ (.func f)= .func (.func f) #[] #[]:=ha _ _ rfl
 have h2':fn.name≠ "runtime.NumGoroutine" :=by simpa using h2
 have h3':fn.body≠none:=by intro h;rw [h] at h3;cases h3
 simp [execOp,resolve,ef,Deferred.ofValue,invoke,callFunc,h1,h2',h3',e]
theorem a8T {f:FuncId}{g:Operand}{args:List Operand}{ats:Array TypeId}{vs:List Value}{cap:Array Value}(hf:q9 P f)(hg:ev E g=some (.func (.func f) #[] cap))(hev:evL E args=some vs):
  a1O P E w (.call {callee:=.value g,args:=args.toArray,argTypes:=ats}) (.ok (.enter f (vs.toArray++cap)) w):=fun ρ _ _ _ _ _ ha=>by
 obtain⟨fn,h1,h2,h3⟩:=hf
 have e:=a7K ha hev
 have h2':fn.name≠ "runtime.NumGoroutine" :=by simpa using h2
 have h3':fn.body≠none:=by intro h;rw [h] at h3;cases h3
 simp [execOp,resolve,ha g _ hg,Deferred.ofValue,invoke,callFunc,h1,h2',h3',e]
theorem b1T {f:FuncId}{caps:List Operand}{vs:List Value}(hev:evL E caps=some vs):RV P E w (.makeFunc (.func f) #[] caps.toArray) (.func (.func f) #[] vs.toArray):=fun ρ _ _ _ _ _ ha=>by
 have e:=a7K ha hev
 simp [execOp,Instr.makeFunc,e]
theorem SH.enter {Lin Lfr:List B8}(h:SH w0 K0 M w K (Lin++Lfr)):SH w K (Lin.flatMap B8.gs) w K Lin where
 os:=rfl
 tape:=rfl
 output:=rfl
 holds:=h.holds
 le:=.refl _
 size:=Nat.le_refl _
 drawn:=fun _=>Nat.le_refl _
 old:=fun _ _ _=>rfl
 oldK:=fun _ _ _=>rfl
 items:=fun it hi=>h.items it (List.mem_append_left _ hi)
 lt:=fun it hi b hb=>⟨(h.lt it (List.mem_append_left _ hi) b hb).1,.inr (List.mem_flatMap.2 ⟨it,hi,hb⟩)⟩
 nodup:=by
  have:=h.nodup
  rw [List.flatMap_append] at this
  exact(List.nodup_append.1 this).1
theorem SH.call {w':World}{K':C7}{Lin Lfr Lout:List B8}(h:SH w0 K0 M w K (Lin++Lfr))(hc:SH w K (Lin.flatMap B8.gs) w' K' Lout):SH w0 K0 M w' K' (Lout++Lfr):=by
 have hnd:=h.nodup
 rw [List.flatMap_append,List.nodup_append] at hnd
 have hfr: ∀it∈Lfr,∀b∈it.gs,b<w.heap.size∧b∉Lin.flatMap B8.gs:=fun it hi b hb=>
  ⟨(h.lt it (List.mem_append_right _ hi) b hb).1,fun hm=>hnd.2.2 b hm b (List.mem_flatMap.2 ⟨it,hi,hb⟩) rfl⟩
 have hin: ∀b,b∈Lin.flatMap B8.gs→w0.heap.size≤b∨b∈M:=fun b hb=>by
  obtain⟨it,hi,e⟩:=List.mem_flatMap.1 hb
  exact(h.lt it (List.mem_append_left _ hi) b e).2
 refine⟨hc.os.trans h.os,hc.tape.trans h.tape,hc.output.trans h.output,hc.holds,h.le.trans hc.le,Nat.le_trans h.size hc.size,fun b hb hm=>?_,fun b hb hm=>?_,fun it hi=>?_,fun it hi b hb=>?_,?_,fun d=>Nat.le_trans (h.drawn d) (hc.drawn d)⟩
 ·have hnot:b∉Lin.flatMap B8.gs:=fun hm2=>(hin b hm2).elim (fun h1=>by omega) hm
  rw [hc.old b (Nat.lt_of_lt_of_le hb h.size) hnot];exact h.old b hb hm
 ·have hnot:b∉Lin.flatMap B8.gs:=fun hm2=>(hin b hm2).elim (fun h1=>by omega) hm
  rw [hc.oldK b (Nat.lt_of_lt_of_le hb h.size) hnot];exact h.oldK b hb hm
 ·rcases List.mem_append.1 hi with hi | hi
  ·exact hc.items it hi
  ·have h1:=h.items it (List.mem_append_right _ hi)
   refine⟨h1.1,it.loc (fun b hb=>?_) h1.2⟩
   obtain⟨h2,h3⟩:=hfr it hi b hb
   exact⟨(hc.old b h2 h3).symm,(hc.oldK b h2 h3).symm⟩
 ·rcases List.mem_append.1 hi with hi | hi
  ·obtain⟨h1,h2⟩:=hc.lt it hi b hb
   refine⟨h1,h2.elim (fun h3=>.inl (Nat.le_trans h.size h3)) (fun h3=>hin b h3)⟩
  ·have:=h.lt it (List.mem_append_right _ hi) b hb
   exact⟨Nat.lt_of_lt_of_le this.1 hc.size,this.2⟩
 ·rw [List.flatMap_append,List.nodup_append]
  refine⟨hc.nodup,hnd.2.1,fun b hb b' hb' e=>?_⟩
  subst e
  obtain⟨it,hi,e⟩:=List.mem_flatMap.1 hb
  obtain⟨it',hi',e'⟩:=List.mem_flatMap.1 hb'
  obtain⟨h2,h3⟩:=hfr it' hi' b e'
  rcases (hc.lt it hi b e).2 with h4 | h4
  ·omega
  ·exact h3 h4
theorem SH.enter0 (h:SH w0 K0 M w K L):SH w K [] w K []:=.start h.holds
theorem SH.call0 {w':World}{K':C7}{Lout:List B8}(h:SH w0 K0 M w K L)(hc:SH w K [] w' K' Lout):SH w0 K0 M w' K' (Lout++L):=SH.call (Lin:=[]) h hc
def y6 {σ τ:Type}(f:Nat→σ→Option (σ⊕τ)):Nat→Nat→σ→Option (σ⊕τ)
 | 0,_,s=>some (.inl s)
 | k+1,i,s=>(f i s).bind fun r=>r.elim (fun s'=>y6 f k (i+1) s') fun t=>some (.inr t)
def u0 {σ τ:Type}(f:σ→Option (σ⊕τ)):Nat→σ→Option τ
 | 0,_=>none
 | k+1,s=>(f s).bind fun r=>r.elim (fun s'=>u0 f k s') some
theorem b6K {σ τ:Type}{f:Nat→σ→Option (σ⊕τ)}{n:Nat}{r:σ⊕τ}{s0:σ}{body:Code}(Inv:Nat→σ→X6→World→Prop)(hrun:y6 f n 0 s0=some r)(h0:Inv 0 s0 E w)
  (hround: ∀i s E w r',i<n→f i s=some r'→(∀x,r'= .inr x→r= .inr x)→Inv i s E w→WC P body (Exit.then (a6s N fun E' w'=>∃s',r'= .inl s'∧Inv (i+1) s' E' w') Q) N E w)
  (hend: ∀s E w,r= .inl s→Inv n s E w→WC P body (Exit.then (fun _ _=>False) Q) N E w):WC P (.loop body) Q N E w:=fun t ht=>by
 refine wp_loop_ghost (fun k a w=>a.defers=[]∧∃i s E,k=n-i∧i≤n∧y6 f (n-i) i s=some r∧Fr N E a.tmps∧Inv i s E w) n ⟨rfl,0,s0,E,rfl,Nat.zero_le _,hrun,ht,h0⟩ ?_
 rintro k ⟨t,ds⟩ w ⟨hd,i,s,E,rfl,hi,hr,hf,hI⟩
 simp only at hd hf
 subst hd
 by_cases hlt:i<n
 ·have e:n-i=(n-(i+1))+1:=by omega
  rw [e] at hr
  simp only [y6] at hr
  obtain⟨r',hr',hr⟩:=Option.bind_eq_some_iff.1 hr
  refine Code.wp_mono (fun e a w' q=>?_) (hround i s E w r' hlt hr' (fun x hx=>by subst hx;simpa using hr.symm) hI t hf)
  cases e with
  | normal=>
   obtain⟨hd,E',hf',s',rfl,hI'⟩:=q
   exact⟨n-(i+1),by omega,hd,i+1,s',E',rfl,hlt,hr,hf',hI'⟩
  | exit id=>exact q
  | goto l=>exact q
  | ret=>exact q
  | panic c=>exact q
  | outgrown=>exact q
 ·have e:i=n:=by omega
  subst e
  rw [Nat.sub_self] at hr
  simp only [y6,Option.some.injEq] at hr
  refine Code.wp_mono (fun e a w' q=>?_) (hend s E w hr.symm hI t hf)
  cases e with
  | normal=>exact q.elim
  | exit id=>exact q
  | goto l=>exact q
  | ret=>exact q
  | panic c=>exact q
  | outgrown=>exact q
theorem b6M {σ τ:Type}{f:σ→Option (σ⊕τ)}{m:Nat}{r:τ}{s0:σ}{body:Code}(Inv:σ→X6→World→Prop)(hrun:u0 f m s0=some r)(h0:Inv s0 E w)
  (hround: ∀s E w r',f s=some r'→(∀x,r'= .inr x→r=x)→Inv s E w→WC P body (Exit.then (a6s N fun E' w'=>∃s',r'= .inl s'∧Inv s' E' w') Q) N E w):WC P (.loop body) Q N E w:=fun t ht=>by
 refine wp_loop_ghost (fun k a w=>a.defers=[]∧∃s E,u0 f k s=some r∧Fr N E a.tmps∧Inv s E w) m ⟨rfl,s0,E,hrun,ht,h0⟩ ?_
 rintro k ⟨t,ds⟩ w ⟨hd,s,E,hr,hf,hI⟩
 simp only at hd hf
 subst hd
 cases k with
 | zero=>cases hr
 | succ k=>
  simp only [u0] at hr
  obtain⟨r',hr',hr⟩:=Option.bind_eq_some_iff.1 hr
  refine Code.wp_mono (fun e a w' q=>?_) (hround s E w r' hr' (fun x hx=>by subst hx;simpa using hr.symm) hI t hf)
  cases e with
  | normal=>
   obtain⟨hd,E',hf',s',rfl,hI'⟩:=q
   exact⟨k,by omega,hd,s',E',hr,hf',hI'⟩
  | exit id=>exact q
  | goto l=>exact q
  | ret=>exact q
  | panic c=>exact q
  | outgrown=>exact q
def a5O:Nat→List Value→X6
 | _,[]=>[]
 | i,v::r=>(i,v)::a5O (i+1) r
theorem a52: ∀(vs:List Value) (k i:Nat) (v:Value),look (a5O k vs) i=some v→k≤i∧vs[i-k]? =some v
 | [],_,_,_,h=>by cases h
 | u::r,k,i,v,h=>by
  simp only [a5O,look] at h
  by_cases e:k=i
  ·subst e;simp at h;subst h;simp
  ·have hb:Nat.beq k i=false:=by
    rw [Bool.eq_false_iff];intro hb;exact e (Nat.eq_of_beq_eq_true hb)
   rw [hb] at h
   obtain⟨h1,h2⟩:=a52 r (k+1) i v h
   refine⟨by omega,?_⟩
   rw [show i-k=(i-(k+1))+1 from by omega];simpa using h2
theorem b5z {f:FuncId}{fn:Func}{c:Code}{vs:List Value}{R:Ending→World→Prop}(hf:P.funcs[f]? =some fn)(hb:fn.body=some c)(hN:fn.ntmps=N)(hle:Nat.ble vs.length N=true)
  (h:WC P c (bodyPost P fn R) N (a5O 0 vs) w):Calls P f vs.toArray w R:=by
 have hle':vs.length≤N:=by simpa using hle
 refine calls_of_wp hf hb (h _ ⟨by simp [hN];omega,fun i v hv=>?_⟩)
 obtain⟨_,h2⟩:=a52 vs 0 i v hv
 have hlt:=(g8.1 h2).1
 rw [Array.getElem?_append_left (by simpa using hlt)]
 simpa using h2
theorem A5 {b o:Nat}{cs:List Value}{v:Value}(hT:TF P T size agg zero bytes)(hc:a5R w b o cs)(hv:(agg=true∧cs.length=size∧v= .agg cs.toArray)∨(agg=false∧cs=[v])):
  (loadVar T ⟨b,o,none⟩).run P w= .ok v w:=by
 rcases hv with ⟨rfl,hl,rfl⟩ | ⟨rfl,rfl⟩
 ·subst hl
  simp [loadVar,a2j hT,H8 hT,a1x hc]
 ·have h0:=hc 0 v rfl
  simp at h0
  simp [loadVar,a2j hT,h0]
def b5u (P:Program)(w:World)(E:X6):List ResultVar→List Value→Prop
 | [],[]=>True
 | .tmp t::r,v::vs=>look E t=some v∧b5u P w E r vs
 | .cell a T::r,v::vs=>(∃b o,look E a=some (.pointer (some ⟨b,o,none⟩))∧(loadVar T ⟨b,o,none⟩).run P w= .ok v w)∧b5u P w E r vs
 | _,_=>False
theorem a4v {t:Array Value}(ht:Fr N E t): ∀(rs:List ResultVar) (vs:List Value),b5u P w E rs vs→
  (rs.mapM (fun | .tmp t'=>pure (t.getD t' undef) | .cell a T=>do loadVar T (←asAddr (t.getD a undef))):Sem (List Value)).run P w= .ok vs w
 | [],[],_=>rfl
 | [],_::_,h=>h.elim
 | .tmp i::r,[],h=>h.elim
 | .cell a T::r,[],h=>h.elim
 | .tmp i::r,v::vs,h=>by
  have h1:t.getD i undef=v:=by rw [Array.getD_eq_getD_getElem?,ht.2 i v h.1,Option.getD_some]
  have ih:=a4v ht r vs h.2
  rw [List.mapM_cons,Sem.run_bind]
  simp only [h1,Sem.run_pure,Result.andThen_ok]
  rw [Sem.run_bind,ih]
  rfl
 | .cell a T::r,v::vs,h=>by
  obtain⟨⟨b,o,h1,h2⟩,h3⟩:=h
  have h4:t.getD a undef= .pointer (some ⟨b,o,none⟩):=by rw [Array.getD_eq_getD_getElem?,ht.2 a _ h1,Option.getD_some]
  have ih:=a4v ht r vs h3
  rw [List.mapM_cons,Sem.run_bind]
  simp only [h4,Sem.run_bind,Sem.run_pure]
  rw [show (asAddr (.pointer (some ⟨b,o,none⟩))).run P w= .ok ⟨b,o,none⟩ w from rfl]
  simp only [Result.andThen_ok,h2]
  rw [ih]
  rfl
def b8T:List Value→Value
 | [v]=>v
 | vs=>.tuple vs.toArray
theorem O8 {fn:Func}{R:Ending→World→Prop}{rs:List ResultVar}{vs:List Value}(hr:fn.results=rs.toArray)(h:b5u P w E rs vs)
  (hR:R (.returned (b8T vs)) w):QE (bodyPost P fn R) .ret N E w:=fun t ht=>by
 refine bodyPost_ret (v:=b8T vs) ?_ rfl hR
 have h1:=a4v ht rs vs h
 unfold results
 rw [hr,Array.mapM_eq_mapM_toList,Sem.run_bind,Sem.run_map]
 erw [h1]
 simp only [Result.andThen_ok,Sem.run_pure]
 match vs with
 | []=>rfl
 | [v]=>rfl
 | v::u::r=>simp [b8T]
theorem a9v {fn:Func}{R:Ending→World→Prop}(h:QE (bodyPost P fn R) .ret N E w):QE (bodyPost P fn R) .normal N E w:=h
end
end Go.Fk
namespace Go.Fk
open Go
set_option linter.unusedSectionVars false
variable [dr:Dr]
section
variable {P:Program}{ops:Array Oper}{Q:Exit→Act→World→Prop}{N:Nat}{E:X6}{w w0:World}{K K0:C7}{M:List Nat}{L:List B8}{C:World→Prop}
variable {x y:Operand}{T T' U:TypeId}{size bytes:Nat}{zero:Value}{agg:Bool}
instance (n:Int):Decidable (j5 n):=inferInstanceAs (Decidable (_∧_))
theorem s6 (n:Int):j5 (y8 n):=by
 have h1:=Int.emod_nonneg n (b:=18446744073709551616) (by decide)
 have h2:=Int.emod_lt_of_pos n (b:=18446744073709551616) (by decide)
 unfold j5 y8 IntKind.wrap
 simp only [IntKind.signed,IntKind.bits,show (2:Int) ^ 64=18446744073709551616 from rfl,show (2:Int) ^ (64-1)=9223372036854775808 from rfl,n8,decide_eq_true_eq]
 split<;>omega
theorem B9 {n:Int}(h:j5 n):y8 n=n:=by
 obtain⟨h1,h2⟩:=h
 unfold y8 IntKind.wrap
 simp only [IntKind.signed,IntKind.bits,show (2:Int) ^ 64=18446744073709551616 from rfl,show (2:Int) ^ (64-1)=9223372036854775808 from rfl,n8,decide_eq_true_eq]
 split<;>omega
theorem a2L {n:Nat}(h:n≤9223372036854775807):j5 (n:Int):=⟨by omega,by omega⟩
theorem b8U (b:UInt8):j5 (b.toNat:Int):=⟨by omega,by have:=b.toNat_lt;omega⟩
theorem b0L {i n:Nat}(h:i<n)(hn:n≤9223372036854775807):j5 (i:Int):=⟨by omega,by omega⟩
theorem b0M {a b c:Int}(ha:j5 a)(h:a5x a b=some c):j5 c:=by
 unfold a5x at h
 split at h
 ·cases h
 ·cases h
  obtain⟨h1,h2⟩:=ha
  have h3:(a.tmod b).natAbs=a.natAbs%b.natAbs:=Int.natAbs_tmod a b
  have h4:=Nat.mod_le a.natAbs b.natAbs
  have h5:0≤a→0≤a.tmod b:=fun h=>Int.tmod_nonneg b h
  have h6:a≤0→a.tmod b≤0:=fun h=>by
   have h7:=Int.tmod_nonneg b (show 0≤ -a by omega)
   rw [Int.neg_tmod] at h7;omega
  unfold j5
  omega
theorem a4Q {a b c:Int}(h:a2w a b=some c):j5 c:=by
 unfold a2w at h
 split at h
 ·cases h
 ·cases h;exact s6 _
theorem b3Q {a b:Int}(ha:j5 a)(hb:j5 b):j5 (if b>a then b else a):=by split<;>assumption
theorem b3R {a b:Int}(ha:j5 a)(hb:j5 b):j5 (if b<a then b else a):=by split<;>assumption
theorem x9 {i n:Nat}(h:i<n)(hn:n≤9223372036854775807):y8 ((i:Int)+1)=((i+1:Nat):Int):=by
 rw [B9 ⟨by omega,by omega⟩];omega
theorem a2b {a b c:l3}(h:a18 a b=some c):c.length≤maxLen:=by
 unfold a18 at h
 split at h
 ·cases h;simpa using by assumption
 ·cases h
theorem a1H {s c:l3}{l h:Int}(hs:s.length≤maxLen)(e:a1n s l h=some c):c.length≤maxLen:=by
 unfold a1n at e
 split at e
 ·cases e;simp only [List.length_drop,List.length_take];omega
 ·cases e
theorem a3w {α:Type}{b:Bool}{x y r:α}(hb:b=true)(h:cond b x y=r):x=r:=by subst hb;exact h
theorem a3v {α:Type}{b:Bool}{x y r:α}(hb:b=false)(h:cond b x y=r):y=r:=by subst hb;exact h
theorem y5 {c:Operand}{x y:Code}{b:Bool}(hc:ev E c=some (.bool b))(hb:b=true)(h:WC P x Q N E w):WC P (.cond c x y) Q N E w:=
 a0n hc (fun _=>h) fun h'=>by rw [hb] at h';cases h'
theorem y4 {c:Operand}{x y:Code}{b:Bool}(hc:ev E c=some (.bool b))(hb:b=false)(h:WC P y Q N E w):WC P (.cond c x y) Q N E w:=
 a0n hc (fun h'=>by rw [hb] at h';cases h') fun _=>h
theorem I6 {k:X6→World→Prop}{E':X6}(h:k E' w)(hs:Sub E' E):QE (Exit.then (a6s N k) Q) .normal N E w:=b8R hs (b8Q h)
def WQ (P:Program)(ops:Array Oper)(C:World→Prop)(Q:Exit→Act→World→Prop)(N:Nat)(rest:List Oper)(E:X6):Prop:=
 ∀t,Fr N E t→wpQuiet P ops C (fun a'=>∀w',C w'→Q .normal a' w') rest ⟨t,[]⟩
def QC (w0:World)(K0:C7)(M:List Nat)(K:C7)(L:List B8)(w':World):Prop:=∃K',SH w0 K0 M w' K' L∧H7 K K'
theorem D3 {id:Nat}{l:List Oper}(hm:P.follows .mixedOrders=true)(hB:Region.lexB .any l.toArray=true)(hS:SH w0 K0 M w K L)
  (h:WQ P l.toArray (QC w0 K0 M K L) Q N l E):WC P (.region id l.toArray true) Q N E w:=fun t ht=>
 wp_region_quiet (C:=QC w0 K0 M K L) hm hB ⟨K,hS.drew,.refl _⟩ (h t ht)
theorem a5H {d:Tmp}{op:Op}{ty:TypeId}{pos:String}{af:Array Edge}{gd:Option (Nat×Bool)}{rest:List Oper}{v:Value}
  (hw:H2 ops N E gd)(hd:Nat.blt d N=true)(hr: ∀w',C w'→RV P E w' op v)(h:WQ P ops C Q N rest ((d,v)::E)):WQ P ops C Q N (⟨some d,op,ty,pos,af,gd⟩::rest) E:=fun t ht=>by
 unfold wpQuiet
 rw [if_pos (hw t _ _ _ _ _ ht)]
 refine⟨v,fun w' hw'=>?_,h _ (ht.put hd v)⟩
 unfold Oper.quietAt
 rw [hr w' hw' _ _ _ _ _ _ ht.agree]
 exact⟨rfl,rfl⟩
theorem b6Q {d:Tmp}{op:Op}{ty:TypeId}{pos:String}{af:Array Edge}{gd:Option (Nat×Bool)}{rest:List Oper}
  (hw:a5L ops N E gd)(hd:Nat.blt d N=true)(h:WQ P ops C Q N rest ((d,undef)::E)):WQ P ops C Q N (⟨some d,op,ty,pos,af,gd⟩::rest) E:=fun t ht=>by
 unfold wpQuiet
 rw [if_neg (by rw [hw t _ _ _ _ _ ht];simp)]
 exact h _ (ht.put hd undef)
theorem a7Y {d:Tmp}{op:Op}{ty:TypeId}{pos:String}{af:Array Edge}{gd:Option (Nat×Bool)}{rest:List Oper}{f:FuncId}{args:Array Value}{v:Value}
  (hw:H2 ops N E gd)(hd:Nat.blt d N=true)(hr: ∀w',a1O P E w' op (.ok (.enter f args) w'))(hc: ∀w',C w'→Calls P f args w' fun e w''=>e= .returned v∧C w'')
  (h:WQ P ops C Q N rest ((d,v)::E)):WQ P ops C Q N (⟨some d,op,ty,pos,af,gd⟩::rest) E:=fun t ht=>by
 unfold wpQuiet
 rw [if_pos (hw t _ _ _ _ _ ht)]
 refine⟨v,fun w' hw'=>?_,h _ (ht.put hd v)⟩
 unfold Oper.quietAt
 rw [hr w' _ _ _ _ _ _ ht.agree]
 exact⟨rfl,hc w' hw'⟩
theorem A3 (h: ∀w',C w'→QE Q .normal N E w'):WQ P ops C Q N [] E:=fun t ht w' hw'=>h w' hw' t ht
end
end Go.Fk
namespace Go.Fk
open Go
set_option linter.unusedSectionVars false
variable [dr:Dr]
section
variable {P:Program}{ops:Array Oper}{Q:Exit→Act→World→Prop}{N:Nat}{E:X6}{w w0:World}{K K0:C7}{M:List Nat}{L:List B8}{C:World→Prop}
variable {x y z:Operand}{T T' U:TypeId}{size bytes:Nat}{zero:Value}{agg:Bool}{rest:List Oper}{d:Tmp}{ty:TypeId}{pos:String}{af:Array Edge}{gd:Option (Nat×Bool)}{fr:Nat×Nat}
theorem b7.nil {α:Type}(t:Ty α)(K:C7):b7 t K none 0 0 ([]:List α):=⟨rfl,Nat.le_refl _,Nat.zero_le _,fun h=>absurd h (by omega)⟩
theorem SH.mem_obj {g:Nat}{cs:List Value}{V:TypeId}(h:SH w0 K0 M w K L)(hm:r5 g cs V fr∈L)(o:Nat):w.cell? ⟨g,o,none⟩=cs[o]? :=by
 obtain⟨⟨e,_⟩,_⟩:=(h.items _ hm).2 g rfl
 simp [World.cell?,e]
theorem x8 {g o:Nat}{cs:List Value}{V:TypeId}{v:Value}(hT:TF P T size false zero bytes)(hx:ev E x=some (.pointer (some ⟨g,o,none⟩)))(hm:r5 g cs V fr∈L)(hS:SH w0 K0 M w K L)(hv:cs[o]? =some v):RV P E w (.load T x) v:=
 a1j hT hx (cs:=[v]) (fun j c e=>by
  cases j with
  | zero=>simp at e;subst e;rw [Nat.add_zero,hS.mem_obj hm];exact hv
  | succ j=>simp at e) (.inr ⟨rfl,rfl⟩)
theorem s7 {g o:Nat}{cs ds:List Value}{V:TypeId}(hT:TF P T size true zero bytes)(hx:ev E x=some (.pointer (some ⟨g,o,none⟩)))(hm:r5 g cs V fr∈L)(hS:SH w0 K0 M w K L)(hv:(cs.drop o).take size=ds)(hl:ds.length=size):RV P E w (.load T x) (.agg ds.toArray):=
 a1j hT hx (fun j c e=>by
  rw [hS.mem_obj hm]
  subst hv
  rw [List.getElem?_take] at e
  split at e
  ·rw [List.getElem?_drop] at e;exact e
  ·cases e) (.inl ⟨rfl,hl,rfl⟩)
theorem z7 {b o:Nat}{v:Value}(hT:TF P T size false zero bytes)(hx:ev E x=some (.pointer (some ⟨b,o,none⟩)))(hk:K b o=some v)(w':World)(hw:QC w0 K0 M K L w'):RV P E w' (.load T x) v:=
 let ⟨_,hS,hl⟩:=hw
 z2 hT hx hS (hl _ _ _ hk)
theorem a8Q {b o:Nat}{cs:List Value}(hT:TF P T size true zero bytes)(hx:ev E x=some (.pointer (some ⟨b,o,none⟩)))(hk:D7 K b o cs)(hl:cs.length=size)(w':World)(hw:QC w0 K0 M K L w'):RV P E w' (.load T x) (.agg cs.toArray):=
 let ⟨_,hS,hle⟩:=hw
 C9 hT hx hS (hk.mono hle) hl
theorem u9 {g o:Nat}{cs:List Value}{V:TypeId}{v:Value}(hT:TF P T size false zero bytes)(hx:ev E x=some (.pointer (some ⟨g,o,none⟩)))(hm:r5 g cs V fr∈L)(hv:cs[o]? =some v)(w':World)(hw:QC w0 K0 M K L w'):RV P E w' (.load T x) v:=
 let ⟨_,hS,_⟩:=hw
 x8 hT hx hm hS hv
theorem a2i {g o:Nat}{cs ds:List Value}{V:TypeId}(hT:TF P T size true zero bytes)(hx:ev E x=some (.pointer (some ⟨g,o,none⟩)))(hm:r5 g cs V fr∈L)(hv:(cs.drop o).take size=ds)(hl:ds.length=size)(w':World)(hw:QC w0 K0 M K L w'):RV P E w' (.load T x) (.agg ds.toArray):=
 let ⟨_,hS,_⟩:=hw
 s7 hT hx hm hS hv hl
theorem Q8 {α:Type}{t:Ty α}{a:Option Addr}{n c:Nat}{xs:List α}{k:IntKind}{i:Int}{e:α}(hw:H2 ops N E gd)(hd:Nat.blt d N=true)(hT:P.underlying T=some (.slice U))(hU:TF P U t.size agg zero bytes)
  (hx:ev E x=some (.slice a n c))(hy:ev E y=some (.int k i))(hs:b7 t K a n c xs)(hz:p8 xs i=some e)
  (h: ∀b o u,t.rel K u e→D7 K b o u.cells.toList→WL P ops Q N rest ((d,.pointer (some ⟨b,o,none⟩))::E) w):WL P ops Q N (⟨some d,.indexAddr T x y,ty,pos,af,gd⟩::rest) E w:=by
 obtain⟨b,o,u,h1,h2,h3⟩:=a1i hT hU hx hy hs hz
 exact a3N hw hd (h1 w) (h b o u h2 h3)
theorem A8 {α:Type}{t:Ty α}{a:Option Addr}{n c:Nat}{xs:List α}{k:IntKind}{i:Int}{e:α}(hw:H2 ops N E gd)(hd:Nat.blt d N=true)(hT:P.underlying T=some (.slice U))(hU:TF P U t.size agg zero bytes)
  (hx:ev E x=some (.slice a n c))(hy:ev E y=some (.int k i))(hs:b7 t K a n c xs)(hz:p8 xs i=some e)
  (h: ∀b o u,t.rel K u e→D7 K b o u.cells.toList→WQ P ops C Q N rest ((d,.pointer (some ⟨b,o,none⟩))::E)):WQ P ops C Q N (⟨some d,.indexAddr T x y,ty,pos,af,gd⟩::rest) E:=by
 obtain⟨b,o,u,h1,h2,h3⟩:=a1i hT hU hx hy hs hz
 exact a5H hw hd (fun w' _=>h1 w') (h b o u h2 h3)
theorem a6r {α:Type}{t:Ty α}{a:Option Addr}{n c:Nat}{xs ys:List α}{k:IntKind}{l:Int}(hw:H2 ops N E gd)(hd:Nat.blt d N=true)(hT:P.underlying T=some (.slice U))(hU:TF P U t.size agg zero bytes)
  (hx:ev E x=some (.slice a n c))(hy:ev E y=some (.int k l))(hs:b7 t K a n c xs)(hz:Z6 xs l xs.length=some ys)
  (h: ∀a' n' c',b7 t K a' n' c' ys→WL P ops Q N rest ((d,.slice a' n' c')::E) w):WL P ops Q N (⟨some d,.slice T x (some y) none none,ty,pos,af,gd⟩::rest) E w:=by
 obtain⟨a',n',c',h1,h2⟩:=b7F hT hU hx hy hs hz
 exact a3N hw hd (h1 w) (h a' n' c' h2)
theorem a7X {α:Type}{t:Ty α}{a:Option Addr}{n c:Nat}{xs ys:List α}{k:IntKind}{l:Int}(hw:H2 ops N E gd)(hd:Nat.blt d N=true)(hT:P.underlying T=some (.slice U))(hU:TF P U t.size agg zero bytes)
  (hx:ev E x=some (.slice a n c))(hy:ev E y=some (.int k l))(hs:b7 t K a n c xs)(hz:Z6 xs 0 l=some ys)
  (h: ∀a' n' c',b7 t K a' n' c' ys→WL P ops Q N rest ((d,.slice a' n' c')::E) w):WL P ops Q N (⟨some d,.slice T x none (some y) none,ty,pos,af,gd⟩::rest) E w:=by
 obtain⟨a',n',c',h1,h2⟩:=b3X hT hU hx hy hs hz
 exact a3N hw hd (h1 w) (h a' n' c' h2)
theorem b7S {α:Type}{t:Ty α}{a:Option Addr}{n c:Nat}{xs ys:List α}{k:IntKind}{l:Int}(hw:H2 ops N E gd)(hd:Nat.blt d N=true)(hT:P.underlying T=some (.slice U))(hU:TF P U t.size agg zero bytes)
  (hx:ev E x=some (.slice a n c))(hy:ev E y=some (.int k l))(hs:b7 t K a n c xs)(hz:Z6 xs 0 l=some ys)
  (h: ∀a' n' c',b7 t K a' n' c' ys→WQ P ops C Q N rest ((d,.slice a' n' c')::E)):WQ P ops C Q N (⟨some d,.slice T x none (some y) none,ty,pos,af,gd⟩::rest) E:=by
 obtain⟨a',n',c',h1,h2⟩:=b3X hT hU hx hy hs hz
 exact a5H hw hd (fun w' _=>h1 w') (h a' n' c' h2)
theorem b6O {α:Type}{t:Ty α}{a:Option Addr}{n c:Nat}{xs ys:List α}{k k':IntKind}{l l':Int}(hw:H2 ops N E gd)(hd:Nat.blt d N=true)(hT:P.underlying T=some (.slice U))(hU:TF P U t.size agg zero bytes)
  (hx:ev E x=some (.slice a n c))(hy:ev E y=some (.int k l))(hy':ev E z=some (.int k' l'))(hs:b7 t K a n c xs)(hz:Z6 xs l l'=some ys)
  (h: ∀a' n' c',b7 t K a' n' c' ys→WL P ops Q N rest ((d,.slice a' n' c')::E) w):WL P ops Q N (⟨some d,.slice T x (some y) (some z) none,ty,pos,af,gd⟩::rest) E w:=by
 obtain⟨a',n',c',h1,h2⟩:=b6m hT hU hx hy hy' hs hz
 exact a3N hw hd (h1 w) (h a' n' c' h2)
theorem b6N (hw:H2 ops N E gd)(hd:Nat.blt d N=true)(hT:TF P T size agg zero bytes)(hS:SH w0 K0 M w K L)
  (h: ∀g w',SH w0 K0 M w' K (r5 g zero.cells.toList T::L)→WL P ops Q N rest ((d,.pointer (some ⟨g,0,none⟩))::E) w'):WL P ops Q N (⟨some d,.alloc T,ty,pos,af,gd⟩::rest) E w:=
 a3M hw hd (b6e hT) (h _ _ (hS.newObj _ T))
theorem b83 {v:Value}(hw:H2 ops N E gd)(hd:Nat.blt d N=true)(hx:ev E x=some v)(hS:SH w0 K0 M w K L)
  (h: ∀g w',SH w0 K0 M w' K (r5 g v.cells.toList T::L)→WL P ops Q N rest ((d,.pointer (some ⟨g,0,none⟩))::E) w'):WL P ops Q N (⟨some d,.box T x,ty,pos,af,gd⟩::rest) E w:=
 a3M hw hd (b8V hx) (h _ _ (hS.newObj _ T))
theorem b6P {g o:Nat}{cs cs':List Value}{v:Value}(hw:H2 ops N E gd)(hT:TF P T size agg zero bytes)(hx:ev E x=some (.pointer (some ⟨g,o,none⟩)))(hy:ev E y=some v)(hsz:v.cells.size=size)(hones: ∀c∈v.cells.toList,c.oneCell'=true)
  (hS:SH w0 K0 M w K (r5 g cs U fr::L))(hfit:Nat.ble (o+size) cs.length=true)(hcs:H9 cs o v.cells.toList=cs')
  (h: ∀w',SH w0 K0 M w' K (r5 g cs' U fr::L)→WL P ops Q N rest E w'):WL P ops Q N (⟨none,.store T x y,ty,pos,af,gd⟩::rest) E w:=by
 obtain⟨h1,h2⟩:=b1S hT hx hy hsz hones hS hfit
 subst hcs
 exact b2q hw h1 (h _ h2)
theorem b5k {α:Type}{t:Ty α}{a a2:Option Addr}{n c n2 c2:Nat}{xs ys zs:List α}(hw:H2 ops N E gd)(hd:Nat.blt d N=true)(hT:P.underlying T=some (.slice U))(hU:TF P U t.size agg zero bytes)(hsz:Nat.blt 0 t.size=true)(hzs:zero.cells.size=t.size)
  (hb:Nat.blt 0 bytes=true)(hx:ev E x=some (.slice a n c))(hy:ev E y=some (.slice a2 n2 c2))(hs:b7 t K a n c xs)(hs2:b7 t K a2 n2 c2 ys)(hz:J5 bytes xs ys=some zs)
  (hS:SH w0 K0 M w K (tail (.slice a n c) U t.size::L))
  (h: ∀a' n' c' w' K',H7 K K'→b7 t K' a' n' c' zs→SH w0 K0 M w' K' (tail (.slice a' n' c') U t.size::L)→WL P ops Q N rest ((d,.slice a' n' c')::E) w'):
  WL P ops Q N (⟨some d,.call {callee:=.builtin .append,args:=#[x,y],argTypes:=#[T,T]},ty,pos,af,gd⟩::rest) E w:=by
 obtain⟨a',n',c',w',K',h1,h2,h3,h4⟩:=b4U hT hU hsz hzs hb hx hy hs hs2 hz hS
 exact a3M hw hd h1 (h a' n' c' w' K' h2 h3 h4)
theorem W7 {α:Type}{t:Ty α}{n:Nat}{parts:List (Nat×Operand)}{pv:List (Nat×Value)}{cs:List Value}{xs:List α}(hw:H2 ops N E gd)(hd:Nat.blt d N=true)(hT:P.underlying T=some (.slice U))(hU:TF P U t.size agg zero bytes)
  (hev:evP E parts=some pv)(hn:Nat.blt 0 (n*t.size)=true)(hsm:Nat.ble (n*t.size) 16777216=true)
  (hf:Instr.fill (fun i=>some (i*t.size,t.size)) ((Array.range (n*t.size)).map fun i=>zero.cells[i%zero.cells.size]!) pv=some cs.toArray)
  (hl:xs.length=n)(hcl:cs.length=n*t.size)(hcs: ∀(i:Nat) z,xs[i]? =some z→∃u,t.rel K u z∧∀j d,u.cells.toList[j]? =some d→cs[i*t.size+j]? =some d)(hS:SH w0 K0 M w K L)
  (h: ∀a' w' K',H7 K K'→b7 t K' a' n n xs→SH w0 K0 M w' K' (tail (.slice a' n n) U t.size::L)→WL P ops Q N rest ((d,.slice a' n n)::E) w'):
  WL P ops Q N (⟨some d,.buildSlice T n parts.toArray,ty,pos,af,gd⟩::rest) E w:=by
 obtain⟨a',w',K',h1,h2,h3,h4⟩:=a9x (P:=P) (E:=E) hT hU hev hn hsm hf hl hcl hcs hS
 exact a3M hw hd h1 (h a' w' K' h2 h3 h4)
theorem a4F {α:Type}(t:Ty α)(hw:H2 ops N E gd)(hd:Nat.blt d N=true)(hT:P.underlying T=some (.slice U))(hU:TF P U t.size agg zero bytes)(hS:SH w0 K0 M w K L)
  (h: ∀a' w' K',H7 K K'→b7 t K' a' 0 0 ([]:List α)→SH w0 K0 M w' K' (tail (.slice a' 0 0) U t.size::L)→WL P ops Q N rest ((d,.slice a' 0 0)::E) w'):
  WL P ops Q N (⟨some d,.buildSlice T 0 #[],ty,pos,af,gd⟩::rest) E w:=by
 obtain⟨a',w',K',h1,h2,h3,h4⟩:=a8S (P:=P) (E:=E) t hT hU hS
 exact a3M hw hd h1 (h a' w' K' h2 h3 h4)
theorem a06 {α:Type}{t:Ty α}{u:Value}{z:α}{xs:List α}{cs:List Value}(hu:t.rel K u z)
  (h: ∀(i:Nat) z',xs[i]? =some z'→∃u',t.rel K u' z'∧∀j d,u'.cells.toList[j]? =some d→cs[i*t.size+j]? =some d):
  ∀(i:Nat) z',(z::xs)[i]? =some z'→∃u',t.rel K u' z'∧∀j d,u'.cells.toList[j]? =some d→(u.cells.toList++cs)[i*t.size+j]? =some d:=by
 have hl:u.cells.toList.length=t.size:=by simpa using t.size_eq hu
 intro i z' hz
 cases i with
 | zero=>
  simp at hz;subst hz
  refine⟨u,hu,fun j d e=>?_⟩
  have:=(g8.1 e).1
  rw [Nat.zero_mul,Nat.zero_add,List.getElem?_append_left this];exact e
 | succ i=>
  simp at hz
  obtain⟨u',hu',hk⟩:=h i z' hz
  refine⟨u',hu',fun j d e=>?_⟩
  rw [List.getElem?_append_right (by rw [hl,Nat.add_mul,Nat.one_mul];omega),hl,show (i+1)*t.size+j-t.size=i*t.size+j from by rw [Nat.add_mul,Nat.one_mul];omega]
  exact hk j d e
theorem a51 {α:Type}{t:Ty α}: ∀(i:Nat) z',([]:List α)[i]? =some z'→∃u',t.rel K u' z'∧∀j d,u'.cells.toList[j]? =some d→([]:List Value)[i*t.size+j]? =some d:=by
 intro i z' hz;simp at hz
theorem j9 {c:Code}(Mid:X6→World→Prop)(h:WC P c (Exit.then (a6s N Mid) Q) N E w)
  (hk: ∀E' w',Mid E' w'→QE Q .normal N E' w'):WC P c Q N E w:=
 b38 h fun e a w' q=>by
  cases e with
  | normal=>
   obtain⟨hd,E',hf,hm⟩:=q
   obtain⟨t,ds⟩:=a
   simp only at hd hf
   subst hd
   exact hk E' w' hm t hf
  | exit id=>exact q
  | goto l=>exact q
  | ret=>exact q
  | panic c=>exact q
  | outgrown=>exact q
def O6 {σ:Type}(f:Nat→σ→Option σ):Nat→Nat→σ→Option σ
 | 0,_,s=>some s
 | k+1,i,s=>(f i s).bind fun s'=>O6 f k (i+1) s'
theorem a9G {σ:Type}(f:Nat→σ→Option σ): ∀(k i:Nat) (s r:σ),O6 f k i s=some r→y6 (τ:=Empty) (fun i s=>(f i s).map .inl) k i s=some (.inl r)
 | 0,i,s,r,h=>by simp [O6] at h;simp [y6,h]
 | k+1,i,s,r,h=>by
  simp only [O6] at h
  obtain⟨s',h1,h2⟩:=Option.bind_eq_some_iff.1 h
  simp only [y6,h1,Option.map_some,a8,Sum.elim_inl]
  exact a9G f k (i+1) s' r h2
theorem b7P {σ:Type}{f:Nat→σ→Option σ}{n:Nat}{r:σ}{s0:σ}{body:Code}(Inv:Nat→σ→X6→World→Prop)(hrun:O6 f n 0 s0=some r)(h0:Inv 0 s0 E w)
  (hround: ∀i s E w s',i<n→f i s=some s'→Inv i s E w→WC P body (Exit.then (a6s N fun E' w'=>Inv (i+1) s' E' w') Q) N E w)
  (hend: ∀s E w,r=s→Inv n s E w→WC P body (Exit.then (fun _ _=>False) Q) N E w):WC P (.loop body) Q N E w:=by
 refine b6K Inv (a9G f n 0 s0 r hrun) h0 (fun i s E w r' hi hf _ hI=>?_) (fun s E w hr hI=>hend s E w (by injection hr) hI)
 obtain⟨s',h1,rfl⟩:=Option.map_eq_some_iff.1 hf
 refine b38 (hround i s E w s' hi h1 hI) fun e a w' q=>?_
 cases e with
 | normal=>obtain⟨hd,E',hf',hI'⟩:=q;exact⟨hd,E',hf',s',rfl,hI'⟩
 | exit id=>exact q
 | goto l=>exact q
 | ret=>exact q
 | panic c=>exact q
 | outgrown=>exact q
end
end Go.Fk
namespace Go.Fk
open Go
set_option linter.unusedSectionVars false
variable [dr:Dr]
section
variable {P:Program}{ops:Array Oper}{Q:Exit→Act→World→Prop}{N:Nat}{E:X6}{w w0:World}{K K0:C7}{M:List Nat}{L:List B8}{C:World→Prop}
variable {x y z:Operand}{T T' U:TypeId}{size bytes:Nat}{zero:Value}{agg:Bool}
theorem b6L {σ:Type}{f:Nat→σ→Option σ}{n:Nat}{r:σ}{s0:σ}{body:Code}{E':X6}(Inv:Nat→σ→X6→World→Prop)(hrun:O6 f n 0 s0=some r)(h0:Inv 0 s0 E' w)(hs:Sub E' E)
  (hround: ∀i s E w s',i<n→f i s=some s'→Inv i s E w→WC P body (Exit.then (a6s N fun E' w'=>Inv (i+1) s' E' w') Q) N E w)
  (hend: ∀s E w,s=r→Inv n s E w→WC P body (Exit.then (fun _ _=>False) Q) N E w):WC P (.loop body) Q N E w:=
 b3b hs (b7P Inv hrun h0 hround fun s E w h hI=>hend s E w h.symm hI)
theorem b7O {σ τ:Type}{f:Nat→σ→Option (σ⊕τ)}{n:Nat}{r:σ⊕τ}{s0:σ}{body:Code}{E':X6}(Inv:Nat→σ→X6→World→Prop)(hrun:y6 f n 0 s0=some r)(h0:Inv 0 s0 E' w)(hs:Sub E' E)
  (hround: ∀i s E w r',i<n→f i s=some r'→(∀x,r'= .inr x→.inr x=r)→Inv i s E w→WC P body (Exit.then (a6s N fun E' w'=>∃s',r'= .inl s'∧Inv (i+1) s' E' w') Q) N E w)
  (hend: ∀s E w,.inl s=r→Inv n s E w→WC P body (Exit.then (fun _ _=>False) Q) N E w):WC P (.loop body) Q N E w:=
 b3b hs (b6K Inv hrun h0 (fun i s E w r' hi hf hx hI=>hround i s E w r' hi hf (fun x e=>(hx x e).symm) hI) fun s E w h hI=>hend s E w h.symm hI)
theorem b5j {σ τ:Type}{f:σ→Option (σ⊕τ)}{m:Nat}{r:τ}{s0:σ}{body:Code}{E':X6}(Inv:σ→X6→World→Prop)(hrun:u0 f m s0=some r)(h0:Inv s0 E' w)(hs:Sub E' E)
  (hround: ∀s E w r',f s=some r'→(∀x,r'= .inr x→x=r)→Inv s E w→WC P body (Exit.then (a6s N fun E' w'=>∃s',r'= .inl s'∧Inv s' E' w') Q) N E w):WC P (.loop body) Q N E w:=
 b3b hs (b6M Inv hrun h0 fun s E w r' hf hx hI=>hround s E w r' hf (fun x e=>(hx x e).symm) hI)
theorem b3T {v v':Value}(hx:ev E x=some v)(e:v=v'):RV P E w (.assign x) v':=e▸r4 hx
theorem b5A {a b:Int}(e:a=b)(h:j5 a):j5 b:=e▸h
theorem D7.part {b o:Nat}{cs:List Value}(h:D7 K b o cs)(k n:Nat):D7 K b (o+k) ((cs.drop k).take n):=fun j c e=>by
 rw [List.getElem?_take] at e
 split at e
 ·rw [List.getElem?_drop] at e;rw [Nat.add_assoc];exact h _ c e
 ·cases e
theorem b3S {a b c:Int}(ha:j5 a)(h:b12 a b=some c):j5 c:=by
 unfold b12 at h
 split at h
 ·cases h
 ·cases h
  obtain⟨h1,h2⟩:=ha
  have hp:0<(2:Int) ^ (min b.toNat 64):=Int.pow_pos (by decide)
  rw [Int.fdiv_eq_ediv_of_nonneg _ (Int.le_of_lt hp)]
  have h3:9223372036854775807*1≤9223372036854775807*(2:Int) ^ (min b.toNat 64):=Int.mul_le_mul_of_nonneg_left hp (by decide)
  have h4: -9223372036854775808*(2:Int) ^ (min b.toNat 64)≤ -9223372036854775808*1:=Int.mul_le_mul_of_nonpos_left (by decide) hp
  exact⟨Int.le_ediv_of_mul_le hp (by omega),Int.ediv_le_of_le_mul hp (by omega)⟩
theorem b3V {a b:Int}(hx:ev E x=some (.int .i64 a))(hy:ev E y=some (.int .i64 b)):RV P E w (.call {callee:=.builtin .max,args:=#[x,y],argTypes:=#[T,T']}) (.int .i64 (if b>a then b else a)):=
 fun ρ _ _ _ _ _ ha=>by simp [execOp,resolve,invoke,builtin,ha x _ hx,ha y _ hy,Builtin.max_,Builtin.max2]
theorem b3W {a b:Int}(hx:ev E x=some (.int .i64 a))(hy:ev E y=some (.int .i64 b)):RV P E w (.call {callee:=.builtin .min,args:=#[x,y],argTypes:=#[T,T']}) (.int .i64 (if b<a then b else a)):=
 fun ρ _ _ _ _ _ ha=>by simp [execOp,resolve,invoke,builtin,ha x _ hx,ha y _ hy,Builtin.min_,Builtin.min2]
theorem b7B {z:Operand}{T'':TypeId}{a b c:Int}(hx:ev E x=some (.int .i64 a))(hy:ev E y=some (.int .i64 b))(hz:ev E z=some (.int .i64 c)):
  RV P E w (.call {callee:=.builtin .min,args:=#[x,y,z],argTypes:=#[T,T',T'']}) (.int .i64 (if c<(if b<a then b else a) then c else (if b<a then b else a))):=
 fun ρ _ _ _ _ _ ha=>by
  simp [execOp,resolve,invoke,builtin,ha x _ hx,ha y _ hy,ha z _ hz,Builtin.min_,Builtin.min2]
theorem b5y (K:C7): ∀(xs:List UInt8) (b o:Nat),(∀(i:Nat) x,xs[i]? =some x→∃u,tU8.rel K u x∧D7 K b (o+i*tU8.size) u.cells.toList)→D7 K b o (xs.map iv8):=fun xs b o h j c e=>by
 rw [List.getElem?_map] at e
 obtain⟨x,hx,rfl⟩:=Option.map_eq_some_iff.1 e
 obtain⟨u,hu,hk⟩:=h j x hx
 have hu':u=iv8 x:=hu
 subst hu'
 have:=hk 0 (iv8 x) rfl
 simpa [tU8] using this
theorem a8N: ∀(xs:List UInt8) (acc:ByteArray),((xs.map fun b=>(b.toNat:Int)).foldl (fun r n=>r.push (UInt8.ofNat n.toNat)) acc)=⟨acc.data++xs.toArray⟩
 | [],acc=>by simp
 | x::xs,acc=>by
  simp only [List.map_cons,List.foldl_cons]
  rw [a8N xs]
  simp [ByteArray.push]
theorem b6i {a:Option Addr}{n c:Nat}{xs:List UInt8}(hT:P.underlying T=some (.slice U))(hU:P.underlying U=some (.int .u8))(hT':P.underlying T'=some .string)(hx:ev E x=some (.slice a n c))
  (hs:b7 tU8 K a n c xs)(hS:SH w0 K0 M w K L):RV P E w (.convert T T' x) (sv xs):=fun ρ _ _ _ _ _ ha=>by
 have h1:=run_convert_bytes_string (P:=P) w T T' U a n c hT hU hT'
 obtain⟨e1,e2,e3,e4⟩:=hs
 have key:(Conv.bytesToString (.slice a n c)).run P w= .ok (sv xs) w:=by
  cases a with
  | none=>
   have:xs=[]:=by
    by_cases hc:0<c
    ·obtain⟨b,o,h,_⟩:=e4 hc;cases h
    ·exact List.eq_nil_of_length_eq_zero (by omega)
   subst this
   rfl
  | some ad=>
   by_cases hc:0<c
   ·obtain⟨b,o,h,h5⟩:=e4 hc
    injection h with h
    subst h
    have h6:=b5y K xs b o h5
    have h7:=a1x (P:=P) (a8a hS h6)
    rw [List.length_map,←e1] at h7
    have h8:=run_bytesToString (P:=P) w ⟨b,o,none⟩ n c (xs.map fun b=>(b.toNat:Int)) (by rw [h7,List.map_map];rfl)
    rw [h8,a8N]
    have e9:ByteArray.empty.data++xs.toArray=xs.toArray:=by simp
    rw [e9];rfl
   ·have:xs=[]:=List.eq_nil_of_length_eq_zero (by omega)
    subst this
    have hn:n=0:=by omega
    subst hn
    exact run_bytesToString (P:=P) w ad 0 c [] rfl
 simp only [execOp,ha x _ hx,Sem.run_bind,h1,key,Result.andThen_ok]
 rfl
end
end Go.Fk
