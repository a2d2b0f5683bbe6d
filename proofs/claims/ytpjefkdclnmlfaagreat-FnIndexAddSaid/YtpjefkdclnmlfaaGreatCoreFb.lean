/-
  Literals, calls, loops, a call's beginning and end: of no program.
-/
import Derived.Test.YtpjefkdclnmlfaaGreatCoreFa
import Derived.Deep.LoopGhost
namespace Go.Fk
open Go
set_option linter.unusedSectionVars false
variable [dr:Dr]
section
variable {P:Program}{ops:Array Oper}{Q:Exit→Act→World→Prop}{N:Nat}{E:Env}{w w0:World}{K K0:KMap}{M:List Nat}{L:List Item}
variable {x y:Operand}{T T' U:TypeId}{size bytes:Nat}{zero:Value}{agg:Bool}
def CallOk (P:Program)(f:FuncId):Prop:=∃fn,P.funcs[f]? =some fn∧(fn.name== "runtime.NumGoroutine")=false∧fn.body.isNone=false
def evL (E:Env):List Operand→Option (List Value)
 | []=>some []
 | x::r=>(ev E x).bind fun v=>(evL E r).map fun l=>v::l
theorem evL_run {ρ:Operand→Value}(ha:Agree E ρ): ∀{l:List Operand} {r:List Value},evL E l=some r→l.map ρ=r
 | [],r,h=>by simp [evL] at h;simp [h]
 | x::l,r,h=>by
  simp only [evL] at h
  obtain⟨v,hv,h⟩:=Option.bind_eq_some_iff.1 h
  obtain⟨l',hl,rfl⟩:=Option.map_eq_some_iff.1 h
  simp [ha x v hv,evL_run ha hl]
theorem rt_call {f:FuncId}{args:List Operand}{ats:Array TypeId}{vs:List Value}(hf:CallOk P f)(hev:evL E args=some vs):
  RunTo P E w (.call {callee:=.value (.func f),args:=args.toArray,argTypes:=ats}) (.ok (.enter f vs.toArray) w):=fun ρ _ _ _ _ _ ha=>by
 obtain⟨fn,h1,h2,h3⟩:=hf
 have e:=evL_run ha hev
 have ef:ρ (.func f)= .func (.func f) #[] #[]:=ha _ _ rfl
 have h2':fn.name≠ "runtime.NumGoroutine" :=by simpa using h2
 have h3':fn.body≠none:=by intro h;rw [h] at h3;cases h3
 simp [execOp,resolve,ef,Deferred.ofValue,invoke,callFunc,h1,h2',h3',e]
theorem rt_callv {f:FuncId}{g:Operand}{args:List Operand}{ats:Array TypeId}{vs:List Value}{cap:Array Value}(hf:CallOk P f)(hg:ev E g=some (.func (.func f) #[] cap))(hev:evL E args=some vs):
  RunTo P E w (.call {callee:=.value g,args:=args.toArray,argTypes:=ats}) (.ok (.enter f (vs.toArray++cap)) w):=fun ρ _ _ _ _ _ ha=>by
 obtain⟨fn,h1,h2,h3⟩:=hf
 have e:=evL_run ha hev
 have h2':fn.name≠ "runtime.NumGoroutine" :=by simpa using h2
 have h3':fn.body≠none:=by intro h;rw [h] at h3;cases h3
 simp [execOp,resolve,ha g _ hg,Deferred.ofValue,invoke,callFunc,h1,h2',h3',e]
theorem rv_makeFunc {f:FuncId}{caps:List Operand}{vs:List Value}(hev:evL E caps=some vs):RV P E w (.makeFunc (.func f) #[] caps.toArray) (.func (.func f) #[] vs.toArray):=fun ρ _ _ _ _ _ ha=>by
 have e:=evL_run ha hev
 simp [execOp,Instr.makeFunc,e]
theorem SH.enter {Lin Lfr:List Item}(h:SH w0 K0 M w K (Lin++Lfr)):SH w K (Lin.flatMap Item.gs) w K Lin where
 os:=rfl
 tape:=rfl
 output:=rfl
 holds:=h.holds
 le:=.refl _
 size:=Nat.le_refl _
 drawn:=fun _=>Nat.le_refl _
 old:=fun _ _ _=>rfl
 oldK:=fun _ _ _=>rfl
 items:=fun it hi=>h.items it (List.mem_append_left _ hi)
 lt:=fun it hi b hb=>⟨(h.lt it (List.mem_append_left _ hi) b hb).1,.inr (List.mem_flatMap.2 ⟨it,hi,hb⟩)⟩
 nodup:=by
  have:=h.nodup
  rw [List.flatMap_append] at this
  exact(List.nodup_append.1 this).1
theorem SH.call {w':World}{K':KMap}{Lin Lfr Lout:List Item}(h:SH w0 K0 M w K (Lin++Lfr))(hc:SH w K (Lin.flatMap Item.gs) w' K' Lout):SH w0 K0 M w' K' (Lout++Lfr):=by
 have hnd:=h.nodup
 rw [List.flatMap_append,List.nodup_append] at hnd
 have hfr: ∀it∈Lfr,∀b∈it.gs,b<w.heap.size∧b∉Lin.flatMap Item.gs:=fun it hi b hb=>
  ⟨(h.lt it (List.mem_append_right _ hi) b hb).1,fun hm=>hnd.2.2 b hm b (List.mem_flatMap.2 ⟨it,hi,hb⟩) rfl⟩
 have hin: ∀b,b∈Lin.flatMap Item.gs→w0.heap.size≤b∨b∈M:=fun b hb=>by
  obtain⟨it,hi,e⟩:=List.mem_flatMap.1 hb
  exact(h.lt it (List.mem_append_left _ hi) b e).2
 refine⟨hc.os.trans h.os,hc.tape.trans h.tape,hc.output.trans h.output,hc.holds,h.le.trans hc.le,Nat.le_trans h.size hc.size,fun b hb hm=>?_,fun b hb hm=>?_,fun it hi=>?_,fun it hi b hb=>?_,?_,fun d=>Nat.le_trans (h.drawn d) (hc.drawn d)⟩
 ·have hnot:b∉Lin.flatMap Item.gs:=fun hm2=>(hin b hm2).elim (fun h1=>by omega) hm
  rw [hc.old b (Nat.lt_of_lt_of_le hb h.size) hnot];exact h.old b hb hm
 ·have hnot:b∉Lin.flatMap Item.gs:=fun hm2=>(hin b hm2).elim (fun h1=>by omega) hm
  rw [hc.oldK b (Nat.lt_of_lt_of_le hb h.size) hnot];exact h.oldK b hb hm
 ·rcases List.mem_append.1 hi with hi | hi
  ·exact hc.items it hi
  ·have h1:=h.items it (List.mem_append_right _ hi)
   refine⟨h1.1,it.loc (fun b hb=>?_) h1.2⟩
   obtain⟨h2,h3⟩:=hfr it hi b hb
   exact⟨(hc.old b h2 h3).symm,(hc.oldK b h2 h3).symm⟩
 ·rcases List.mem_append.1 hi with hi | hi
  ·obtain⟨h1,h2⟩:=hc.lt it hi b hb
   refine⟨h1,h2.elim (fun h3=>.inl (Nat.le_trans h.size h3)) (fun h3=>hin b h3)⟩
  ·have:=h.lt it (List.mem_append_right _ hi) b hb
   exact⟨Nat.lt_of_lt_of_le this.1 hc.size,this.2⟩
 ·rw [List.flatMap_append,List.nodup_append]
  refine⟨hc.nodup,hnd.2.1,fun b hb b' hb' e=>?_⟩
  subst e
  obtain⟨it,hi,e⟩:=List.mem_flatMap.1 hb
  obtain⟨it',hi',e'⟩:=List.mem_flatMap.1 hb'
  obtain⟨h2,h3⟩:=hfr it' hi' b e'
  rcases (hc.lt it hi b e).2 with h4 | h4
  ·omega
  ·exact h3 h4
theorem SH.enter0 (h:SH w0 K0 M w K L):SH w K [] w K []:=.start h.holds
theorem SH.call0 {w':World}{K':KMap}{Lout:List Item}(h:SH w0 K0 M w K L)(hc:SH w K [] w' K' Lout):SH w0 K0 M w' K' (Lout++L):=SH.call (Lin:=[]) h hc
def forFrom {σ τ:Type}(f:Nat→σ→Option (σ⊕τ)):Nat→Nat→σ→Option (σ⊕τ)
 | 0,_,s=>some (.inl s)
 | k+1,i,s=>(f i s).bind fun r=>r.elim (fun s'=>forFrom f k (i+1) s') fun t=>some (.inr t)
def whileM {σ τ:Type}(f:σ→Option (σ⊕τ)):Nat→σ→Option τ
 | 0,_=>none
 | k+1,s=>(f s).bind fun r=>r.elim (fun s'=>whileM f k s') some
theorem wc_for {σ τ:Type}{f:Nat→σ→Option (σ⊕τ)}{n:Nat}{r:σ⊕τ}{s0:σ}{body:Code}(Inv:Nat→σ→Env→World→Prop)(hrun:forFrom f n 0 s0=some r)(h0:Inv 0 s0 E w)
  (hround: ∀i s E w r',i<n→f i s=some r'→(∀x,r'= .inr x→r= .inr x)→Inv i s E w→WC P body (Exit.then (InSt N fun E' w'=>∃s',r'= .inl s'∧Inv (i+1) s' E' w') Q) N E w)
  (hend: ∀s E w,r= .inl s→Inv n s E w→WC P body (Exit.then (fun _ _=>False) Q) N E w):WC P (.loop body) Q N E w:=fun t ht=>by
 refine wp_loop_ghost (fun k a w=>a.defers=[]∧∃i s E,k=n-i∧i≤n∧forFrom f (n-i) i s=some r∧Fr N E a.tmps∧Inv i s E w) n ⟨rfl,0,s0,E,rfl,Nat.zero_le _,hrun,ht,h0⟩ ?_
 rintro k ⟨t,ds⟩ w ⟨hd,i,s,E,rfl,hi,hr,hf,hI⟩
 simp only at hd hf
 subst hd
 by_cases hlt:i<n
 ·have e:n-i=(n-(i+1))+1:=by omega
  rw [e] at hr
  simp only [forFrom] at hr
  obtain⟨r',hr',hr⟩:=Option.bind_eq_some_iff.1 hr
  refine Code.wp_mono (fun e a w' q=>?_) (hround i s E w r' hlt hr' (fun x hx=>by subst hx;simpa using hr.symm) hI t hf)
  cases e with
  | normal=>
   obtain⟨hd,E',hf',s',rfl,hI'⟩:=q
   exact⟨n-(i+1),by omega,hd,i+1,s',E',rfl,hlt,hr,hf',hI'⟩
  | exit id=>exact q
  | goto l=>exact q
  | ret=>exact q
  | panic c=>exact q
  | outgrown=>exact q
 ·have e:i=n:=by omega
  subst e
  rw [Nat.sub_self] at hr
  simp only [forFrom,Option.some.injEq] at hr
  refine Code.wp_mono (fun e a w' q=>?_) (hend s E w hr.symm hI t hf)
  cases e with
  | normal=>exact q.elim
  | exit id=>exact q
  | goto l=>exact q
  | ret=>exact q
  | panic c=>exact q
  | outgrown=>exact q
theorem wc_while {σ τ:Type}{f:σ→Option (σ⊕τ)}{m:Nat}{r:τ}{s0:σ}{body:Code}(Inv:σ→Env→World→Prop)(hrun:whileM f m s0=some r)(h0:Inv s0 E w)
  (hround: ∀s E w r',f s=some r'→(∀x,r'= .inr x→r=x)→Inv s E w→WC P body (Exit.then (InSt N fun E' w'=>∃s',r'= .inl s'∧Inv s' E' w') Q) N E w):WC P (.loop body) Q N E w:=fun t ht=>by
 refine wp_loop_ghost (fun k a w=>a.defers=[]∧∃s E,whileM f k s=some r∧Fr N E a.tmps∧Inv s E w) m ⟨rfl,s0,E,hrun,ht,h0⟩ ?_
 rintro k ⟨t,ds⟩ w ⟨hd,s,E,hr,hf,hI⟩
 simp only at hd hf
 subst hd
 cases k with
 | zero=>cases hr
 | succ k=>
  simp only [whileM] at hr
  obtain⟨r',hr',hr⟩:=Option.bind_eq_some_iff.1 hr
  refine Code.wp_mono (fun e a w' q=>?_) (hround s E w r' hr' (fun x hx=>by subst hx;simpa using hr.symm) hI t hf)
  cases e with
  | normal=>
   obtain⟨hd,E',hf',s',rfl,hI'⟩:=q
   exact⟨k,by omega,hd,s',E',hr,hf',hI'⟩
  | exit id=>exact q
  | goto l=>exact q
  | ret=>exact q
  | panic c=>exact q
  | outgrown=>exact q
def argsEnv:Nat→List Value→Env
 | _,[]=>[]
 | i,v::r=>(i,v)::argsEnv (i+1) r
theorem look_argsEnv: ∀(vs:List Value) (k i:Nat) (v:Value),look (argsEnv k vs) i=some v→k≤i∧vs[i-k]? =some v
 | [],_,_,_,h=>by cases h
 | u::r,k,i,v,h=>by
  simp only [argsEnv,look] at h
  by_cases e:k=i
  ·subst e;simp at h;subst h;simp
  ·have hb:Nat.beq k i=false:=by
    rw [Bool.eq_false_iff];intro hb;exact e (Nat.eq_of_beq_eq_true hb)
   rw [hb] at h
   obtain⟨h1,h2⟩:=look_argsEnv r (k+1) i v h
   refine⟨by omega,?_⟩
   rw [show i-k=(i-(k+1))+1 from by omega];simpa using h2
theorem calls_in {f:FuncId}{fn:Func}{c:Code}{vs:List Value}{R:Ending→World→Prop}(hf:P.funcs[f]? =some fn)(hb:fn.body=some c)(hN:fn.ntmps=N)(hle:Nat.ble vs.length N=true)
  (h:WC P c (bodyPost P fn R) N (argsEnv 0 vs) w):Calls P f vs.toArray w R:=by
 have hle':vs.length≤N:=by simpa using hle
 refine calls_of_wp hf hb (h _ ⟨by simp [hN];omega,fun i v hv=>?_⟩)
 obtain⟨_,h2⟩:=look_argsEnv vs 0 i v hv
 have hlt:=(List.getElem?_eq_some_iff.1 h2).1
 rw [Array.getElem?_append_left (by simpa using hlt)]
 simpa using h2
theorem run_loadVar_at {b o:Nat}{cs:List Value}{v:Value}(hT:TF P T size agg zero bytes)(hc:cellsAre w b o cs)(hv:(agg=true∧cs.length=size∧v= .agg cs.toArray)∨(agg=false∧cs=[v])):
  (loadVar T ⟨b,o,none⟩).run P w= .ok v w:=by
 rcases hv with ⟨rfl,hl,rfl⟩ | ⟨rfl,rfl⟩
 ·subst hl
  simp [loadVar,run_isAgg hT,run_sizeOf hT,run_loadCells_at hc]
 ·have h0:=hc 0 v rfl
  simp at h0
  simp [loadVar,run_isAgg hT,h0]
def ResV (P:Program)(w:World)(E:Env):List ResultVar→List Value→Prop
 | [],[]=>True
 | .tmp t::r,v::vs=>look E t=some v∧ResV P w E r vs
 | .cell a T::r,v::vs=>(∃b o,look E a=some (.pointer (some ⟨b,o,none⟩))∧(loadVar T ⟨b,o,none⟩).run P w= .ok v w)∧ResV P w E r vs
 | _,_=>False
theorem run_results {t:Array Value}(ht:Fr N E t): ∀(rs:List ResultVar) (vs:List Value),ResV P w E rs vs→
  (rs.mapM (fun | .tmp t'=>pure (t.getD t' undef) | .cell a T=>do loadVar T (←asAddr (t.getD a undef))):Sem (List Value)).run P w= .ok vs w
 | [],[],_=>rfl
 | [],_::_,h=>h.elim
 | .tmp i::r,[],h=>h.elim
 | .cell a T::r,[],h=>h.elim
 | .tmp i::r,v::vs,h=>by
  have h1:t.getD i undef=v:=by rw [Array.getD_eq_getD_getElem?,ht.2 i v h.1,Option.getD_some]
  have ih:=run_results ht r vs h.2
  rw [List.mapM_cons,Sem.run_bind]
  simp only [h1,Sem.run_pure,Result.andThen_ok]
  rw [Sem.run_bind,ih]
  rfl
 | .cell a T::r,v::vs,h=>by
  obtain⟨⟨b,o,h1,h2⟩,h3⟩:=h
  have h4:t.getD a undef= .pointer (some ⟨b,o,none⟩):=by rw [Array.getD_eq_getD_getElem?,ht.2 a _ h1,Option.getD_some]
  have ih:=run_results ht r vs h3
  rw [List.mapM_cons,Sem.run_bind]
  simp only [h4,Sem.run_bind,Sem.run_pure]
  rw [show (asAddr (.pointer (some ⟨b,o,none⟩))).run P w= .ok ⟨b,o,none⟩ w from rfl]
  simp only [Result.andThen_ok,h2]
  rw [ih]
  rfl
def retV:List Value→Value
 | [v]=>v
 | vs=>.tuple vs.toArray
theorem qe_ret {fn:Func}{R:Ending→World→Prop}{rs:List ResultVar}{vs:List Value}(hr:fn.results=rs.toArray)(h:ResV P w E rs vs)
  (hR:R (.returned (retV vs)) w):QE (bodyPost P fn R) .ret N E w:=fun t ht=>by
 refine bodyPost_ret (v:=retV vs) ?_ rfl hR
 have h1:=run_results ht rs vs h
 unfold results
 rw [hr,Array.mapM_eq_mapM_toList,Sem.run_bind,Sem.run_map]
 erw [h1]
 simp only [Result.andThen_ok,Sem.run_pure]
 match vs with
 | []=>rfl
 | [v]=>rfl
 | v::u::r=>simp [retV]
theorem qe_ret_normal {fn:Func}{R:Ending→World→Prop}(h:QE (bodyPost P fn R) .ret N E w):QE (bodyPost P fn R) .normal N E w:=h
end
end Go.Fk
