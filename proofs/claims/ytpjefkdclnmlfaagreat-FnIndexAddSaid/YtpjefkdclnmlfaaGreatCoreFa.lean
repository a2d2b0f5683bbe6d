/-
  Literals, calls, loops, a call's beginning and end: of no program.
-/
import Derived.Test.YtpjefkdclnmlfaaGreatCoreE
import Derived.Deep.LoopGhost
namespace Go.Fk
open Go
set_option linter.unusedSectionVars false
variable [dr:Dr]
section
variable {P:Program}{ops:Array Oper}{Q:Exit→Act→World→Prop}{N:Nat}{E:Env}{w w0:World}{K K0:KMap}{M:List Nat}{L:List Item}
variable {x y:Operand}{T T' U:TypeId}{size bytes:Nat}{zero:Value}{agg:Bool}
def evP (E:Env):List (Nat×Operand)→Option (List (Nat×Value))
 | []=>some []
 | (i,x)::r=>(ev E x).bind fun v=>(evP E r).map fun l=>(i,v)::l
theorem evP_run {ρ:Operand→Value}(ha:Agree E ρ): ∀{l:List (Nat×Operand)} {r:List (Nat×Value)},evP E l=some r→l.map (fun p=>(p.1,ρ p.2))=r
 | [],r,h=>by simp [evP] at h;simp [h]
 | (i,x)::l,r,h=>by
  simp only [evP] at h
  obtain⟨v,hv,h⟩:=Option.bind_eq_some_iff.1 h
  obtain⟨l',hl,rfl⟩:=Option.map_eq_some_iff.1 h
  simp [ha x v hv,evP_run ha hl]
def SPlaces (P:Program)(T:TypeId):Option (List (Nat×Nat)):=
 match P.underlying T with
 | some (.struct fs)=>fs.toList.mapM fun f=>(P.info? f.type).map fun i=>(f.offset,i.size)
 | _=>none
theorem run_places: ∀(fs:List Field) (pl:List (Nat×Nat)) (w:World),fs.mapM (fun f=>(P.info? f.type).map fun i=>(f.offset,i.size))=some pl→
  (fs.mapM (fun f=>do pure (f.offset,←sizeOf f.type)):Sem (List (Nat×Nat))).run P w= .ok pl w
 | [],pl,w,h=>by simp at h;subst h;simp
 | f::fs,pl,w,h=>by
  simp only [List.mapM_cons,Option.bind_eq_bind,Option.bind_eq_some_iff] at h
  obtain⟨p,hp,l,hl,h⟩:=h
  obtain⟨i,hi,rfl⟩:=Option.map_eq_some_iff.1 hp
  cases h
  have ih:=run_places fs l w hl
  have h1:((do pure (f.offset,←sizeOf f.type)):Sem (Nat×Nat)).run P w= .ok (f.offset,i.size) w:=by simp [sizeOf,typeInfo,hi]
  rw [List.mapM_cons,Sem.run_bind,h1,Result.andThen_ok,Sem.run_bind,ih,Result.andThen_ok]
  rfl
theorem rv_build {parts:List (Nat×Operand)}{pv:List (Nat×Value)}{pl:List (Nat×Nat)}{z cs:Array Value}(hP:SPlaces P T=some pl)(hT:TF P T size true (.agg z) bytes)(hev:evP E parts=some pv)
  (hf:Instr.fill (fun i=>pl[i]?) z pv=some cs):RV P E w (.build T parts.toArray) (.agg cs):=fun ρ _ _ _ _ _ ha=>by
 unfold SPlaces at hP
 split at hP
 ·rename_i fs hu
  have hr:=run_places (P:=P) fs.toList pl w hP
  have e:=evP_run ha hev
  have hm:(fs.mapM (fun f=>do pure (f.offset,←sizeOf f.type)):Sem (Array (Nat×Nat))).run P w= .ok pl.toArray w:=by
   rw [Array.mapM_eq_mapM_toList]
   simp only [Sem.run_map,hr,Result.andThen_ok]
  simp only [execOp,Instr.build,Sem.run_bind,run_zeroValue hT,run_underlying hu,Result.andThen_ok,List.map_toArray,e]
  simp only [bind_pure_comp] at hm ⊢
  simp only [hm,Result.andThen_ok,Value.cells,List.getElem?_toArray,hf,Sem.run_pure]
 ·cases hP
theorem rt_buildSlice {α:Type}{t:Ty α}{n:Nat}{parts:List (Nat×Operand)}{pv:List (Nat×Value)}{cs:List Value}{xs:List α}(hT:P.underlying T=some (.slice U))(hU:TF P U t.size agg zero bytes)
  (hev:evP E parts=some pv)(hn:Nat.blt 0 (n*t.size)=true)(hsm:Nat.ble (n*t.size) 16777216=true)
  (hf:Instr.fill (fun i=>some (i*t.size,t.size)) ((Array.range (n*t.size)).map fun i=>zero.cells[i%zero.cells.size]!) pv=some cs.toArray)
  (hl:xs.length=n)(hcl:cs.length=n*t.size)(hcs: ∀(i:Nat) z,xs[i]? =some z→∃u,t.rel K u z∧∀j d,u.cells.toList[j]? =some d→cs[i*t.size+j]? =some d)(hS:SH w0 K0 M w K L):
  ∃a' w' K',RunTo P E w (.buildSlice T n parts.toArray) (.ok (.value (.slice a' n n)) w')∧KLe K K'∧SliceAt t K' a' n n xs∧SH w0 K0 M w' K' (tail (.slice a' n n) U t.size::L):=by
 have hn':0<n*t.size:=by simpa [Nat.blt_eq] using hn
 have hsm':n*t.size≤16777216:=by simpa using hsm
 have hmax:n≤maxLen:=by
  have:n≤n*t.size:=Nat.le_mul_of_pos_right n (Nat.pos_of_mul_pos_left hn')
  simp [maxLen];omega
 obtain⟨K',hle,hat,hS'⟩:=hS.newTail (cs:=cs) (rest:=[]) (n:=n) (cap:=n) (sz:=t.size) U hcl (by simpa using hcl) (Nat.le_refl _) hmax
 refine⟨some ⟨w.heap.size,0,none⟩,_,K',fun ρ _ _ _ _ _ ha=>?_,hle,SliceAt.of_cells hl.symm (Nat.le_refl _) hmax (fun i z hz=>?_),hS'⟩
 ·have e:=evP_run ha hev
  have h1: ¬(2 ^ 24<n*t.size):=by omega
  have h2: ¬(n*t.size=0):=by omega
  simp only [execOp,Instr.buildSlice,Sem.run_bind,run_underlying hT,run_sizeOf hU,Result.andThen_ok,List.map_toArray,e]
  rw [if_neg h1,if_neg h2]
  simp only [Sem.run_bind,Sem.run_pure,run_zeroValue hU,hf,newRow,Result.andThen_ok]
  rw [List.append_nil]
  rfl
 ·obtain⟨u,hu,hk⟩:=hcs i z hz
  refine⟨u,t.mono hle hu,fun j d e=>?_⟩
  have:=hat _ d (hk j d e)
  rwa [Nat.zero_add] at this
theorem rt_buildSlice0 {α:Type}(t:Ty α)(hT:P.underlying T=some (.slice U))(hU:TF P U t.size agg zero bytes)(hS:SH w0 K0 M w K L):
  ∃a' w' K',RunTo P E w (.buildSlice T 0 #[]) (.ok (.value (.slice a' 0 0)) w')∧KLe K K'∧SliceAt t K' a' 0 0 []∧SH w0 K0 M w' K' (tail (.slice a' 0 0) U t.size::L):=by
 obtain⟨K',hle,hat,hS'⟩:=hS.newTail (cs:=[]) (rest:=[]) (n:=0) (cap:=0) (sz:=t.size) U (by simp) (by simp) (Nat.le_refl _) (Nat.zero_le _)
 refine⟨some ⟨w.heap.size,0,none⟩,_,K',fun ρ _ _ _ _ _ _=>?_,hle,SliceAt.of_cells rfl (Nat.le_refl _) (Nat.zero_le _) (fun i z hz=>by simp at hz),hS'⟩
 simp only [execOp,Instr.buildSlice,Sem.run_bind,run_underlying hT,run_sizeOf hU,Result.andThen_ok]
 have h1: ¬(0*t.size>2 ^ 24):=by omega
 have h2:0*t.size=0:=by omega
 rw [if_neg h1,if_pos h2]
 have h3:(Array.range 0).map (fun x=>(#[]:Array Value)[x%(#[]:Array Value).size]!)=#[]:=by simp [Array.range]
 have h4:((#[]:Array (Nat×Operand)).map fun (i,x)=>(i,ρ x)).toList=[]:=by simp
 simp only [h2,Sem.run_bind,Sem.run_pure,Result.andThen_ok,newRow,h3,h4,Instr.fill]
 rfl
end
end Go.Fk
