/-
  The operations on memory, over a call's state: of no program.
-/
import Derived.Test.YtpjefkdclnmlfaaGreatCoreC
namespace Go.Fk
open Go
set_option linter.unusedSectionVars false
variable [dr:Dr]
def aggD:TypeDesc→Bool
 | .struct _ | .array _ _=>true
 | _=>false
structure TF (P:Program)(T:TypeId)(size:Nat)(agg:Bool)(zero:Value)(bytes:Nat):Prop where
 info:(P.info? T).map (fun i=>(i.zero,i.size,i.bytes))=some (some zero,size,bytes)
 und:(P.underlying T).map aggD=some agg
def FF (P:Program)(T:TypeId)(f off:Nat):Prop:=
 (match P.underlying T with
 | some (.struct fs)=>(match fs[f]? with | some fd=>some (fd.offset,Nat.blt 0 (P.cellsOf fd.type)) | none=>none)
 | _=>none)=some (off,true)
section
variable {P:Program}{ops:Array Oper}{Q:Exit→Act→World→Prop}{N:Nat}{E:Env}{w w0:World}{K K0:KMap}{M:List Nat}{L:List Item}
variable {x y:Operand}{T T':TypeId}{size bytes:Nat}{zero:Value}{agg:Bool}{fr:Nat×Nat}
theorem TF.info_ (h:TF P T size agg zero bytes): ∃i,P.info? T=some i∧i.zero=some zero∧i.size=size∧i.bytes=bytes:=by
 have:=h.info
 cases e:P.info? T with
 | none=>rw [e] at this;cases this
 | some i=>rw [e] at this;simp only [Option.map_some,Option.some.injEq,Prod.mk.injEq] at this;exact⟨i,rfl,this.1,this.2.1,this.2.2⟩
theorem run_isAgg (h:TF P T size agg zero bytes)(w:World):(isAgg T).run P w= .ok agg w:=by
 have:=h.und
 cases e:P.underlying T with
 | none=>rw [e] at this;cases this
 | some d=>
  rw [e] at this
  simp only [Option.map_some,Option.some.injEq] at this
  cases d<;>simp_all [isAgg,run_underlying e,aggD]
theorem run_sizeOf (h:TF P T size agg zero bytes)(w:World):(sizeOf T).run P w= .ok size w:=by
 obtain⟨i,hi,_,hs,_⟩:=h.info_
 simp [sizeOf,typeInfo,hi,hs]
theorem run_zeroValue (h:TF P T size agg zero bytes)(w:World):(zeroValue T).run P w= .ok zero w:=by
 obtain⟨i,hi,hz,_,_⟩:=h.info_
 simp [zeroValue,typeInfo,hi,hz]
def cellsAre (w:World)(b o:Nat)(cs:List Value):Prop:=∀j c,cs[j]? =some c→w.cell? ⟨b,o+j,none⟩=some c
theorem cellsAre_K (h:SH w0 K0 M w K L){b o:Nat}{cs:List Value}(hk:AtK K b o cs):cellsAre w b o cs:=fun j c e=>h.holds _ _ _ (hk j c e)
theorem run_loadCells_at {b o:Nat}{cs:List Value}(h:cellsAre w b o cs):(loadCells ⟨b,o,none⟩ cs.length).run P w= .ok cs.toArray w:=by
 have:=run_loadCells_list (P:=P) w ⟨b,o,none⟩ cs (fun j v hj=>by rw [add_at];exact h j v hj)
 exact this
theorem rv_load {b o:Nat}{cs:List Value}{v:Value}(hT:TF P T size agg zero bytes)(hx:ev E x=some (.pointer (some ⟨b,o,none⟩)))
  (hc:cellsAre w b o cs)(hv:(agg=true∧cs.length=size∧v= .agg cs.toArray)∨(agg=false∧cs=[v])):RV P E w (.load T x) v:=fun ρ _ _ _ _ _ ha=>by
 rcases hv with ⟨rfl,hl,rfl⟩ | ⟨rfl,rfl⟩
 ·subst hl
  simp [execOp,ha x _ hx,Instr.loadAt,Instr.sureAddr,loadVar,run_isAgg hT,run_sizeOf hT,run_loadCells_at hc]
 ·have h0:=hc 0 v rfl
  simp at h0
  simp [execOp,ha x _ hx,Instr.loadAt,Instr.sureAddr,loadVar,run_isAgg hT,h0]
theorem rv_load1 {b o:Nat}{v:Value}(hT:TF P T size false zero bytes)(hx:ev E x=some (.pointer (some ⟨b,o,none⟩)))(hS:SH w0 K0 M w K L)(hk:K b o=some v):RV P E w (.load T x) v:=
 rv_load hT hx (cs:=[v]) (fun j c e=>by
  cases j with
  | zero=>simp at e;subst e;exact hS.holds _ _ _ hk
  | succ j=>simp at e) (.inr ⟨rfl,rfl⟩)
theorem rv_loadS {b o:Nat}{cs:List Value}(hT:TF P T size true zero bytes)(hx:ev E x=some (.pointer (some ⟨b,o,none⟩)))(hS:SH w0 K0 M w K L)(hk:AtK K b o cs)(hl:cs.length=size):RV P E w (.load T x) (.agg cs.toArray):=
 rv_load hT hx (cellsAre_K hS hk) (.inl ⟨rfl,hl,rfl⟩)
theorem SH.obj_at {g:Nat}{cs:List Value}{U:TypeId}(h:SH w0 K0 M w K (obj g cs U fr::L)):w.heap[g]? =some (.cells cs.toArray U fr)∧(fr=(0,0)∨cs.length≤fr.1):=by
 have:=(h.items _ (List.mem_cons_self ..)).2 g rfl
 exact this.1
theorem rv_fieldAddr {b o f off:Nat}(hF:FF P T f off)(hx:ev E x=some (.pointer (some ⟨b,o,none⟩))):RV P E w (.fieldAddr T x f) (.pointer (some ⟨b,o+off,none⟩)):=fun ρ _ _ _ _ _ ha=>by
 unfold FF at hF
 split at hF
 ·rename_i fs hu
  split at hF
  ·rename_i fd hfd
   simp only [Option.some.injEq,Prod.mk.injEq] at hF
   obtain⟨rfl,hpos⟩:=hF
   have hp:0<P.cellsOf fd.type:=by simpa using hpos
   have hne: ∃i,P.info? fd.type=some i∧i.size≠0:=by
    unfold Program.cellsOf at hp
    cases e:P.info? fd.type with
    | none=>rw [e] at hp;simp at hp
    | some i=>rw [e] at hp;simp at hp;exact⟨i,rfl,by omega⟩
   obtain⟨i,hi,hsz⟩:=hne
   simp [execOp,ha x _ hx,Instr.fieldAt,run_underlying hu,hfd,Instr.sureAddr,fieldPlace,sizeOf,typeInfo,hi,hsz,add_at]
  ·cases hF
 ·cases hF
theorem rv_indexAddr {α:Type}{t:Ty α}{a:Option Addr}{n c:Nat}{xs:List α}{k:IntKind}{i:Int}{z:α}{U:TypeId}(hT:P.underlying T=some (.slice U))(hU:TF P U t.size agg zero bytes)
  (hx:ev E x=some (.slice a n c))(hy:ev E y=some (.int k i))(hs:SliceAt t K a n c xs)(hz:getI xs i=some z):
  ∃b o u,(∀w,RV P E w (.indexAddr T x y) (.pointer (some ⟨b,o,none⟩)))∧t.rel K u z∧AtK K b o u.cells.toList:=by
 obtain⟨h1,h2,h3,h4⟩:=hs
 obtain⟨g0,g1,g2⟩:=getI_some hz
 obtain⟨b,o,rfl,h5⟩:=h4 (by omega)
 obtain⟨u,hu,hk⟩:=h5 _ _ g2
 refine⟨b,o+i.toNat*t.size,u,fun _ ρ _ _ _ _ _ ha=>?_,hu,hk⟩
 have hlt:i<(n:Int):=by omega
 simp [execOp,ha x _ hx,ha y _ hy,Instr.indexAt,asIntOf,run_underlying hT,g0,hlt,run_sizeOf hU,add_at]
theorem rv_len {α:Type}{t:Ty α}{a:Option Addr}{n c:Nat}{xs:List α}{U:TypeId}(hT:P.underlying T=some (.slice U))(hx:ev E x=some (.slice a n c))(hs:SliceAt t K a n c xs):
  RV P E w (.call {callee:=.builtin .len,args:=#[x],argTypes:=#[T]}) (.int .i64 xs.length):=fun ρ _ _ _ _ _ ha=>by
 obtain⟨rfl,_⟩:=hs
 simp [execOp,resolve,invoke,builtin,ha x _ hx,Builtin.len_,run_underlying hT,goInt]
def subL {α:Type}(xs:List α)(l h:Int):Option (List α):=if 0≤l∧l≤h∧h≤xs.length then some ((xs.take h.toNat).drop l.toNat) else none
theorem SliceAt.sub {α:Type}{t:Ty α}{a:Option Addr}{n c:Nat}{xs ys:List α}{l h:Int}(hs:SliceAt t K a n c xs)(hy:subL xs l h=some ys):
  0≤l∧l≤h∧h≤n∧(n:Int)≤c∧SliceAt t K (if c=l.toNat then a else a.map (·.add (l.toNat*t.size))) (h.toNat-l.toNat) (c-l.toNat) ys:=by
 obtain⟨rfl,h2,h3,h4⟩:=hs
 unfold subL at hy
 split at hy
 ·rename_i hb
  cases hy
  refine⟨hb.1,hb.2.1,hb.2.2,by omega,?_,by omega,by omega,fun hc=>?_⟩
  ·simp only [List.length_drop,List.length_take];omega
  ·obtain⟨b,o,rfl,h5⟩:=h4 (by omega)
   rw [if_neg (by omega)]
   refine⟨b,o+l.toNat*t.size,by simp [add_at],fun i z hz=>?_⟩
   rw [List.getElem?_drop,List.getElem?_take] at hz
   split at hz
   ·obtain⟨u,hu,hk⟩:=h5 _ _ hz
    exact⟨u,hu,by rw [Nat.add_assoc,←Nat.add_mul];exact hk⟩
   ·cases hz
 ·cases hy
theorem rv_sl_l {α:Type}{t:Ty α}{a:Option Addr}{n c:Nat}{xs ys:List α}{k:IntKind}{l:Int}{U:TypeId}(hT:P.underlying T=some (.slice U))(hU:TF P U t.size agg zero bytes)
  (hx:ev E x=some (.slice a n c))(hy:ev E y=some (.int k l))(hs:SliceAt t K a n c xs)(hz:subL xs l xs.length=some ys):
  ∃a' n' c',(∀w,RV P E w (.slice T x (some y) none none) (.slice a' n' c'))∧SliceAt t K a' n' c' ys:=by
 obtain⟨h0,h1,h2,h3,h4⟩:=hs.sub hz
 refine⟨_,_,_,fun _ ρ _ _ _ _ _ ha=>?_,h4⟩
 have e:n=xs.length:=hs.1
 have h1':l≤(n:Int):=by omega
 simp [execOp,ha x _ hx,ha y _ hy,Instr.sliceAt,Instr.slice,Instr.sliceBounds,Instr.sliceBound,asIntOf,run_underlying hT,h0,h1',run_sizeOf hU,←e]
theorem rv_sl_h {α:Type}{t:Ty α}{a:Option Addr}{n c:Nat}{xs ys:List α}{k:IntKind}{h:Int}{U:TypeId}(hT:P.underlying T=some (.slice U))(hU:TF P U t.size agg zero bytes)
  (hx:ev E x=some (.slice a n c))(hy:ev E y=some (.int k h))(hs:SliceAt t K a n c xs)(hz:subL xs 0 h=some ys):
  ∃a' n' c',(∀w,RV P E w (.slice T x none (some y) none) (.slice a' n' c'))∧SliceAt t K a' n' c' ys:=by
 obtain⟨h0,h1,h2,h3,h4⟩:=hs.sub hz
 refine⟨_,_,_,fun _ ρ _ _ _ _ _ ha=>?_,h4⟩
 have h1':h≤(c:Int):=by omega
 simp [execOp,ha x _ hx,ha y _ hy,Instr.sliceAt,Instr.slice,Instr.sliceBounds,Instr.sliceBound,asIntOf,run_underlying hT,h1,h1',run_sizeOf hU]
theorem rv_sl_lh {α:Type}{t:Ty α}{a:Option Addr}{n c:Nat}{xs ys:List α}{z:Operand}{k k':IntKind}{l h:Int}{U:TypeId}(hT:P.underlying T=some (.slice U))(hU:TF P U t.size agg zero bytes)
  (hx:ev E x=some (.slice a n c))(hy:ev E y=some (.int k l))(hzz:ev E z=some (.int k' h))(hs:SliceAt t K a n c xs)(hz:subL xs l h=some ys):
  ∃a' n' c',(∀w,RV P E w (.slice T x (some y) (some z) none) (.slice a' n' c'))∧SliceAt t K a' n' c' ys:=by
 obtain⟨h0,h1,h2,h3,h4⟩:=hs.sub hz
 refine⟨_,_,_,fun _ ρ _ _ _ _ _ ha=>?_,h4⟩
 have h1':h≤(c:Int):=by omega
 have h5:0≤h:=by omega
 have h6:max h 0=h:=by omega
 simp [execOp,ha x _ hx,ha y _ hy,ha z _ hzz,Instr.sliceAt,Instr.slice,Instr.sliceBounds,Instr.sliceBound,asIntOf,run_underlying hT,h0,h1,h1',h5,h6,run_sizeOf hU]
end
end Go.Fk
