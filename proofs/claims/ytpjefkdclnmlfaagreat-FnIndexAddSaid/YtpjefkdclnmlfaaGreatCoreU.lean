/-
  Pointers that may be nil to data that turn no more. Of no program.
-/
import Derived.Test.YtpjefkdclnmlfaaGreatCoreR
namespace Go.Fk
open Go
def PtrO {α:Type}(t:Ty α)(K:KMap)(v:Value):Option α→Prop
 | none=>v= .pointer none
 | some x=>PtrK t K v x
theorem PtrO.mono {α:Type}{t:Ty α}{K K':KMap}(h:KLe K K'){v:Value}{m:Option α}(p:PtrO t K v m):PtrO t K' v m:=by
 cases m with
 | none=>exact p
 | some x=>exact PtrK.mono h p
theorem PtrO.get {α:Type}{t:Ty α}{K:KMap}{v:Value}{m:Option α}{x:α}(p:PtrO t K v m)(hx:m=some x): ∃b o u,v= .pointer (some ⟨b,o,none⟩)∧t.rel K u x∧AtK K b o u.cells.toList:=by
 subst hx;exact p
section
variable {P:Program}{E:Env}{w:World}{K:KMap}{x y:Operand}{T T' U:TypeId}
theorem run_equalIn_ptr {v:Value}{α:Type}{t:Ty α}{m:Option α}(d:Nat)(hT:P.underlying T=some (.pointer U))(p:PtrO t K v m):(Op.equalIn (d+1) T v (.pointer none)).run P w= .ok m.isNone w:=by
 cases m with
 | none=>
  have hv:v= .pointer none:=p
  subst hv
  simp [Op.equalIn,run_underlying hT]
 | some z=>
  obtain⟨b,o,u,rfl,_⟩:=p
  simp [Op.equalIn,run_underlying hT]
theorem rv_pnil {v:Value}{α:Type}{t:Ty α}{m:Option α}(hT:P.underlying T=some (.pointer U))(hx:ev E x=some v)(hy:ev E y=some (.pointer none))(p:PtrO t K v m):RV P E w (.binOp .eql T x y T') (.bool m.isNone):=
 fun ρ _ _ _ _ _ ha=>by
  have h:=run_equalIn_ptr (P:=P) (w:=w) 9999 hT p
  simp only [execOp,ha x _ hx,ha y _ hy]
  have hv: ∃q,v= .pointer q:=by
   cases m with
   | none=>exact⟨none,p⟩
   | some z=>obtain⟨b,o,u,e,_⟩:=p;exact⟨_,e⟩
  obtain⟨q,rfl⟩:=hv
  simp only [eqGuard,binOp,Op.equal,Op.maxDepth]
  simp [h]
theorem rv_pnotnil {v:Value}{α:Type}{t:Ty α}{m:Option α}(hT:P.underlying T=some (.pointer U))(hx:ev E x=some v)(hy:ev E y=some (.pointer none))(p:PtrO t K v m):RV P E w (.binOp .neq T x y T') (.bool m.isSome):=
 fun ρ _ _ _ _ _ ha=>by
  have h:=run_equalIn_ptr (P:=P) (w:=w) 9999 hT p
  simp only [execOp,ha x _ hx,ha y _ hy]
  have hv: ∃q,v= .pointer q:=by
   cases m with
   | none=>exact⟨none,p⟩
   | some z=>obtain⟨b,o,u,e,_⟩:=p;exact⟨_,e⟩
  obtain⟨q,rfl⟩:=hv
  simp only [eqGuard,binOp,Op.equal,Op.maxDepth]
  simp [h]
def FG (P:Program)(T:TypeId)(f:Nat)(ft:TypeId)(off:Nat):Prop:=
 (match P.underlying T with | some (.struct fs)=>(fs[f]?).map (fun fd=>(fd.type,fd.offset)) | _=>none)=some (ft,off)
theorem rv_field {f off size bytes:Nat}{ft:TypeId}{cs:Array Value}{v zero:Value}{agg:Bool}(hF:FG P T f ft off)(hT:TF P ft size agg zero bytes)(hx:ev E x=some (.agg cs))
  (hv:(agg=false∧cs[off]? =some v)∨(agg=true∧v= .agg (cs.extract off (off+size)))):RV P E w (.field T x f) v:=fun ρ _ _ _ _ _ ha=>by
 unfold FG at hF
 split at hF
 ·rename_i fs hu
  obtain⟨fd,hfd,e⟩:=Option.map_eq_some_iff.1 hF
  simp only [Prod.mk.injEq] at e
  obtain⟨rfl,rfl⟩:=e
  have hp:(part fd.type cs fd.offset).run P w= .ok v w:=by
   rcases hv with ⟨rfl,hv⟩ | ⟨rfl,rfl⟩
   ·simp [part,run_isAgg hT,hv]
   ·simp [part,run_isAgg hT,run_sizeOf hT]
  have h1:(Instr.field T (.agg cs) f).run P w= .ok v w:=by
   simp only [Instr.field,Sem.run_bind,run_underlying hu,Result.andThen_ok,hfd,asAgg,Sem.run_pure,hp]
  simp only [execOp,ha x _ hx,Sem.run_bind,h1,Result.andThen_ok]
  rfl
 ·cases hF
section
variable {ops:Array Oper}{Q:Exit→Act→World→Prop}{N size bytes:Nat}{zero:Value}{agg:Bool}{z:Operand}{d:Tmp}{ty:TypeId}{pos:String}{af:Array Edge}{gd:Option (Nat×Bool)}{H F:World→Prop}{st:Nat}{I:List (Nat×Nat)}
theorem wg_sl_l {α:Type}{t:Ty α}{a:Option Addr}{nn c:Nat}{xs ys:List α}{k:IntKind}{l:Int}{n j:Nat}{listed listed':Array Bool}
  (hi:ops[j]? =some ⟨some d,.slice T x (some y) none none,ty,pos,af,gd⟩)(hsel:Region.noSelect ops=true)(hQ:PanicOk Q)(hwa:waits .any ops I=true)(hist:Nat.beq j st=false)
  (hf:Region.free .any ops listed j=true)(hr:(Region.ready .any ops listed).contains j=true)(hl:listed.setIfInBounds j true=listed')(hS:SG H F st I listed w)
  (hw:Wanted ops N E gd)(hd:Nat.blt d N=true)(hT:P.underlying T=some (.slice U))(hU:TF P U t.size agg zero bytes)
  (hx:ev E x=some (.slice a nn c))(hy:ev E y=some (.int k l))(hs:SliceAt t K a nn c xs)(hz:subL xs l xs.length=some ys)
  (h: ∀a' n' c',SliceAt t K a' n' c' ys→WG P ops Q H F st I N n listed' ((d,.slice a' n' c')::E) w):WG P ops Q H F st I N (n+1) listed E w:=by
 obtain⟨a',n',c',h1,h2⟩:=rv_sl_l hT hU hx hy hs hz
 exact wg_val (fun _=>True) hi hsel hQ hwa hist hf hr hl (.inl fun _ _=>trivial) hS hw hd (fun w' _=>h1 w') (h a' n' c' h2)
theorem wg_sl_h {α:Type}{t:Ty α}{a:Option Addr}{nn c:Nat}{xs ys:List α}{k:IntKind}{l:Int}{n j:Nat}{listed listed':Array Bool}
  (hi:ops[j]? =some ⟨some d,.slice T x none (some y) none,ty,pos,af,gd⟩)(hsel:Region.noSelect ops=true)(hQ:PanicOk Q)(hwa:waits .any ops I=true)(hist:Nat.beq j st=false)
  (hf:Region.free .any ops listed j=true)(hr:(Region.ready .any ops listed).contains j=true)(hl:listed.setIfInBounds j true=listed')(hS:SG H F st I listed w)
  (hw:Wanted ops N E gd)(hd:Nat.blt d N=true)(hT:P.underlying T=some (.slice U))(hU:TF P U t.size agg zero bytes)
  (hx:ev E x=some (.slice a nn c))(hy:ev E y=some (.int k l))(hs:SliceAt t K a nn c xs)(hz:subL xs 0 l=some ys)
  (h: ∀a' n' c',SliceAt t K a' n' c' ys→WG P ops Q H F st I N n listed' ((d,.slice a' n' c')::E) w):WG P ops Q H F st I N (n+1) listed E w:=by
 obtain⟨a',n',c',h1,h2⟩:=rv_sl_h hT hU hx hy hs hz
 exact wg_val (fun _=>True) hi hsel hQ hwa hist hf hr hl (.inl fun _ _=>trivial) hS hw hd (fun w' _=>h1 w') (h a' n' c' h2)
end
end
end Go.Fk
