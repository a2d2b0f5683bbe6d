/-
  Still shorter forms of steps. Of no program.
-/
import Derived.Test.YtpjefkdclnmlfaaCoreVY
set_option linter.unusedVariables false
namespace Go.Fk
open Go
set_option linter.unusedSectionVars false
variable [dr:Dr]
section
variable {P:Program}{ops:Array Oper}{Q:Exit→Act→World→Prop}{N:Nat}{E:Env}{w w0:World}{K K0:KMap}{M:List Nat}{L:List Item}{H F:World→Prop}{st:Nat}{I:List (Nat×Nat)}
variable {d:Tmp}{op:Op}{ty T T' U:TypeId}{pos:String}{af:Array Edge}{gd:Option (Nat×Bool)}{rest:List Oper}{v:Value}{x y z:Operand}{size bytes:Nat}{agg:Bool}{zero:Value}{C:World→Prop}
theorem bt {α:Type}{b:Bool}{x y r:α}{p:Prop}(h:cond b x y=r)(t:b=true→x=r→p)(f:b=false→y=r→p):p:=by
 cases b with
 | false=>exact f rfl h
 | true=>exact t rfl h
theorem kr {K:KMap}:KLe K K:=KLe.refl K
theorem SliceAt.rn {α:Type}{t:Ty α}{a:Option Addr}{n c:Nat}{xs:List α}(h:SliceAt t K a n c xs):rng64 (xs.length:Int):=rng_nat (SliceAt.max h)
theorem SH.s {L':List Item}(h:SH w0 K0 M w K L)(hs:L'.Sublist L:=by repeat (first | exact sz | refine sk ?_ | refine sd ?_)):SH w0 K0 M w K L':=h.sublist hs
theorem ey {fn:Func}{R:Ending→World→Prop}{rv:ResultVar}{v:Value}(hr:fn.results=#[rv])(hR:R (.returned v) w)(h:ResV P w E [rv] [v]:=by exact⟨rfl,trivial⟩):QE (bodyPost P fn R) .ret N E w:=qe_ret (vs:=[v]) hr h hR
theorem ci {f:FuncId}{fn:Func}{c:Code}{vs:List Value}{R:Ending→World→Prop}(hf:P.funcs[f]? =some fn)(hb:fn.body=some c)(hN:fn.ntmps=N)(h:WC P c (bodyPost P fn R) N (argsEnv 0 vs) w)(hle:Nat.ble vs.length N=true:=by rfl):Calls P f vs.toArray w R:=calls_in hf hb hN hle h
abbrev RE (k:Value→Prop):Ending→Prop
 | .returned v=>k v
 | _=>False
theorem lk {f:FuncId}{args:List Operand}{ats:Array TypeId}{vs:List Value}{R:Ending→World→Prop}(hf:CallOk P f)(hc:Calls P f vs.toArray w R)(h: ∀e w',R e w'→RE (fun v=>WL P ops Q N rest ((d,v)::E) w') e)
  (hev:evL E args=some vs:=by rfl)(hd:Nat.blt d N=true:=by rfl):WL P ops Q N (⟨some d,.call {callee:=.value (.func f),args:=args.toArray,argTypes:=ats},ty,pos,af,none⟩::rest) E w:=
 lc hf hc (fun e w' hr=>by
  have h1:=h e w' hr
  cases e with
  | returned v=>exact⟨v,rfl,h1⟩
  | panicked _=>exact h1.elim
  | outgrown=>exact h1.elim) hev hd
abbrev IV (w0:World)(K0:KMap)(M:List Nat)(K1:KMap)(E0:Env)(L:List Item)(E:Env)(w:World):Prop:=∃K,E=E0∧SH w0 K0 M w K L∧KLe K1 K
abbrev IW (w0:World)(K0:KMap)(M:List Nat)(K1:KMap)(E0:Env)(L:List Item)(p:Prop)(E:Env)(w:World):Prop:=∃K,E=E0∧SH w0 K0 M w K L∧KLe K1 K∧p
abbrev IE {σ τ:Type}(o:σ⊕τ)(w0:World)(K0:KMap)(M:List Nat)(K1:KMap)(E0:Env)(L:List Item)(E:Env)(w:World):Prop:=∃s K,o= .inl s∧E=E0∧SH w0 K0 M w K L∧KLe K1 K
theorem kc {f:FuncId}{args:List Operand}{ats:Array TypeId}{vs:List Value}(hf:CallOk P f)
  (hc: ∀w1 K1,SH w0 K0 M w1 K1 L→KLe K K1→Calls P f vs.toArray w1 fun e w2=>∃K2,e= .returned v∧SH w1 K1 [] w2 K2 [])(h:WQ P ops (QC w0 K0 M K L) Q N rest ((d,v)::E))(hev:evL E args=some vs:=by rfl)(hd:Nat.blt d N=true:=by rfl):
  WQ P ops (QC w0 K0 M K L) Q N (⟨some d,.call {callee:=.value (.func f),args:=args.toArray,argTypes:=ats},ty,pos,af,none⟩::rest) E:=
 wq_call (v:=v) wn hd (fun _=>rt_call (vs:=vs) hf hev) (fun w1 ⟨K1,hS,hl⟩=>(hc w1 K1 hS hl).mono fun e w' ⟨K',he,hS'⟩=>⟨he,K',hS.call0 hS',hl.trans hS'.le⟩) h
abbrev V6 (n:Int):Value:=.int .i64 n
abbrev V3 (a:Option Addr)(n c:Nat):Value:=.slice a n c
theorem lw {g o:Nat}{cs:List Value}{fr:Nat×Nat}(cs':List Value)(hT:TF P T size agg zero bytes)(hS:SH w0 K0 M w K (obj g cs U fr::L))
  (h: ∀w',SH w0 K0 M w' K (obj g cs' U fr::L)→WL P ops Q N rest E w')(hx:ev E x=some (.pointer (some ⟨g,o,none⟩)):=by rfl)(hy:ev E y=some (.agg cs'.toArray):=by rfl)(hsz:(Value.agg cs'.toArray).cells.size=size:=by rfl)(hones: ∀c∈(Value.agg cs'.toArray).cells.toList,c.oneCell'=true:=by simp [Value.cells,Value.oneCell',sv])
  (hfit:Nat.ble (o+size) cs.length=true:=by rfl)(hcs:splice cs o (Value.agg cs'.toArray).cells.toList=cs':=by rfl):WL P ops Q N (⟨none,.store T x y,ty,pos,af,none⟩::rest) E w:=ls cs' (.agg cs'.toArray) hT hS h hx hy hsz hones hfit hcs
theorem fl {o f off:Nat}{g:Nat}{cs:List Value}{fr:Nat×Nat}{d2:Tmp}{ty2:TypeId}{pos2:String}{af2:Array Edge}(hF:FF P T f off)(hx:ev E x=some (.pointer (some ⟨g,o,none⟩)))(hT:TF P T' size false zero bytes)(hm:obj g cs U fr∈L)(hS:SH w0 K0 M w K L)(hv:cs[o+off]? =some v)
  (h:WL P ops Q N rest ((d2,v)::(d,.pointer (some ⟨g,o+off,none⟩))::E) w)(hy:ev ((d,.pointer (some ⟨g,o+off,none⟩))::E) y=some (.pointer (some ⟨g,o+off,none⟩)):=by rfl)(hd:Nat.blt d N=true:=by rfl)(hd2:Nat.blt d2 N=true:=by rfl):
  WL P ops Q N (⟨some d,.fieldAddr T x f,ty,pos,af,none⟩::⟨some d2,.load T' y,ty2,pos2,af2,none⟩::rest) E w:=fa hF hx (lv (rv_loadm1 hT hy hm hS hv) h hd2) hd
section
variable {n:Nat}{l:Array Bool}
theorem r_0 (hx:ev E x=some (V6 0)):RV P E w (.assign x) (V6 0):=rv_assign hx
theorem r_f (hx:ev E x=some (.bool false)):RV P E w (.assign x) (.bool false):=rv_assign hx
theorem r_t (hx:ev E x=some (.bool true)):RV P E w (.assign x) (.bool true):=rv_assign hx
theorem r_n (hx:ev E x=some (V3 none 0 0)):RV P E w (.assign x) (V3 none 0 0):=rv_assign hx
theorem r_s (hx:ev E x=some (sv [])):RV P E w (.assign x) (sv []):=rv_assign hx
theorem r_m (hx:ev E x=some (V6 0)):RV P E w (.move x) (V6 0):=rv_move hx
theorem p_t {c:Operand}{b:Bool}(hc:ev E c=some (.bool b))(hb:b=true)(hx:ev E x=some (.bool true)):RV P E w (.pick c x y) (.bool true):=rv_pick_t hc hb hx
theorem p_f {c:Operand}{b:Bool}(hc:ev E c=some (.bool b))(hb:b=false)(hy:ev E y=some (.bool false)):RV P E w (.pick c x y) (.bool false):=rv_pick_f hc hb hy
theorem d_0:rng64 0:=by decide
abbrev L_ (n i:Nat):Array Bool:=(List.replicate (i+1) true++List.replicate (n-i-1) false).toArray
abbrev R_b (w:World)(K:KMap)(r:Bool):Ending→World→Prop:=fun e w'=>∃K',e= .returned (.bool r)∧SH w K [] w' K' []
abbrev R_i (w:World)(K:KMap)(r:Int):Ending→World→Prop:=fun e w'=>∃K',e= .returned (V6 r)∧SH w K [] w' K' []∧rng64 r
theorem c_w {f:FuncId}{fn:Func}(h:P.funcs[f]? =some fn)(hn:(fn.name== "runtime.NumGoroutine")=false:=by kernel_rfl)(hb:fn.body.isNone=false:=by kernel_rfl):CallOk P f:=⟨fn,h,hn,hb⟩
theorem t_w (h:(P.info? T).map (fun i=>(i.zero,i.size,i.bytes))=some (some zero,size,bytes):=by kernel_rfl)(hu:(P.underlying T).map aggD=some agg:=by kernel_rfl):TF P T size agg zero bytes:=⟨h,hu⟩
theorem f_w {f off:Nat}(h:(match P.underlying T with
 | some (.struct fs)=>(match fs[f]? with | some fd=>some (fd.offset,Nat.blt 0 (P.cellsOf fd.type)) | none=>none)
 | _=>none)=some (off,true):=by kernel_rfl):FF P T f off:=h
end
end
end Go.Fk
