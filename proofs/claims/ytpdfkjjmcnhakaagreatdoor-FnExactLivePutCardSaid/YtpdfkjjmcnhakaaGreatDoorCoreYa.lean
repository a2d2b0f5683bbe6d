/-
  Still shorter forms of steps. Of no program.
-/
import Derived.Test.YtpdfkjjmcnhakaaGreatDoorCoreVY
set_option linter.unusedVariables false
namespace Go.Fk
open Go
set_option linter.unusedSectionVars false
variable [dr:Dr]
section
variable {P:Program}{ops:Array Oper}{Q:Exit→Act→World→Prop}{N:Nat}{E:Env}{w w0:World}{K K0:KMap}{M:List Nat}{L:List Item}{H F:World→Prop}{st:Nat}{I:List (Nat×Nat)}
variable {d:Tmp}{op:Op}{ty T T' U:TypeId}{pos:String}{af:Array Edge}{gd:Option (Nat×Bool)}{rest:List Oper}{v:Value}{x y z:Operand}{size bytes:Nat}{agg:Bool}{zero:Value}{C:World→Prop}
theorem bt {α:Type}{b:Bool}{x y r:α}{p:Prop}(h:cond b x y=r)(t:b=true→x=r→p)(f:b=false→y=r→p):p:=by
 cases b with
 | false=>exact f rfl h
 | true=>exact t rfl h
theorem kr {K:KMap}:KLe K K:=KLe.refl K
theorem SliceAt.rn {α:Type}{t:Ty α}{a:Option Addr}{n c:Nat}{xs:List α}(h:SliceAt t K a n c xs):rng64 (xs.length:Int):=rng_nat (SliceAt.max h)
theorem SH.s {L':List Item}(h:SH w0 K0 M w K L)(hs:L'.Sublist L:=by repeat (first | exact sz | refine sk ?_ | refine sd ?_)):SH w0 K0 M w K L':=h.sublist hs
theorem ey {fn:Func}{R:Ending→World→Prop}{rv:ResultVar}{v:Value}(hr:fn.results=#[rv])(hR:R (.returned v) w)(h:ResV P w E [rv] [v]:=by exact⟨rfl,trivial⟩):QE (bodyPost P fn R) .ret N E w:=qe_ret (vs:=[v]) hr h hR
theorem ez {fn:Func}{R:Ending→World→Prop}{t:Tmp}{g:Nat}{cs:List Value}{fr:Nat×Nat}(hr:fn.results=#[.cell t T])(hT:TF P T size true zero bytes)(hS:SH w0 K0 M w K L)(hm:obj g cs U fr∈L)(hR:R (.returned (.agg cs.toArray)) w)
  (hl:look E t=some (.pointer (some ⟨g,0,none⟩)):=by rfl)(hz:cs.length=size:=by rfl):QE (bodyPost P fn R) .ret N E w:=
 qe_ret (vs:=[.agg cs.toArray]) hr ⟨⟨g,0,hl,run_loadVar_at hT (cs:=cs) (fun j c e=>by rw [Nat.zero_add,hS.mem_obj hm];exact e) (.inl ⟨rfl,hz,rfl⟩)⟩,trivial⟩ hR
theorem ci {f:FuncId}{fn:Func}{c:Code}{vs:List Value}{R:Ending→World→Prop}(hf:P.funcs[f]? =some fn)(hb:fn.body=some c)(hN:fn.ntmps=N)(h:WC P c (bodyPost P fn R) N (argsEnv 0 vs) w)(hle:Nat.ble vs.length N=true:=by rfl):Calls P f vs.toArray w R:=calls_in hf hb hN hle h
abbrev RE (k:Value→Prop):Ending→Prop
 | .returned v=>k v
 | _=>False
theorem lk {f:FuncId}{args:List Operand}{ats:Array TypeId}{vs:List Value}{R:Ending→World→Prop}(hf:CallOk P f)(hc:Calls P f vs.toArray w R)(h: ∀e w',R e w'→RE (fun v=>WL P ops Q N rest ((d,v)::E) w') e)
  (hev:evL E args=some vs:=by rfl)(hd:Nat.blt d N=true:=by rfl):WL P ops Q N (⟨some d,.call {callee:=.value (.func f),args:=args.toArray,argTypes:=ats},ty,pos,af,none⟩::rest) E w:=
 lc hf hc (fun e w' hr=>by
  have h1:=h e w' hr
  cases e with
  | returned v=>exact⟨v,rfl,h1⟩
  | panicked _=>exact h1.elim
  | outgrown=>exact h1.elim) hev hd
abbrev IV (w0:World)(K0:KMap)(M:List Nat)(K1:KMap)(E0:Env)(L:List Item)(E:Env)(w:World):Prop:=∃K,E=E0∧SH w0 K0 M w K L∧KLe K1 K
abbrev IW (w0:World)(K0:KMap)(M:List Nat)(K1:KMap)(E0:Env)(L:List Item)(p:Prop)(E:Env)(w:World):Prop:=∃K,E=E0∧SH w0 K0 M w K L∧KLe K1 K∧p
abbrev IE {σ τ:Type}(o:σ⊕τ)(w0:World)(K0:KMap)(M:List Nat)(K1:KMap)(E0:Env)(L:List Item)(E:Env)(w:World):Prop:=∃s K,o= .inl s∧E=E0∧SH w0 K0 M w K L∧KLe K1 K
theorem kc {f:FuncId}{args:List Operand}{ats:Array TypeId}{vs:List Value}(hf:CallOk P f)
  (hc: ∀w1 K1,SH w0 K0 M w1 K1 L→KLe K K1→Calls P f vs.toArray w1 fun e w2=>∃K2,e= .returned v∧SH w1 K1 [] w2 K2 [])(h:WQ P ops (QC w0 K0 M K L) Q N rest ((d,v)::E))(hev:evL E args=some vs:=by rfl)(hd:Nat.blt d N=true:=by rfl):
  WQ P ops (QC w0 K0 M K L) Q N (⟨some d,.call {callee:=.value (.func f),args:=args.toArray,argTypes:=ats},ty,pos,af,none⟩::rest) E:=
 wq_call (v:=v) wn hd (fun _=>rt_call (vs:=vs) hf hev) (fun w1 ⟨K1,hS,hl⟩=>(hc w1 K1 hS hl).mono fun e w' ⟨K',he,hS'⟩=>⟨he,K',hS.call0 hS',hl.trans hS'.le⟩) h
theorem kd {f:FuncId}{args:List Operand}{ats:Array TypeId}{vs:List Value}{R:World→KMap→Prop}(hf:CallOk P f)
  (hc: ∀w1 K1,SH w0 K0 M w1 K1 L→KLe K K1→Calls P f vs.toArray w1 fun e w2=>∃K2,e= .returned v∧SH w1 K1 [] w2 K2 []∧R w2 K2)(h:WQ P ops (QC w0 K0 M K L) Q N rest ((d,v)::E))(hev:evL E args=some vs:=by rfl)(hd:Nat.blt d N=true:=by rfl):
  WQ P ops (QC w0 K0 M K L) Q N (⟨some d,.call {callee:=.value (.func f),args:=args.toArray,argTypes:=ats},ty,pos,af,none⟩::rest) E:=
 wq_call (v:=v) wn hd (fun _=>rt_call (vs:=vs) hf hev) (fun w1 ⟨K1,hS,hl⟩=>(hc w1 K1 hS hl).mono fun e w' ⟨K',he,hS',_⟩=>⟨he,K',hS.call0 hS',hl.trans hS'.le⟩) h
theorem kcg {j gs:Nat}{b want:Bool}{f:FuncId}{args:List Operand}{ats:Array TypeId}{vs:List Value}(hb:b=want)(hf:CallOk P f)
  (hc: ∀w1 K1,SH w0 K0 M w1 K1 L→KLe K K1→Calls P f vs.toArray w1 fun e w2=>∃K2,e= .returned v∧SH w1 K1 [] w2 K2 [])(h:WQ P ops (QC w0 K0 M K L) Q N rest ((d,v)::E))(hj:(ops[j]?).bind (·.dst)=some gs:=by rfl)(hE:look E gs=some (.bool b):=by rfl)(hev:evL E args=some vs:=by rfl)(hd:Nat.blt d N=true:=by rfl):
  WQ P ops (QC w0 K0 M K L) Q N (⟨some d,.call {callee:=.value (.func f),args:=args.toArray,argTypes:=ats},ty,pos,af,some (j,want)⟩::rest) E:=
 wq_call (v:=v) (wg hj hE hb) hd (fun _=>rt_call (vs:=vs) hf hev) (fun w1 ⟨K1,hS,hl⟩=>(hc w1 K1 hS hl).mono fun e w' ⟨K',he,hS'⟩=>⟨he,K',hS.call0 hS',hl.trans hS'.le⟩) h
theorem kdg {j gs:Nat}{b want:Bool}{f:FuncId}{args:List Operand}{ats:Array TypeId}{vs:List Value}{R:World→KMap→Prop}(hb:b=want)(hf:CallOk P f)
  (hc: ∀w1 K1,SH w0 K0 M w1 K1 L→KLe K K1→Calls P f vs.toArray w1 fun e w2=>∃K2,e= .returned v∧SH w1 K1 [] w2 K2 []∧R w2 K2)(h:WQ P ops (QC w0 K0 M K L) Q N rest ((d,v)::E))(hj:(ops[j]?).bind (·.dst)=some gs:=by rfl)(hE:look E gs=some (.bool b):=by rfl)(hev:evL E args=some vs:=by rfl)(hd:Nat.blt d N=true:=by rfl):
  WQ P ops (QC w0 K0 M K L) Q N (⟨some d,.call {callee:=.value (.func f),args:=args.toArray,argTypes:=ats},ty,pos,af,some (j,want)⟩::rest) E:=
 wq_call (v:=v) (wg hj hE hb) hd (fun _=>rt_call (vs:=vs) hf hev) (fun w1 ⟨K1,hS,hl⟩=>(hc w1 K1 hS hl).mono fun e w' ⟨K',he,hS',_⟩=>⟨he,K',hS.call0 hS',hl.trans hS'.le⟩) h
abbrev V6 (n:Int):Value:=.int .i64 n
abbrev V3 (a:Option Addr)(n c:Nat):Value:=.slice a n c
theorem lw {g o:Nat}{cs:List Value}{fr:Nat×Nat}(cs':List Value)(hT:TF P T size agg zero bytes)(hS:SH w0 K0 M w K (obj g cs U fr::L))
  (h: ∀w',SH w0 K0 M w' K (obj g cs' U fr::L)→WL P ops Q N rest E w')(hx:ev E x=some (.pointer (some ⟨g,o,none⟩)):=by rfl)(hy:ev E y=some (.agg cs'.toArray):=by rfl)(hsz:(Value.agg cs'.toArray).cells.size=size:=by rfl)(hones: ∀c∈(Value.agg cs'.toArray).cells.toList,c.oneCell'=true:=by simp [Value.cells,Value.oneCell',sv])
  (hfit:Nat.ble (o+size) cs.length=true:=by rfl)(hcs:splice cs o (Value.agg cs'.toArray).cells.toList=cs':=by rfl):WL P ops Q N (⟨none,.store T x y,ty,pos,af,none⟩::rest) E w:=ls cs' (.agg cs'.toArray) hT hS h hx hy hsz hones hfit hcs
theorem fl {o f off:Nat}{g:Nat}{cs:List Value}{fr:Nat×Nat}{d2:Tmp}{ty2:TypeId}{pos2:String}{af2:Array Edge}(hF:FF P T f off)(hx:ev E x=some (.pointer (some ⟨g,o,none⟩)))(hT:TF P T' size false zero bytes)(hm:obj g cs U fr∈L)(hS:SH w0 K0 M w K L)(hv:cs[o+off]? =some v)
  (h:WL P ops Q N rest ((d2,v)::(d,.pointer (some ⟨g,o+off,none⟩))::E) w)(hy:ev ((d,.pointer (some ⟨g,o+off,none⟩))::E) y=some (.pointer (some ⟨g,o+off,none⟩)):=by rfl)(hd:Nat.blt d N=true:=by rfl)(hd2:Nat.blt d2 N=true:=by rfl):
  WL P ops Q N (⟨some d,.fieldAddr T x f,ty,pos,af,none⟩::⟨some d2,.load T' y,ty2,pos2,af2,none⟩::rest) E w:=fa hF hx (lv (rv_loadm1 hT hy hm hS hv) h hd2) hd
theorem lits (ht:tStr.size=1): ∀xs:List Str,(∀s∈xs,s.length≤maxLen)→∀(i:Nat) z,xs[i]? =some z→∃u,tStr.rel K u z∧∀j d,u.cells.toList[j]? =some d→(xs.map sv)[i*tStr.size+j]? =some d
 | [],_=>fun i z h=>by simp at h
 | s::xs,hm=>lit_cons (u:=sv s) (cs:=xs.map sv) ⟨rfl,hm s (.head _)⟩ (lits ht xs fun s' h=>hm s' (.tail _ h))
theorem bw (xs:List Str){n:Nat}{parts:List (Nat×Operand)}(hT:P.underlying T=some (.slice U))(hU:TF P U tStr.size agg zero bytes)(hS:SH w0 K0 M w K L)
  (h: ∀a' w' K',KLe K K'→SliceAt tStr K' a' n n xs→SH w0 K0 M w' K' (tail (.slice a' n n) U tStr.size::L)→WL P ops Q N rest ((d,.slice a' n n)::E) w')
  (hd:Nat.blt d N=true:=by rfl)(hev:evP E parts=some (xs.mapIdx fun i s=>(i,sv s)):=by rfl)(hn:Nat.blt 0 (n*tStr.size)=true:=by rfl)(hsm:Nat.ble (n*tStr.size) 16777216=true:=by rfl)
  (hf:Instr.fill (fun i=>some (i*tStr.size,tStr.size)) ((Array.range (n*tStr.size)).map fun i=>zero.cells[i%zero.cells.size]!) (xs.mapIdx fun i s=>(i,sv s))=some (xs.map sv).toArray:=by kernel_rfl)(hl:xs.length=n:=by rfl)(hcl:(xs.map sv).length=n*tStr.size:=by rfl)
  (hm:(xs.all fun s=>Nat.ble s.length maxLen)=true:=by kernel_rfl):WL P ops Q N (⟨some d,.buildSlice T n parts.toArray,ty,pos,af,none⟩::rest) E w:=
 wl_buildSlice wn hd hT hU hev hn hsm hf hl hcl (lits rfl xs fun s h=>by have:=List.all_eq_true.1 hm s h;simpa using this) hS h
def WJ (P:Program)(ops:Array Oper)(Q:Exit→Act→World→Prop)(H F:World→Prop)(st:Nat)(I:List (Nat×Nat))(N n:Nat)(l:Array Bool)(E:Env)(w:World):Prop:=
 SG H F st I l w→WG P ops Q H F st I N n l E w
abbrev okI (I:List (Nat×Nat))(l:Array Bool):Bool:=I.all fun p=>l.getD p.1 true|| !(l.getD p.2 true)
theorem okI_of {l:Array Bool}(h:okI I l=true): ∀p∈I,l.getD p.1 true=false→l.getD p.2 true=false:=fun p hp h1=>by
 have:=List.all_eq_true.1 h p hp
 rw [h1] at this
 simpa using this
theorem sg_step {l:Array Bool}{i:Nat}(hS:SG H F st I l w)(hist:Nat.beq i st=false)(hI:okI I (l.setIfInBounds i true)=true):SG H F st I (l.setIfInBounds i true) w:=
 ⟨hS.1,fun h=>hS.2.1 (by rwa [getD_set_ne true (by intro e;subst e;simp at hist)] at h),okI_of hI⟩
section
variable {n:Nat}{l:Array Bool}
theorem wj0 {id:Nat}{l:List Oper}(H F:World→Prop)(st:Nat)(I:List (Nat×Nat))(hm:P.follows .mixedOrders=true)(hH:H w.drew)(hF:(Array.replicate l.length false).getD st true=false→F w.drew)(h:WJ P l.toArray Q H F st I N l.length (Array.replicate l.length false) E w.drew)
  (hI:okI I (Array.replicate l.length false)=true:=by kernel_rfl):WC P (.region id l.toArray true) Q N E w:=wc_held H F st I hm (h ⟨hH,hF,okI_of hI⟩)
theorem js (i:Nat)(S0:World→Prop)(hi:ops[i]? =some ⟨some d,op,ty,pos,af,gd⟩)(hS0:(∀w,H w→S0 w)∨(reach I st I.length i=true∧∀w,H w→F w→S0 w))(hwt:Wanted ops N E gd)(hrv: ∀w',S0 w'→RV P E w' op v)
  (h:WJ P ops Q H F st I N n (l.setIfInBounds i true) ((d,v)::E) w)(hd:Nat.blt d N=true)(hsel:Region.noSelect ops=true)(hQ:PanicOk Q)(hw:waits .any ops I=true)(hist:Nat.beq i st=false)(hI:okI I (l.setIfInBounds i true)=true)
  (hf:Region.free .any ops l i=true)(hr:(Region.ready .any ops l).contains i=true):WJ P ops Q H F st I N (n+1) l E w:=fun hS=>
 wg_val (i:=i) S0 hi hsel hQ hw hist hf hr rfl hS0 hS hwt hd hrv (h (sg_step hS hist hI))
theorem jv (i:Nat)(hi:ops[i]? =some ⟨some d,op,ty,pos,af,none⟩)(hrv: ∀{w'},RV P E w' op v)(h:WJ P ops Q H F st I N n (l.setIfInBounds i true) ((d,v)::E) w)(hd:Nat.blt d N=true:=by rfl)
  (hsel:Region.noSelect ops=true:=by kernel_rfl)(hQ:PanicOk Q:=by exact PkI.h)(hw:waits .any ops I=true:=by kernel_rfl)(hist:Nat.beq i st=false:=by rfl)(hI:okI I (l.setIfInBounds i true)=true:=by kernel_rfl)(hf:Region.free .any ops l i=true:=by kernel_rfl)(hr:(Region.ready .any ops l).contains i=true:=by kernel_rfl):
  WJ P ops Q H F st I N (n+1) l E w:=js i (fun _=>True) hi (.inl fun _ _=>trivial) wn (fun _ _=>hrv) h hd hsel hQ hw hist hI hf hr
theorem jh (i:Nat)(hi:ops[i]? =some ⟨some d,op,ty,pos,af,none⟩)(hrv: ∀w',H w'→RV P E w' op v)(h:WJ P ops Q H F st I N n (l.setIfInBounds i true) ((d,v)::E) w)(hd:Nat.blt d N=true:=by rfl)
  (hsel:Region.noSelect ops=true:=by kernel_rfl)(hQ:PanicOk Q:=by exact PkI.h)(hw:waits .any ops I=true:=by kernel_rfl)(hist:Nat.beq i st=false:=by rfl)(hI:okI I (l.setIfInBounds i true)=true:=by kernel_rfl)(hf:Region.free .any ops l i=true:=by kernel_rfl)(hr:(Region.ready .any ops l).contains i=true:=by kernel_rfl):
  WJ P ops Q H F st I N (n+1) l E w:=js i H hi (.inl fun _ h=>h) wn hrv h hd hsel hQ hw hist hI hf hr
theorem jn (hH:H w)(hF:l.getD st true=false→F w)(h:WJ P ops Q H F st I N n l E w)(hI:okI I l=true:=by kernel_rfl):
  WL P ops (Exit.then (fun a' w'=>SG H F st I l w'∧wpAnyG P .any ops Q (SG H F st I) n l a' w') Q) N [] E w:=wl_nil fun t ht=>⟨⟨hH,hF,okI_of hI⟩,h ⟨hH,hF,okI_of hI⟩ t ht⟩
theorem j1 (i:Nat){o:Oper}(hi:ops[i]? =some o)(h:WL P ops (Exit.then (fun a' w'=>SG H F st I (l.setIfInBounds i true) w'∧wpAnyG P .any ops Q (SG H F st I) n (l.setIfInBounds i true) a' w') Q) N [o] E w)(hr:Region.ready .any ops l=[i]:=by kernel_rfl):
  WJ P ops Q H F st I N (n+1) l E w:=fun _=>wg_one hr hi h
theorem j2 (i j:Nat){o o':Oper}(hi:ops[i]? =some o)(hj:ops[j]? =some o')(h:WL P ops (Exit.then (fun a' w'=>SG H F st I (l.setIfInBounds i true) w'∧wpAnyG P .any ops Q (SG H F st I) n (l.setIfInBounds i true) a' w') Q) N [o] E w)
  (h':WL P ops (Exit.then (fun a' w'=>SG H F st I (l.setIfInBounds j true) w'∧wpAnyG P .any ops Q (SG H F st I) n (l.setIfInBounds j true) a' w') Q) N [o'] E w)(hr:Region.ready .any ops l=[i,j]:=by kernel_rfl):
  WJ P ops Q H F st I N (n+1) l E w:=fun _=>wg_many hr rfl ⟨⟨_,hi,h⟩,⟨_,hj,h'⟩,trivial⟩
theorem jd (h:QE Q .normal N E w)(hr:Region.ready .any ops l=[]:=by kernel_rfl):WJ P ops Q H F st I N 0 l E w:=fun _=>wg_done hr h
theorem r_0 (hx:ev E x=some (V6 0)):RV P E w (.assign x) (V6 0):=rv_assign hx
theorem r_f (hx:ev E x=some (.bool false)):RV P E w (.assign x) (.bool false):=rv_assign hx
theorem r_t (hx:ev E x=some (.bool true)):RV P E w (.assign x) (.bool true):=rv_assign hx
theorem r_n (hx:ev E x=some (V3 none 0 0)):RV P E w (.assign x) (V3 none 0 0):=rv_assign hx
theorem r_s (hx:ev E x=some (sv [])):RV P E w (.assign x) (sv []):=rv_assign hx
theorem r_m (hx:ev E x=some (V6 0)):RV P E w (.move x) (V6 0):=rv_move hx
theorem p_t {c:Operand}{b:Bool}(hc:ev E c=some (.bool b))(hb:b=true)(hx:ev E x=some (.bool true)):RV P E w (.pick c x y) (.bool true):=rv_pick_t hc hb hx
theorem p_f {c:Operand}{b:Bool}(hc:ev E c=some (.bool b))(hb:b=false)(hy:ev E y=some (.bool false)):RV P E w (.pick c x y) (.bool false):=rv_pick_f hc hb hy
theorem d_0:rng64 0:=by decide
abbrev T_ (_:World):Prop:=True
theorem j_o (hH:H w)(h:WJ P ops Q H T_ st I N n l E w)(hI:okI I l=true:=by kernel_rfl):
  WL P ops (Exit.then (fun a' w'=>SG H T_ st I l w'∧wpAnyG P .any ops Q (SG H T_ st I) n l a' w') Q) N [] E w:=jn hH (fun _=>trivial) h hI
theorem j_0 {id:Nat}{l:List Oper}(H:World→Prop)(st:Nat)(I:List (Nat×Nat))(hm:P.follows .mixedOrders=true)(hH:H w.drew)(h:WJ P l.toArray Q H T_ st I N l.length (Array.replicate l.length false) E w.drew)
  (hI:okI I (Array.replicate l.length false)=true:=by kernel_rfl):WC P (.region id l.toArray true) Q N E w:=wj0 H T_ st I hm hH (fun _=>trivial) h hI
abbrev R_b (w:World)(K:KMap)(r:Bool):Ending→World→Prop:=fun e w'=>∃K',e= .returned (.bool r)∧SH w K [] w' K' []
abbrev R_i (w:World)(K:KMap)(r:Int):Ending→World→Prop:=fun e w'=>∃K',e= .returned (V6 r)∧SH w K [] w' K' []∧rng64 r
theorem c_w {f:FuncId}{fn:Func}(h:P.funcs[f]? =some fn)(hn:(fn.name== "runtime.NumGoroutine")=false:=by kernel_rfl)(hb:fn.body.isNone=false:=by kernel_rfl):CallOk P f:=⟨fn,h,hn,hb⟩
theorem t_w (h:(P.info? T).map (fun i=>(i.zero,i.size,i.bytes))=some (some zero,size,bytes):=by kernel_rfl)(hu:(P.underlying T).map aggD=some agg:=by kernel_rfl):TF P T size agg zero bytes:=⟨h,hu⟩
theorem f_w {f off:Nat}(h:(match P.underlying T with
 | some (.struct fs)=>(match fs[f]? with | some fd=>some (fd.offset,Nat.blt 0 (P.cellsOf fd.type)) | none=>none)
 | _=>none)=some (off,true):=by kernel_rfl):FF P T f off:=h
end
end
end Go.Fk
