import Derived.Test.YtpdfkjjmcnhakaaGreatDoorCoreAL
/-
  Short names for steps that stand one behind the other. Of no program.
-/
namespace Go.Fk
open Go
variable {P:Program}{Q:Exit→Act→World→Prop}{N:Nat}{E:Env}{w:World}{ops:Array Oper}{x y:Code}
abbrev oi {α:Type}{a b:α}(h:some a=some b):a=b:=Option.some.inj h
theorem ob {α β:Type}{o:Option α}{f:α→Option β}{b:β}(h:Option.bind o f=some b): ∃a,o=some a∧f a=some b:=Option.bind_eq_some_iff.1 h
theorem elim_l {σ τ β:Type}{f:σ→β}{g:τ→β}{s:σ}{r:β}(h:Sum.elim f g (.inl s)=r):f s=r:=h
theorem nq (h:WC P y Q N E w):WL P ops (Exit.then (y.wp P Q) Q) N [] E w:=wl_nil (qe_seq h)
theorem sr {id:Nat}{l:List Oper}(h:WL P l.toArray (Exit.then (y.wp P Q) Q) N l E w):WC P (.seq (.region id l.toArray false) y) Q N E w:=wc_seq (wc_region h)
theorem nr {id:Nat}{l:List Oper}(h:WL P l.toArray (Exit.then (y.wp P Q) Q) N l E w):WL P ops (Exit.then ((Code.seq (.region id l.toArray false) y).wp P Q) Q) N [] E w:=nq (sr h)
theorem ns (h:WC P x (Exit.then (y.wp P Q) Q) N E w):WL P ops (Exit.then ((Code.seq x y).wp P Q) Q) N [] E w:=nq (wc_seq h)
theorem qs (h:WC P x (Exit.then (y.wp P Q) Q) N E w):QE (Exit.then ((Code.seq x y).wp P Q) Q) .normal N E w:=qe_seq (wc_seq h)
theorem qr {id:Nat}{l:List Oper}(h:WL P l.toArray (Exit.then (y.wp P Q) Q) N l E w):QE (Exit.then ((Code.seq (.region id l.toArray false) y).wp P Q) Q) .normal N E w:=qs (wc_region h)
theorem qg {id:Nat}{l:List Oper}(h:WL P l.toArray Q N l E w):QE (Exit.then ((Code.region id l.toArray false).wp P Q) Q) .normal N E w:=qe_seq (wc_region h)
theorem nb {id:Nat}(h:QE Q .normal N E w):WL P ops (Exit.inBlock id Q) N [] E w:=wl_nil (qe_block h)
theorem nsr {id:Nat}{l:List Oper}{z:Code}(h:WL P l.toArray (Exit.then (y.wp P (Exit.then (z.wp P Q) Q)) (Exit.then (z.wp P Q) Q)) N l E w):WL P ops (Exit.then ((Code.seq (.seq (.region id l.toArray false) y) z).wp P Q) Q) N [] E w:=ns (sr h)
theorem rr {k:Act→World→Prop}(h:QE Q .ret N E w):WC P .ret (Exit.then k Q) N E w:=wc_ret (qe_then_ret h)
theorem vm {d:Tmp}{a:Operand}{ty:TypeId}{pos:String}{af:Array Edge}{rest:List Oper}{v:Value}(hd:Nat.blt d N=true)(hx:ev E a=some v)(h:WL P ops Q N rest ((d,v)::E) w):WL P ops Q N (⟨some d,.move a,ty,pos,af,none⟩::rest) E w:=wl_val wn hd (rv_move hx) h
theorem va {d:Tmp}{a:Operand}{ty:TypeId}{pos:String}{af:Array Edge}{rest:List Oper}{v:Value}(hd:Nat.blt d N=true)(hx:ev E a=some v)(h:WL P ops Q N rest ((d,v)::E) w):WL P ops Q N (⟨some d,.assign a,ty,pos,af,none⟩::rest) E w:=wl_val wn hd (rv_assign hx) h
theorem qm {C:World→Prop}{d:Tmp}{a:Operand}{ty:TypeId}{pos:String}{af:Array Edge}{rest:List Oper}{v:Value}(hd:Nat.blt d N=true)(hx:ev E a=some v)(h:WQ P ops C Q N rest ((d,v)::E)):WQ P ops C Q N (⟨some d,.move a,ty,pos,af,none⟩::rest) E:=wq_val wn hd (fun _ _=>rv_move hx) h
theorem qv {C:World→Prop}{d:Tmp}{op:Op}{ty:TypeId}{pos:String}{af:Array Edge}{j gs:Nat}{b want:Bool}{rest:List Oper}(hj:(ops[j]?).bind (·.dst)=some gs)(hE:look E gs=some (.bool b))(hb:b= !want)(hd:Nat.blt d N=true)(h:WQ P ops C Q N rest ((d,undef)::E)):WQ P ops C Q N (⟨some d,op,ty,pos,af,some (j,want)⟩::rest) E:=wq_un (ug hj hE hb) hd h
end Go.Fk
set_option linter.unusedVariables false
namespace Go.Fk
open Go
set_option linter.unusedSectionVars false
variable [dr:Dr]
section
variable {P:Program}{ops:Array Oper}{Q:Exit→Act→World→Prop}{N:Nat}{E:Env}{w w0:World}{K K0:KMap}{M:List Nat}{L:List Item}{H F:World→Prop}{st:Nat}{I:List (Nat×Nat)}
variable {d:Tmp}{op:Op}{ty T T' U:TypeId}{pos:String}{af:Array Edge}{gd:Option (Nat×Bool)}{rest:List Oper}{v:Value}{x y z:Operand}{size bytes:Nat}{agg:Bool}{zero:Value}{C:World→Prop}
abbrev pt (g:Nat):Value:=.pointer (some ⟨g,0,none⟩)
theorem SH.f1 {a b:Item}{q:List Item}(h:SH w0 K0 M w K (a::b::q)):SH w0 K0 M w K (b::a::q):=h.front (p:=[_])
theorem SH.f2 {a b c:Item}{q:List Item}(h:SH w0 K0 M w K (a::b::c::q)):SH w0 K0 M w K (c::a::b::q):=h.front (p:=[_,_])
theorem SH.f3 {a b c d:Item}{q:List Item}(h:SH w0 K0 M w K (a::b::c::d::q)):SH w0 K0 M w K (d::a::b::c::q):=h.front (p:=[_,_,_])
theorem SH.f4 {a b c d e:Item}{q:List Item}(h:SH w0 K0 M w K (a::b::c::d::e::q)):SH w0 K0 M w K (e::a::b::c::d::q):=h.front (p:=[_,_,_,_])
theorem SH.f5 {a b c d e f:Item}{q:List Item}(h:SH w0 K0 M w K (a::b::c::d::e::f::q)):SH w0 K0 M w K (f::a::b::c::d::e::q):=h.front (p:=[_,_,_,_,_])
theorem SH.f6 {a b c d e f g:Item}{q:List Item}(h:SH w0 K0 M w K (a::b::c::d::e::f::g::q)):SH w0 K0 M w K (g::a::b::c::d::e::f::q):=h.front (p:=[_,_,_,_,_,_])
theorem SH.t0 (h:SH w0 K0 M w K []):SH w0 K0 M w K []:=h
theorem SH.t1 {a:Item}(h:SH w0 K0 M w K [a]):SH w0 K0 M w K [a]:=h
theorem SH.t2 {a b:Item}(h:SH w0 K0 M w K [a,b]):SH w0 K0 M w K [a,b]:=h
theorem SH.t3 {a b c:Item}(h:SH w0 K0 M w K [a,b,c]):SH w0 K0 M w K [a,b,c]:=h
theorem SH.t4 {a b c d:Item}(h:SH w0 K0 M w K [a,b,c,d]):SH w0 K0 M w K [a,b,c,d]:=h
theorem SH.t5 {a b c d e:Item}(h:SH w0 K0 M w K [a,b,c,d,e]):SH w0 K0 M w K [a,b,c,d,e]:=h
theorem SH.t6 {a b c d e f:Item}(h:SH w0 K0 M w K [a,b,c,d,e,f]):SH w0 K0 M w K [a,b,c,d,e,f]:=h
theorem SH.t7 {a b c d e f g:Item}(h:SH w0 K0 M w K [a,b,c,d,e,f,g]):SH w0 K0 M w K [a,b,c,d,e,f,g]:=h
theorem SH.t9 {a b c d e f g i j:Item}(h:SH w0 K0 M w K [a,b,c,d,e,f,g,i,j]):SH w0 K0 M w K [a,b,c,d,e,f,g,i,j]:=h
theorem SH.t10 {a b c d e f g i j k:Item}(h:SH w0 K0 M w K [a,b,c,d,e,f,g,i,j,k]):SH w0 K0 M w K [a,b,c,d,e,f,g,i,j,k]:=h
theorem SH.t12 {a b c d e f g i j k l m:Item}(h:SH w0 K0 M w K [a,b,c,d,e,f,g,i,j,k,l,m]):SH w0 K0 M w K [a,b,c,d,e,f,g,i,j,k,l,m]:=h
theorem m0 {α:Type}{a:α}{l:List α}:a∈a::l:=.head _
theorem m1 {α:Type}{p0 a:α}{l:List α}:a∈p0::a::l:=(.tail _ (.head _))
theorem m2 {α:Type}{p0 p1 a:α}{l:List α}:a∈p0::p1::a::l:=(.tail _ (.tail _ (.head _)))
theorem m3 {α:Type}{p0 p1 p2 a:α}{l:List α}:a∈p0::p1::p2::a::l:=(.tail _ (.tail _ (.tail _ (.head _))))
theorem m4 {α:Type}{p0 p1 p2 p3 a:α}{l:List α}:a∈p0::p1::p2::p3::a::l:=(.tail _ (.tail _ (.tail _ (.tail _ (.head _)))))
theorem m5 {α:Type}{p0 p1 p2 p3 p4 a:α}{l:List α}:a∈p0::p1::p2::p3::p4::a::l:=(.tail _ (.tail _ (.tail _ (.tail _ (.tail _ (.head _))))))
theorem m6 {α:Type}{p0 p1 p2 p3 p4 p5 a:α}{l:List α}:a∈p0::p1::p2::p3::p4::p5::a::l:=(.tail _ (.tail _ (.tail _ (.tail _ (.tail _ (.tail _ (.head _)))))))
theorem m9 {α:Type}{p0 p1 p2 p3 p4 p5 p6 p7 p8 a:α}{l:List α}:a∈p0::p1::p2::p3::p4::p5::p6::p7::p8::a::l:=(.tail _ (.tail _ (.tail _ (.tail _ (.tail _ (.tail _ (.tail _ (.tail _ (.tail _ (.head _))))))))))
theorem m10 {α:Type}{p0 p1 p2 p3 p4 p5 p6 p7 p8 p9 a:α}{l:List α}:a∈p0::p1::p2::p3::p4::p5::p6::p7::p8::p9::a::l:=(.tail _ (.tail _ (.tail _ (.tail _ (.tail _ (.tail _ (.tail _ (.tail _ (.tail _ (.tail _ (.head _)))))))))))
theorem m11 {α:Type}{p0 p1 p2 p3 p4 p5 p6 p7 p8 p9 p10 a:α}{l:List α}:a∈p0::p1::p2::p3::p4::p5::p6::p7::p8::p9::p10::a::l:=(.tail _ (.tail _ (.tail _ (.tail _ (.tail _ (.tail _ (.tail _ (.tail _ (.tail _ (.tail _ (.tail _ (.head _))))))))))))
theorem SH.sb {L':List Item}(h:SH w0 K0 M w K L)(hs:L'.Sublist L):SH w0 K0 M w K L':=h.sublist hs
theorem sk {α:Type}{a:α}{l l':List α}(h:l.Sublist l'):(a::l).Sublist (a::l'):=.cons_cons _ h
theorem sd {α:Type}{a:α}{l l':List α}(h:l.Sublist l'):l.Sublist (a::l'):=.cons _ h
theorem sz {α:Type}:([]:List α).Sublist []:=.slnil
section
variable {w':World}{K':KMap}{Lo q:List Item}{a b c e:Item}
theorem SH.c0 (h:SH w0 K0 M w K q)(hc:SH w K [] w' K' Lo):SH w0 K0 M w' K' (Lo++q):=h.call0 hc
theorem SH.c1 (h:SH w0 K0 M w K (a::q))(hc:SH w K (List.flatMap Item.gs [a]) w' K' Lo):SH w0 K0 M w' K' (Lo++q):=SH.call (Lin:=[a]) h hc
theorem SH.c2 (h:SH w0 K0 M w K (a::b::q))(hc:SH w K (List.flatMap Item.gs [a,b]) w' K' Lo):SH w0 K0 M w' K' (Lo++q):=SH.call (Lin:=[a,b]) h hc
theorem SH.c3 (h:SH w0 K0 M w K (a::b::c::q))(hc:SH w K (List.flatMap Item.gs [a,b,c]) w' K' Lo):SH w0 K0 M w' K' (Lo++q):=SH.call (Lin:=[a,b,c]) h hc
theorem SH.e1 (h:SH w0 K0 M w K (a::q)):SH w K (List.flatMap Item.gs [a]) w K [a]:=SH.enter (Lin:=[a]) h
theorem SH.e2 (h:SH w0 K0 M w K (a::b::q)):SH w K (List.flatMap Item.gs [a,b]) w K [a,b]:=SH.enter (Lin:=[a,b]) h
theorem SH.e3 (h:SH w0 K0 M w K (a::b::c::q)):SH w K (List.flatMap Item.gs [a,b,c]) w K [a,b,c]:=SH.enter (Lin:=[a,b,c]) h
end
theorem lv (hr:RV P E w op v)(h:WL P ops Q N rest ((d,v)::E) w)(hd:Nat.blt d N=true:=by rfl):WL P ops Q N (⟨some d,op,ty,pos,af,none⟩::rest) E w:=wl_val wn hd hr h
theorem lg {j gs:Nat}{b want:Bool}(hb:b=want)(hr:RV P E w op v)(h:WL P ops Q N rest ((d,v)::E) w)(hj:(ops[j]?).bind (·.dst)=some gs:=by rfl)(hE:look E gs=some (.bool b):=by rfl)(hd:Nat.blt d N=true:=by rfl):
  WL P ops Q N (⟨some d,op,ty,pos,af,some (j,want)⟩::rest) E w:=wl_val (wg hj hE hb) hd hr h
theorem lu {j gs:Nat}{b want:Bool}(hb:b= !want)(h:WL P ops Q N rest ((d,undef)::E) w)(hj:(ops[j]?).bind (·.dst)=some gs:=by rfl)(hE:look E gs=some (.bool b):=by rfl)(hd:Nat.blt d N=true:=by rfl):
  WL P ops Q N (⟨some d,op,ty,pos,af,some (j,want)⟩::rest) E w:=wl_un (ug hj hE hb) hd h
theorem mv {a:Operand}(hx:ev E a=some v)(h:WL P ops Q N rest ((d,v)::E) w)(hd:Nat.blt d N=true:=by rfl):WL P ops Q N (⟨some d,.move a,ty,pos,af,none⟩::rest) E w:=vm hd hx h
theorem av {a:Operand}(hx:ev E a=some v)(h:WL P ops Q N rest ((d,v)::E) w)(hd:Nat.blt d N=true:=by rfl):WL P ops Q N (⟨some d,.assign a,ty,pos,af,none⟩::rest) E w:=va hd hx h
theorem fa {b o f off:Nat}(hF:FF P T f off)(hx:ev E x=some (.pointer (some ⟨b,o,none⟩)))(h:WL P ops Q N rest ((d,.pointer (some ⟨b,o+off,none⟩))::E) w)(hd:Nat.blt d N=true:=by rfl):
  WL P ops Q N (⟨some d,.fieldAddr T x f,ty,pos,af,none⟩::rest) E w:=wl_val wn hd (rv_fieldAddr hF hx) h
theorem kv (hr: ∀{w'},RV P E w' op v)(h:WQ P ops C Q N rest ((d,v)::E))(hd:Nat.blt d N=true:=by rfl):WQ P ops C Q N (⟨some d,op,ty,pos,af,none⟩::rest) E:=wq_val wn hd (fun _ _=>hr) h
theorem kh (hr: ∀w',C w'→RV P E w' op v)(h:WQ P ops C Q N rest ((d,v)::E))(hd:Nat.blt d N=true:=by rfl):WQ P ops C Q N (⟨some d,op,ty,pos,af,none⟩::rest) E:=wq_val wn hd hr h
theorem kg {j gs:Nat}{b want:Bool}(hb:b=want)(hr: ∀{w'},RV P E w' op v)(h:WQ P ops C Q N rest ((d,v)::E))(hj:(ops[j]?).bind (·.dst)=some gs:=by rfl)(hE:look E gs=some (.bool b):=by rfl)(hd:Nat.blt d N=true:=by rfl):
  WQ P ops C Q N (⟨some d,op,ty,pos,af,some (j,want)⟩::rest) E:=wq_val (wg hj hE hb) hd (fun _ _=>hr) h
theorem kgh {j gs:Nat}{b want:Bool}(hb:b=want)(hr: ∀w',C w'→RV P E w' op v)(h:WQ P ops C Q N rest ((d,v)::E))(hj:(ops[j]?).bind (·.dst)=some gs:=by rfl)(hE:look E gs=some (.bool b):=by rfl)(hd:Nat.blt d N=true:=by rfl):
  WQ P ops C Q N (⟨some d,op,ty,pos,af,some (j,want)⟩::rest) E:=wq_val (wg hj hE hb) hd hr h
theorem kn {j gs:Nat}{b want:Bool}(hb:b= !want)(h:WQ P ops C Q N rest ((d,undef)::E))(hj:(ops[j]?).bind (·.dst)=some gs:=by rfl)(hE:look E gs=some (.bool b):=by rfl)(hd:Nat.blt d N=true:=by rfl):
  WQ P ops C Q N (⟨some d,op,ty,pos,af,some (j,want)⟩::rest) E:=wq_un (ug hj hE hb) hd h
theorem ku {j gs:Nat}{want:Bool}(h:WQ P ops C Q N rest ((d,undef)::E))(hj:(ops[j]?).bind (·.dst)=some gs:=by rfl)(hE:look E gs=some undef:=by rfl)(hd:Nat.blt d N=true:=by rfl):
  WQ P ops C Q N (⟨some d,op,ty,pos,af,some (j,want)⟩::rest) E:=wq_un (uu hj hE) hd h
theorem km {a:Operand}(hx:ev E a=some v)(h:WQ P ops C Q N rest ((d,v)::E))(hd:Nat.blt d N=true:=by rfl):WQ P ops C Q N (⟨some d,.move a,ty,pos,af,none⟩::rest) E:=qm hd hx h
theorem ls {g o:Nat}{cs:List Value}{fr:Nat×Nat}(cs':List Value)(v:Value)(hT:TF P T size agg zero bytes)(hS:SH w0 K0 M w K (obj g cs U fr::L))
  (h: ∀w',SH w0 K0 M w' K (obj g cs' U fr::L)→WL P ops Q N rest E w')(hx:ev E x=some (.pointer (some ⟨g,o,none⟩)):=by rfl)(hy:ev E y=some v:=by rfl)(hsz:v.cells.size=size:=by rfl)(hones: ∀c∈v.cells.toList,c.oneCell'=true:=by simp [Value.cells,Value.oneCell',sv])
  (hfit:Nat.ble (o+size) cs.length=true:=by rfl)(hcs:splice cs o v.cells.toList=cs':=by rfl):WL P ops Q N (⟨none,.store T x y,ty,pos,af,none⟩::rest) E w:=wl_store wn hT hx hy hsz hones hS hfit hcs h
theorem li {α:Type}{t:Ty α}{a:Option Addr}{n c:Nat}{xs:List α}{k:IntKind}{i:Int}{e:α}(hT:P.underlying T=some (.slice U))(hU:TF P U t.size agg zero bytes)(hs:SliceAt t K a n c xs)(hz:getI xs i=some e)
  (h: ∀b o u,t.rel K u e→AtK K b o u.cells.toList→WL P ops Q N rest ((d,.pointer (some ⟨b,o,none⟩))::E) w)(hx:ev E x=some (.slice a n c):=by rfl)(hy:ev E y=some (.int k i):=by rfl)(hd:Nat.blt d N=true:=by rfl):
  WL P ops Q N (⟨some d,.indexAddr T x y,ty,pos,af,none⟩::rest) E w:=wl_indexAddr wn hd hT hU hx hy hs hz h
theorem lp {α:Type}{t:Ty α}{a a2:Option Addr}{n c n2 c2:Nat}{xs ys zs:List α}(hT:P.underlying T=some (.slice U))(hU:TF P U t.size agg zero bytes)(hs:SliceAt t K a n c xs)(hs2:SliceAt t K a2 n2 c2 ys)(hz:catL bytes xs ys=some zs)
  (hS:SH w0 K0 M w K (tail (.slice a n c) U t.size::L))
  (h: ∀a' n' c' w' K',KLe K K'→SliceAt t K' a' n' c' zs→SH w0 K0 M w' K' (tail (.slice a' n' c') U t.size::L)→WL P ops Q N rest ((d,.slice a' n' c')::E) w')
  (hx:ev E x=some (.slice a n c):=by rfl)(hy:ev E y=some (.slice a2 n2 c2):=by rfl)(hsz:Nat.blt 0 t.size=true:=by rfl)(hzs:zero.cells.size=t.size:=by rfl)(hb:Nat.blt 0 bytes=true:=by rfl)(hd:Nat.blt d N=true:=by rfl):
  WL P ops Q N (⟨some d,.call {callee:=.builtin .append,args:=#[x,y],argTypes:=#[T,T]},ty,pos,af,none⟩::rest) E w:=wl_append wn hd hT hU hsz hzs hb hx hy hs hs2 hz hS h
theorem lb {α:Type}(t:Ty α)(u:Value)(cs:List Value)(z:α){parts:List (Nat×Operand)}(hT:P.underlying T=some (.slice U))(hU:TF P U t.size agg zero bytes)(hu:t.rel K u z)(hS:SH w0 K0 M w K L)
  (h: ∀a w' K',KLe K K'→SliceAt t K' a 1 1 [z]→SH w0 K0 M w' K' (tail (.slice a 1 1) U t.size::L)→WL P ops Q N rest ((d,.slice a 1 1)::E) w')
  (hd:Nat.blt d N=true:=by rfl)(hev:evP E parts=some [(0,u)]:=by rfl)(hn:Nat.blt 0 (1*t.size)=true:=by rfl)(hsm:Nat.ble (1*t.size) 16777216=true:=by rfl)(hc:u.cells.toList++[]=cs:=by rfl)
  (hf:Instr.fill (fun i=>some (i*t.size,t.size)) ((Array.range (1*t.size)).map fun i=>zero.cells[i%zero.cells.size]!) [(0,u)]=some cs.toArray:=by kernel_rfl)(hcl:cs.length=1*t.size:=by rfl):
  WL P ops Q N (⟨some d,.buildSlice T 1 parts.toArray,ty,pos,af,none⟩::rest) E w:=wl_buildSlice (n:=1) (pv:=[(0,u)]) (cs:=cs) (xs:=[z]) wn hd hT hU hev hn hsm hf rfl hcl (by rw [←hc];exact lit_cons hu lit_nil) hS h
theorem lc {f:FuncId}{args:List Operand}{ats:Array TypeId}{vs:List Value}{R:Ending→World→Prop}(hf:CallOk P f)(hc:Calls P f vs.toArray w R)(h: ∀e w',R e w'→∃v,e= .returned v∧WL P ops Q N rest ((d,v)::E) w')
  (hev:evL E args=some vs:=by rfl)(hd:Nat.blt d N=true:=by rfl):WL P ops Q N (⟨some d,.call {callee:=.value (.func f),args:=args.toArray,argTypes:=ats},ty,pos,af,none⟩::rest) E w:=wl_call wn hd (rt_call hf hev) hc h
theorem wcc {α:Type}{c:Operand}{a b:Code}{t:Bool}{p q r:α}(hm:cond t p q=r)(hc:ev E c=some (.bool t))(ht:t=true→p=r→WC P a Q N E w)(hf:t=false→q=r→WC P b Q N E w):WC P (.cond c a b) Q N E w:=
 wc_cond hc (fun e=>ht e (cond_t e hm)) fun e=>hf e (cond_f e hm)
theorem al (hT:TF P T size agg zero bytes)(hS:SH w0 K0 M w K L)(h: ∀g w',SH w0 K0 M w' K (obj g zero.cells.toList T::L)→WL P ops Q N rest ((d,.pointer (some ⟨g,0,none⟩))::E) w')(hd:Nat.blt d N=true:=by rfl):
  WL P ops Q N (⟨some d,.alloc T,ty,pos,af,none⟩::rest) E w:=wl_alloc wn hd hT hS h
theorem bx {v:Value}(hx:ev E x=some v)(hS:SH w0 K0 M w K L)(h: ∀g w',SH w0 K0 M w' K (obj g v.cells.toList T::L)→WL P ops Q N rest ((d,.pointer (some ⟨g,0,none⟩))::E) w')(hd:Nat.blt d N=true:=by rfl):
  WL P ops Q N (⟨some d,.box T x,ty,pos,af,none⟩::rest) E w:=wl_box wn hd hx hS h
theorem b0 {α:Type}(t:Ty α)(hT:P.underlying T=some (.slice U))(hU:TF P U t.size agg zero bytes)(hS:SH w0 K0 M w K L)
  (h: ∀a' w' K',KLe K K'→SliceAt t K' a' 0 0 ([]:List α)→SH w0 K0 M w' K' (tail (.slice a' 0 0) U t.size::L)→WL P ops Q N rest ((d,.slice a' 0 0)::E) w')(hd:Nat.blt d N=true:=by rfl):
  WL P ops Q N (⟨some d,.buildSlice T 0 #[],ty,pos,af,none⟩::rest) E w:=wl_buildSlice0 t wn hd hT hU hS h
theorem ki {α:Type}{t:Ty α}{a:Option Addr}{n c:Nat}{xs:List α}{k:IntKind}{i:Int}{e:α}(hT:P.underlying T=some (.slice U))(hU:TF P U t.size agg zero bytes)(hs:SliceAt t K a n c xs)(hz:getI xs i=some e)
  (h: ∀b o u,t.rel K u e→AtK K b o u.cells.toList→WQ P ops C Q N rest ((d,.pointer (some ⟨b,o,none⟩))::E))(hx:ev E x=some (.slice a n c):=by rfl)(hy:ev E y=some (.int k i):=by rfl)(hd:Nat.blt d N=true:=by rfl):
  WQ P ops C Q N (⟨some d,.indexAddr T x y,ty,pos,af,none⟩::rest) E:=wq_indexAddr wn hd hT hU hx hy hs hz h
theorem qd {k:Env→World→Prop}{E':Env}(h:k E' w)(hs:Sub E' E:=by repeat (first | exact trivial | refine And.intro rfl ?_)):QE (Exit.then (InSt N k) Q) .normal N E w:=qe_mid' h hs
theorem qw {σ τ:Type}{f:σ→Option (σ⊕τ)}{m:Nat}{r:τ}{s0:σ}{body:Code}{E':Env}(Inv:σ→Env→World→Prop)(hrun:whileM f m s0=some r)(h0:Inv s0 E' w)
  (hround: ∀s E w r',f s=some r'→(∀x,r'= .inr x→x=r)→Inv s E w→WC P body (Exit.then (InSt N fun E' w'=>∃s',r'= .inl s'∧Inv s' E' w') Q) N E w)(hs:Sub E' E:=by repeat (first | exact trivial | refine And.intro rfl ?_)):WC P (.loop body) Q N E w:=wc_while' Inv hrun h0 hs hround
theorem qf {σ τ:Type}{f:Nat→σ→Option (σ⊕τ)}{n:Nat}{r:σ⊕τ}{s0:σ}{body:Code}{E':Env}(Inv:Nat→σ→Env→World→Prop)(hrun:forFrom f n 0 s0=some r)(h0:Inv 0 s0 E' w)
  (hround: ∀i s E w r',i<n→f i s=some r'→(∀x,r'= .inr x→.inr x=r)→Inv i s E w→WC P body (Exit.then (InSt N fun E' w'=>∃s',r'= .inl s'∧Inv (i+1) s' E' w') Q) N E w)
  (hend: ∀s E w,.inl s=r→Inv n s E w→WC P body (Exit.then (fun _ _=>False) Q) N E w)(hs:Sub E' E:=by repeat (first | exact trivial | refine And.intro rfl ?_)):WC P (.loop body) Q N E w:=wc_for' Inv hrun h0 hs hround hend
theorem qF {σ:Type}{f:Nat→σ→Option σ}{n:Nat}{r:σ}{s0:σ}{body:Code}{E':Env}(Inv:Nat→σ→Env→World→Prop)(hrun:forE f n 0 s0=some r)(h0:Inv 0 s0 E' w)
  (hround: ∀i s E w s',i<n→f i s=some s'→Inv i s E w→WC P body (Exit.then (InSt N fun E' w'=>Inv (i+1) s' E' w') Q) N E w)
  (hend: ∀s E w,s=r→Inv n s E w→WC P body (Exit.then (fun _ _=>False) Q) N E w)(hs:Sub E' E:=by repeat (first | exact trivial | refine And.intro rfl ?_)):WC P (.loop body) Q N E w:=wc_forE' Inv hrun h0 hs hround hend
theorem QC.hasObj {g:Nat}{cs:List Value}{w':World}{fr:Nat×Nat}(h:QC w0 K0 M K L w')(hm:obj g cs T fr∈L):HasObj g cs w':=let ⟨_,hS,_⟩:=h;hS.hasObj hm
def pre (m k:Nat):Array Bool:=(List.replicate k true++List.replicate (m-k) false).toArray
theorem pre_get {m k i:Nat}(h:k≤m):(pre m k).getD i true=decide (¬(k≤i∧i<m)):=by
 unfold pre
 rw [Array.getD_eq_getD_getElem?,List.getElem?_toArray]
 by_cases h1:i<k
 ·rw [List.getElem?_append_left (by simpa using h1),List.getElem?_replicate,if_pos h1];simp;omega
 ·rw [List.getElem?_append_right (by simp;omega),List.getElem?_replicate,List.length_replicate]
  split
  ·simp;omega
  ·simp;omega
theorem pre_set {m k:Nat}(h:k<m):(pre m k).setIfInBounds k true=pre m (k+1):=by
 unfold pre
 apply Array.toList_inj.1
 rw [Array.toList_setIfInBounds]
 show (List.replicate k true++List.replicate (m-k) false).set k true=_
 rw [List.set_append_right _ _ (by simp),List.length_replicate,Nat.sub_self,show m-k=(m-(k+1))+1 by omega,List.replicate_succ,List.set_cons_zero,List.replicate_succ',List.append_assoc];rfl
def WH (P:Program)(ops:Array Oper)(Q:Exit→Act→World→Prop)(H F:World→Prop)(st:Nat)(I:List (Nat×Nat))(N:Nat)(b:Bool)(k:Nat)(rest:List Oper)(E:Env)(w:World):Prop:=
 ops.toList.drop k=rest→(b=true→H w∧(Nat.ble k st=true→F w))→WG P ops Q H F st I N rest.length (pre ops.size k) E w
abbrev stOk (st:Nat)(I:List (Nat×Nat))(m:Nat):Bool:=I.all fun p=>Nat.ble p.1 p.2&&Nat.blt p.2 m
theorem sg_of {k m:Nat}(hk:k≤m)(hI:stOk st I m=true)(hH:H w)(hF:Nat.ble k st=true→F w):SG H F st I (pre m k) w:=by
 refine⟨hH,fun h=>hF ?_,fun p hp h=>?_⟩
 ·rw [pre_get hk] at h;simp at h;simpa using h.1
 ·rw [pre_get hk] at h ⊢
  have:=List.all_eq_true.1 hI p hp
  simp at this h ⊢;omega
theorem wh1 {id:Nat}{l:List Oper}(H F:World→Prop)(st:Nat)(I:List (Nat×Nat))(hm:P.follows .mixedOrders=true)(hH:H w.drew)(hF:Nat.ble 0 st=true→F w.drew)(h:WH P l.toArray Q H F st I N true 0 l E w.drew):WC P (.region id l.toArray true) Q N E w:=by
 refine wc_held H F st I hm ?_
 have:=h rfl (fun _=>⟨hH,hF⟩)
 unfold pre at this
 simpa using this
theorem drop_more {o:Oper}{k:Nat}(h:ops.toList.drop k=o::rest):k<ops.size∧ops[k]? =some o∧ops.toList.drop (k+1)=rest:=by
 have h1:ops.toList[k]? =some o:=by rw [←List.head?_drop,h];rfl
 refine⟨?_,by simpa using h1,by rw [←List.tail_drop,h];rfl⟩
 have:=List.getElem?_eq_some_iff.1 h1
 simpa using this.1
variable {k:Nat}
theorem gs (S0:World→Prop)(hS0:(∀w,H w→S0 w)∨(reach I st I.length k=true∧∀w,H w→F w→S0 w))(hwt:Wanted ops N E gd)(hd:Nat.blt d N=true)(hr: ∀w',S0 w'→RV P E w' op v)(h:WH P ops Q H F st I N true (k+1) rest ((d,v)::E) w)
  (hsel:Region.noSelect ops=true)(hQ:PanicOk Q)(hwa:waits .any ops I=true)(hist:Nat.beq k st=false)(hI:stOk st I ops.size=true)(hfr:Region.free .any ops (pre ops.size k) k=true)(hrd:(Region.ready .any ops (pre ops.size k)).contains k=true):
  WH P ops Q H F st I N true k (⟨some d,op,ty,pos,af,gd⟩::rest) E w:=fun hdr hb=>by
 obtain⟨h1,h2,h3⟩:=drop_more hdr
 have hb:=hb rfl
 exact wg_val S0 h2 hsel hQ hwa hist hfr hrd (pre_set h1) hS0 (sg_of (Nat.le_of_lt h1) hI hb.1 hb.2) hwt hd hr (h h3 fun _=>⟨hb.1,fun e=>hb.2 (by simp at e ⊢;omega)⟩)
theorem gt (hr: ∀{w'},RV P E w' op v)(h:WH P ops Q H F st I N true (k+1) rest ((d,v)::E) w)(hd:Nat.blt d N=true:=by rfl)
  (hsel:Region.noSelect ops=true:=by kernel_rfl)(hQ:PanicOk Q:=by exact PkI.h)(hwa:waits .any ops I=true:=by kernel_rfl)(hist:Nat.beq k st=false:=by rfl)(hI:stOk st I ops.size=true:=by rfl)(hfr:Region.free .any ops (pre ops.size k) k=true:=by kernel_rfl)(hrd:(Region.ready .any ops (pre ops.size k)).contains k=true:=by kernel_rfl):
  WH P ops Q H F st I N true k (⟨some d,op,ty,pos,af,none⟩::rest) E w:=gs (fun _=>True) (.inl fun _ _=>trivial) wn hd (fun _ _=>hr) h hsel hQ hwa hist hI hfr hrd
theorem gh (hr: ∀w',H w'→RV P E w' op v)(h:WH P ops Q H F st I N true (k+1) rest ((d,v)::E) w)(hd:Nat.blt d N=true:=by rfl)
  (hsel:Region.noSelect ops=true:=by kernel_rfl)(hQ:PanicOk Q:=by exact PkI.h)(hwa:waits .any ops I=true:=by kernel_rfl)(hist:Nat.beq k st=false:=by rfl)(hI:stOk st I ops.size=true:=by rfl)(hfr:Region.free .any ops (pre ops.size k) k=true:=by kernel_rfl)(hrd:(Region.ready .any ops (pre ops.size k)).contains k=true:=by kernel_rfl):
  WH P ops Q H F st I N true k (⟨some d,op,ty,pos,af,none⟩::rest) E w:=gs H (.inl fun _ h=>h) wn hd hr h hsel hQ hwa hist hI hfr hrd
theorem gf (hr: ∀w',F w'→RV P E w' op v)(h:WH P ops Q H F st I N true (k+1) rest ((d,v)::E) w)(hd:Nat.blt d N=true:=by rfl)(hre:reach I st I.length k=true:=by rfl)
  (hsel:Region.noSelect ops=true:=by kernel_rfl)(hQ:PanicOk Q:=by exact PkI.h)(hwa:waits .any ops I=true:=by kernel_rfl)(hist:Nat.beq k st=false:=by rfl)(hI:stOk st I ops.size=true:=by rfl)(hfr:Region.free .any ops (pre ops.size k) k=true:=by kernel_rfl)(hrd:(Region.ready .any ops (pre ops.size k)).contains k=true:=by kernel_rfl):
  WH P ops Q H F st I N true k (⟨some d,op,ty,pos,af,none⟩::rest) E w:=gs F (.inr ⟨hre,fun _ _ h=>h⟩) wn hd hr h hsel hQ hwa hist hI hfr hrd
theorem gi {α:Type}{t:Ty α}{a:Option Addr}{nn c:Nat}{xs:List α}{ki:IntKind}{i:Int}{e:α}(hT:P.underlying T=some (.slice U))(hU:TF P U t.size agg zero bytes)(hs:SliceAt t K a nn c xs)(hz:getI xs i=some e)
  (h: ∀b o u,t.rel K u e→AtK K b o u.cells.toList→WH P ops Q H F st I N true (k+1) rest ((d,.pointer (some ⟨b,o,none⟩))::E) w)(hx:ev E x=some (.slice a nn c):=by rfl)(hy:ev E y=some (.int ki i):=by rfl)(hd:Nat.blt d N=true:=by rfl)
  (hsel:Region.noSelect ops=true:=by kernel_rfl)(hQ:PanicOk Q:=by exact PkI.h)(hwa:waits .any ops I=true:=by kernel_rfl)(hist:Nat.beq k st=false:=by rfl)(hI:stOk st I ops.size=true:=by rfl)(hfr:Region.free .any ops (pre ops.size k) k=true:=by kernel_rfl)(hrd:(Region.ready .any ops (pre ops.size k)).contains k=true:=by kernel_rfl):
  WH P ops Q H F st I N true k (⟨some d,.indexAddr T x y,ty,pos,af,none⟩::rest) E w:=by
 obtain⟨b,o,u,h1,h2,h3⟩:=rv_indexAddr hT hU hx hy hs hz
 exact gs (fun _=>True) (.inl fun _ _=>trivial) wn hd (fun w' _=>h1 w') (h b o u h2 h3) hsel hQ hwa hist hI hfr hrd
theorem gn {b:Bool}{o:Oper}(h:WL P ops (Exit.then (fun a' w'=>SG H F st I (pre ops.size (k+1)) w'∧wpAnyG P .any ops Q (SG H F st I) rest.length (pre ops.size (k+1)) a' w') Q) N [o] E w)(hrd:Region.ready .any ops (pre ops.size k)=[k]:=by kernel_rfl):
  WH P ops Q H F st I N b k (o::rest) E w:=fun hdr _=>by
 obtain⟨h1,h2,h3⟩:=drop_more hdr
 refine wg_one hrd h2 ?_
 rw [pre_set h1];exact h
theorem qh (hH:H w)(hF:Nat.ble k st=true→F w)(h:WH P ops Q H F st I N true k rest E w)(hI:stOk st I ops.size=true:=by rfl)(hk:Nat.ble k ops.size=true:=by rfl)(hdr:ops.toList.drop k=rest:=by rfl):
  QE (Exit.then (fun a' w'=>SG H F st I (pre ops.size k) w'∧wpAnyG P .any ops Q (SG H F st I) rest.length (pre ops.size k) a' w') Q) .normal N E w:=fun t ht=>
 ⟨sg_of (by simpa using hk) hI hH hF,h hdr (fun _=>⟨hH,hF⟩) t ht⟩
theorem gd' {b:Bool}(h:QE Q .normal N E w)(hrd:Region.ready .any ops (pre ops.size k)=[]:=by kernel_rfl):WH P ops Q H F st I N b k [] E w:=fun _ _=>wg_done hrd h
end
end Go.Fk
