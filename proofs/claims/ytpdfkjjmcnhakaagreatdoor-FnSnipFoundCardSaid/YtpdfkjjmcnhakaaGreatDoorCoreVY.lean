import Derived.Test.YtpdfkjjmcnhakaaGreatDoorCoreFI
import Derived.Test.YtpdfkjjmcnhakaaGreatDoorCoreJL
/-
  Short names for steps that stand one behind the other. Of no program.
-/
namespace Go.Fk
open Go
variable {P:Program}{Q:Exit→Act→World→Prop}{N:Nat}{E:X6}{w:World}{ops:Array Oper}{x y:Code}
abbrev oi {α:Type}{a b:α}(h:some a=some b):a=b:=Option.some.inj h
theorem ob {α β:Type}{o:Option α}{f:α→Option β}{b:β}(h:Option.bind o f=some b): ∃a,o=some a∧f a=some b:=Option.bind_eq_some_iff.1 h
theorem D9 {σ τ β:Type}{f:σ→β}{g:τ→β}{s:σ}{r:β}(h:Sum.elim f g (.inl s)=r):f s=r:=h
theorem nq (h:WC P y Q N E w):WL P ops (Exit.then (y.wp P Q) Q) N [] E w:=i5 (l4 h)
theorem sr {id:Nat}{l:List Oper}(h:WL P l.toArray (Exit.then (y.wp P Q) Q) N l E w):WC P (.seq (.region id l.toArray false) y) Q N E w:=n9 (j3 h)
theorem nr {id:Nat}{l:List Oper}(h:WL P l.toArray (Exit.then (y.wp P Q) Q) N l E w):WL P ops (Exit.then ((Code.seq (.region id l.toArray false) y).wp P Q) Q) N [] E w:=nq (sr h)
theorem ns (h:WC P x (Exit.then (y.wp P Q) Q) N E w):WL P ops (Exit.then ((Code.seq x y).wp P Q) Q) N [] E w:=nq (n9 h)
theorem qs (h:WC P x (Exit.then (y.wp P Q) Q) N E w):QE (Exit.then ((Code.seq x y).wp P Q) Q) .normal N E w:=l4 (n9 h)
theorem qr {id:Nat}{l:List Oper}(h:WL P l.toArray (Exit.then (y.wp P Q) Q) N l E w):QE (Exit.then ((Code.seq (.region id l.toArray false) y).wp P Q) Q) .normal N E w:=qs (j3 h)
theorem qg {id:Nat}{l:List Oper}(h:WL P l.toArray Q N l E w):QE (Exit.then ((Code.region id l.toArray false).wp P Q) Q) .normal N E w:=l4 (j3 h)
theorem nb {id:Nat}(h:QE Q .normal N E w):WL P ops (Exit.inBlock id Q) N [] E w:=i5 (q7 h)
theorem Q9 {id:Nat}{l:List Oper}{z:Code}(h:WL P l.toArray (Exit.then (y.wp P (Exit.then (z.wp P Q) Q)) (Exit.then (z.wp P Q) Q)) N l E w):WL P ops (Exit.then ((Code.seq (.seq (.region id l.toArray false) y) z).wp P Q) Q) N [] E w:=ns (sr h)
theorem rr {k:Act→World→Prop}(h:QE Q .ret N E w):WC P .ret (Exit.then k Q) N E w:=l7 (g6 h)
theorem vm {d:Tmp}{a:Operand}{ty:TypeId}{pos:String}{af:Array Edge}{rest:List Oper}{v:Value}(hd:Nat.blt d N=true)(hx:ev E a=some v)(h:WL P ops Q N rest ((d,v)::E) w):WL P ops Q N (⟨some d,.move a,ty,pos,af,none⟩::rest) E w:=a3N wn hd (i4 hx) h
theorem va {d:Tmp}{a:Operand}{ty:TypeId}{pos:String}{af:Array Edge}{rest:List Oper}{v:Value}(hd:Nat.blt d N=true)(hx:ev E a=some v)(h:WL P ops Q N rest ((d,v)::E) w):WL P ops Q N (⟨some d,.assign a,ty,pos,af,none⟩::rest) E w:=a3N wn hd (r4 hx) h
theorem qm {C:World→Prop}{d:Tmp}{a:Operand}{ty:TypeId}{pos:String}{af:Array Edge}{rest:List Oper}{v:Value}(hd:Nat.blt d N=true)(hx:ev E a=some v)(h:WQ P ops C Q N rest ((d,v)::E)):WQ P ops C Q N (⟨some d,.move a,ty,pos,af,none⟩::rest) E:=a5H wn hd (fun _ _=>i4 hx) h
theorem qv {C:World→Prop}{d:Tmp}{op:Op}{ty:TypeId}{pos:String}{af:Array Edge}{j gs:Nat}{b want:Bool}{rest:List Oper}(hj:(ops[j]?).bind (·.dst)=some gs)(hE:look E gs=some (.bool b))(hb:b= !want)(hd:Nat.blt d N=true)(h:WQ P ops C Q N rest ((d,undef)::E)):WQ P ops C Q N (⟨some d,op,ty,pos,af,some (j,want)⟩::rest) E:=b6Q (ug hj hE hb) hd h
end Go.Fk
set_option linter.unusedVariables false
namespace Go.Fk
open Go
set_option linter.unusedSectionVars false
variable [dr:Dr]
section
variable {P:Program}{ops:Array Oper}{Q:Exit→Act→World→Prop}{N:Nat}{E:X6}{w w0:World}{K K0:C7}{M:List Nat}{L:List B8}{H F:World→Prop}{st:Nat}{I:List (Nat×Nat)}
variable {d:Tmp}{op:Op}{ty T T' U:TypeId}{pos:String}{af:Array Edge}{gd:Option (Nat×Bool)}{rest:List Oper}{v:Value}{x y z:Operand}{size bytes:Nat}{agg:Bool}{zero:Value}{C:World→Prop}
abbrev pt (g:Nat):Value:=.pointer (some ⟨g,0,none⟩)
theorem SH.f1 {a b:B8}{q:List B8}(h:SH w0 K0 M w K (a::b::q)):SH w0 K0 M w K (b::a::q):=h.front (p:=[_])
theorem SH.f2 {a b c:B8}{q:List B8}(h:SH w0 K0 M w K (a::b::c::q)):SH w0 K0 M w K (c::a::b::q):=h.front (p:=[_,_])
theorem SH.f3 {a b c d:B8}{q:List B8}(h:SH w0 K0 M w K (a::b::c::d::q)):SH w0 K0 M w K (d::a::b::c::q):=h.front (p:=[_,_,_])
theorem SH.f4 {a b c d e:B8}{q:List B8}(h:SH w0 K0 M w K (a::b::c::d::e::q)):SH w0 K0 M w K (e::a::b::c::d::q):=h.front (p:=[_,_,_,_])
theorem SH.f5 {a b c d e f:B8}{q:List B8}(h:SH w0 K0 M w K (a::b::c::d::e::f::q)):SH w0 K0 M w K (f::a::b::c::d::e::q):=h.front (p:=[_,_,_,_,_])
theorem SH.f6 {a b c d e f g:B8}{q:List B8}(h:SH w0 K0 M w K (a::b::c::d::e::f::g::q)):SH w0 K0 M w K (g::a::b::c::d::e::f::q):=h.front (p:=[_,_,_,_,_,_])
theorem SH.f7 {a b c d e f g i:B8}{q:List B8}(h:SH w0 K0 M w K (a::b::c::d::e::f::g::i::q)):SH w0 K0 M w K (i::a::b::c::d::e::f::g::q):=h.front (p:=[_,_,_,_,_,_,_])
theorem SH.f8 {a b c d e f g i j:B8}{q:List B8}(h:SH w0 K0 M w K (a::b::c::d::e::f::g::i::j::q)):SH w0 K0 M w K (j::a::b::c::d::e::f::g::i::q):=h.front (p:=[_,_,_,_,_,_,_,_])
theorem SH.f9 {a b c d e f g i j k:B8}{q:List B8}(h:SH w0 K0 M w K (a::b::c::d::e::f::g::i::j::k::q)):SH w0 K0 M w K (k::a::b::c::d::e::f::g::i::j::q):=h.front (p:=[_,_,_,_,_,_,_,_,_])
theorem SH.t0 (h:SH w0 K0 M w K []):SH w0 K0 M w K []:=h
theorem SH.t1 {a:B8}(h:SH w0 K0 M w K [a]):SH w0 K0 M w K [a]:=h
theorem SH.t2 {a b:B8}(h:SH w0 K0 M w K [a,b]):SH w0 K0 M w K [a,b]:=h
theorem SH.t3 {a b c:B8}(h:SH w0 K0 M w K [a,b,c]):SH w0 K0 M w K [a,b,c]:=h
theorem SH.t4 {a b c d:B8}(h:SH w0 K0 M w K [a,b,c,d]):SH w0 K0 M w K [a,b,c,d]:=h
theorem SH.t5 {a b c d e:B8}(h:SH w0 K0 M w K [a,b,c,d,e]):SH w0 K0 M w K [a,b,c,d,e]:=h
theorem SH.t6 {a b c d e f:B8}(h:SH w0 K0 M w K [a,b,c,d,e,f]):SH w0 K0 M w K [a,b,c,d,e,f]:=h
theorem SH.t7 {a b c d e f g:B8}(h:SH w0 K0 M w K [a,b,c,d,e,f,g]):SH w0 K0 M w K [a,b,c,d,e,f,g]:=h
theorem SH.t8 {a b c d e f g i:B8}(h:SH w0 K0 M w K [a,b,c,d,e,f,g,i]):SH w0 K0 M w K [a,b,c,d,e,f,g,i]:=h
theorem SH.t9 {a b c d e f g i j:B8}(h:SH w0 K0 M w K [a,b,c,d,e,f,g,i,j]):SH w0 K0 M w K [a,b,c,d,e,f,g,i,j]:=h
theorem m0 {α:Type}{a:α}{l:List α}:a∈a::l:=.head _
theorem m1 {α:Type}{p0 a:α}{l:List α}:a∈p0::a::l:=(.tail _ (.head _))
theorem m2 {α:Type}{p0 p1 a:α}{l:List α}:a∈p0::p1::a::l:=(.tail _ (.tail _ (.head _)))
theorem m3 {α:Type}{p0 p1 p2 a:α}{l:List α}:a∈p0::p1::p2::a::l:=(.tail _ (.tail _ (.tail _ (.head _))))
theorem m4 {α:Type}{p0 p1 p2 p3 a:α}{l:List α}:a∈p0::p1::p2::p3::a::l:=(.tail _ (.tail _ (.tail _ (.tail _ (.head _)))))
theorem m5 {α:Type}{p0 p1 p2 p3 p4 a:α}{l:List α}:a∈p0::p1::p2::p3::p4::a::l:=(.tail _ (.tail _ (.tail _ (.tail _ (.tail _ (.head _))))))
theorem m6 {α:Type}{p0 p1 p2 p3 p4 p5 a:α}{l:List α}:a∈p0::p1::p2::p3::p4::p5::a::l:=(.tail _ (.tail _ (.tail _ (.tail _ (.tail _ (.tail _ (.head _)))))))
theorem m7 {α:Type}{p0 p1 p2 p3 p4 p5 p6 a:α}{l:List α}:a∈p0::p1::p2::p3::p4::p5::p6::a::l:=(.tail _ (.tail _ (.tail _ (.tail _ (.tail _ (.tail _ (.tail _ (.head _))))))))
theorem SH.sb {L':List B8}(h:SH w0 K0 M w K L)(hs:L'.Sublist L):SH w0 K0 M w K L':=h.sublist hs
theorem sk {α:Type}{a:α}{l l':List α}(h:l.Sublist l'):(a::l).Sublist (a::l'):=.cons_cons _ h
theorem sd {α:Type}{a:α}{l l':List α}(h:l.Sublist l'):l.Sublist (a::l'):=.cons _ h
theorem sz {α:Type}:([]:List α).Sublist []:=.slnil
section
variable {w':World}{K':C7}{Lo q:List B8}{a b c e:B8}
theorem SH.c0 (h:SH w0 K0 M w K q)(hc:SH w K [] w' K' Lo):SH w0 K0 M w' K' (Lo++q):=h.call0 hc
theorem SH.c1 (h:SH w0 K0 M w K (a::q))(hc:SH w K (List.flatMap B8.gs [a]) w' K' Lo):SH w0 K0 M w' K' (Lo++q):=SH.call (Lin:=[a]) h hc
theorem SH.c2 (h:SH w0 K0 M w K (a::b::q))(hc:SH w K (List.flatMap B8.gs [a,b]) w' K' Lo):SH w0 K0 M w' K' (Lo++q):=SH.call (Lin:=[a,b]) h hc
theorem SH.c3 (h:SH w0 K0 M w K (a::b::c::q))(hc:SH w K (List.flatMap B8.gs [a,b,c]) w' K' Lo):SH w0 K0 M w' K' (Lo++q):=SH.call (Lin:=[a,b,c]) h hc
theorem SH.e1 (h:SH w0 K0 M w K (a::q)):SH w K (List.flatMap B8.gs [a]) w K [a]:=SH.enter (Lin:=[a]) h
theorem SH.e2 (h:SH w0 K0 M w K (a::b::q)):SH w K (List.flatMap B8.gs [a,b]) w K [a,b]:=SH.enter (Lin:=[a,b]) h
theorem SH.e3 (h:SH w0 K0 M w K (a::b::c::q)):SH w K (List.flatMap B8.gs [a,b,c]) w K [a,b,c]:=SH.enter (Lin:=[a,b,c]) h
end
theorem lv (hr:RV P E w op v)(h:WL P ops Q N rest ((d,v)::E) w)(hd:Nat.blt d N=true:=by rfl):WL P ops Q N (⟨some d,op,ty,pos,af,none⟩::rest) E w:=a3N wn hd hr h
theorem lg {j gs:Nat}{b want:Bool}(hb:b=want)(hr:RV P E w op v)(h:WL P ops Q N rest ((d,v)::E) w)(hj:(ops[j]?).bind (·.dst)=some gs:=by rfl)(hE:look E gs=some (.bool b):=by rfl)(hd:Nat.blt d N=true:=by rfl):
  WL P ops Q N (⟨some d,op,ty,pos,af,some (j,want)⟩::rest) E w:=a3N (wg hj hE hb) hd hr h
theorem lu {j gs:Nat}{b want:Bool}(hb:b= !want)(h:WL P ops Q N rest ((d,undef)::E) w)(hj:(ops[j]?).bind (·.dst)=some gs:=by rfl)(hE:look E gs=some (.bool b):=by rfl)(hd:Nat.blt d N=true:=by rfl):
  WL P ops Q N (⟨some d,op,ty,pos,af,some (j,want)⟩::rest) E w:=D4 (ug hj hE hb) hd h
theorem mv {a:Operand}(hx:ev E a=some v)(h:WL P ops Q N rest ((d,v)::E) w)(hd:Nat.blt d N=true:=by rfl):WL P ops Q N (⟨some d,.move a,ty,pos,af,none⟩::rest) E w:=vm hd hx h
theorem av {a:Operand}(hx:ev E a=some v)(h:WL P ops Q N rest ((d,v)::E) w)(hd:Nat.blt d N=true:=by rfl):WL P ops Q N (⟨some d,.assign a,ty,pos,af,none⟩::rest) E w:=va hd hx h
theorem fa {b o f off:Nat}(hF:FF P T f off)(hx:ev E x=some (.pointer (some ⟨b,o,none⟩)))(h:WL P ops Q N rest ((d,.pointer (some ⟨b,o+off,none⟩))::E) w)(hd:Nat.blt d N=true:=by rfl):
  WL P ops Q N (⟨some d,.fieldAddr T x f,ty,pos,af,none⟩::rest) E w:=a3N wn hd (c7 hF hx) h
theorem kv (hr: ∀{w'},RV P E w' op v)(h:WQ P ops C Q N rest ((d,v)::E))(hd:Nat.blt d N=true:=by rfl):WQ P ops C Q N (⟨some d,op,ty,pos,af,none⟩::rest) E:=a5H wn hd (fun _ _=>hr) h
theorem kh (hr: ∀w',C w'→RV P E w' op v)(h:WQ P ops C Q N rest ((d,v)::E))(hd:Nat.blt d N=true:=by rfl):WQ P ops C Q N (⟨some d,op,ty,pos,af,none⟩::rest) E:=a5H wn hd hr h
theorem kg {j gs:Nat}{b want:Bool}(hb:b=want)(hr: ∀{w'},RV P E w' op v)(h:WQ P ops C Q N rest ((d,v)::E))(hj:(ops[j]?).bind (·.dst)=some gs:=by rfl)(hE:look E gs=some (.bool b):=by rfl)(hd:Nat.blt d N=true:=by rfl):
  WQ P ops C Q N (⟨some d,op,ty,pos,af,some (j,want)⟩::rest) E:=a5H (wg hj hE hb) hd (fun _ _=>hr) h
theorem kgh {j gs:Nat}{b want:Bool}(hb:b=want)(hr: ∀w',C w'→RV P E w' op v)(h:WQ P ops C Q N rest ((d,v)::E))(hj:(ops[j]?).bind (·.dst)=some gs:=by rfl)(hE:look E gs=some (.bool b):=by rfl)(hd:Nat.blt d N=true:=by rfl):
  WQ P ops C Q N (⟨some d,op,ty,pos,af,some (j,want)⟩::rest) E:=a5H (wg hj hE hb) hd hr h
theorem kn {j gs:Nat}{b want:Bool}(hb:b= !want)(h:WQ P ops C Q N rest ((d,undef)::E))(hj:(ops[j]?).bind (·.dst)=some gs:=by rfl)(hE:look E gs=some (.bool b):=by rfl)(hd:Nat.blt d N=true:=by rfl):
  WQ P ops C Q N (⟨some d,op,ty,pos,af,some (j,want)⟩::rest) E:=b6Q (ug hj hE hb) hd h
theorem ku {j gs:Nat}{want:Bool}(h:WQ P ops C Q N rest ((d,undef)::E))(hj:(ops[j]?).bind (·.dst)=some gs:=by rfl)(hE:look E gs=some undef:=by rfl)(hd:Nat.blt d N=true:=by rfl):
  WQ P ops C Q N (⟨some d,op,ty,pos,af,some (j,want)⟩::rest) E:=b6Q (uu hj hE) hd h
theorem km {a:Operand}(hx:ev E a=some v)(h:WQ P ops C Q N rest ((d,v)::E))(hd:Nat.blt d N=true:=by rfl):WQ P ops C Q N (⟨some d,.move a,ty,pos,af,none⟩::rest) E:=qm hd hx h
theorem ls {g o:Nat}{cs:List Value}{fr:Nat×Nat}(cs':List Value)(v:Value)(hT:TF P T size agg zero bytes)(hS:SH w0 K0 M w K (r5 g cs U fr::L))
  (h: ∀w',SH w0 K0 M w' K (r5 g cs' U fr::L)→WL P ops Q N rest E w')(hx:ev E x=some (.pointer (some ⟨g,o,none⟩)):=by rfl)(hy:ev E y=some v:=by rfl)(hsz:v.cells.size=size:=by rfl)(hones: ∀c∈v.cells.toList,c.oneCell'=true:=by simp [Value.cells,Value.oneCell',sv])
  (hfit:Nat.ble (o+size) cs.length=true:=by rfl)(hcs:H9 cs o v.cells.toList=cs':=by rfl):WL P ops Q N (⟨none,.store T x y,ty,pos,af,none⟩::rest) E w:=b6P wn hT hx hy hsz hones hS hfit hcs h
theorem li {α:Type}{t:Ty α}{a:Option Addr}{n c:Nat}{xs:List α}{k:IntKind}{i:Int}{e:α}(hT:P.underlying T=some (.slice U))(hU:TF P U t.size agg zero bytes)(hs:b7 t K a n c xs)(hz:p8 xs i=some e)
  (h: ∀b o u,t.rel K u e→D7 K b o u.cells.toList→WL P ops Q N rest ((d,.pointer (some ⟨b,o,none⟩))::E) w)(hx:ev E x=some (.slice a n c):=by rfl)(hy:ev E y=some (.int k i):=by rfl)(hd:Nat.blt d N=true:=by rfl):
  WL P ops Q N (⟨some d,.indexAddr T x y,ty,pos,af,none⟩::rest) E w:=Q8 wn hd hT hU hx hy hs hz h
theorem lp {α:Type}{t:Ty α}{a a2:Option Addr}{n c n2 c2:Nat}{xs ys zs:List α}(hT:P.underlying T=some (.slice U))(hU:TF P U t.size agg zero bytes)(hs:b7 t K a n c xs)(hs2:b7 t K a2 n2 c2 ys)(hz:J5 bytes xs ys=some zs)
  (hS:SH w0 K0 M w K (tail (.slice a n c) U t.size::L))
  (h: ∀a' n' c' w' K',H7 K K'→b7 t K' a' n' c' zs→SH w0 K0 M w' K' (tail (.slice a' n' c') U t.size::L)→WL P ops Q N rest ((d,.slice a' n' c')::E) w')
  (hx:ev E x=some (.slice a n c):=by rfl)(hy:ev E y=some (.slice a2 n2 c2):=by rfl)(hsz:Nat.blt 0 t.size=true:=by rfl)(hzs:zero.cells.size=t.size:=by rfl)(hb:Nat.blt 0 bytes=true:=by rfl)(hd:Nat.blt d N=true:=by rfl):
  WL P ops Q N (⟨some d,.call {callee:=.builtin .append,args:=#[x,y],argTypes:=#[T,T]},ty,pos,af,none⟩::rest) E w:=b5k wn hd hT hU hsz hzs hb hx hy hs hs2 hz hS h
theorem lb {α:Type}(t:Ty α)(u:Value)(cs:List Value)(z:α){parts:List (Nat×Operand)}(hT:P.underlying T=some (.slice U))(hU:TF P U t.size agg zero bytes)(hu:t.rel K u z)(hS:SH w0 K0 M w K L)
  (h: ∀a w' K',H7 K K'→b7 t K' a 1 1 [z]→SH w0 K0 M w' K' (tail (.slice a 1 1) U t.size::L)→WL P ops Q N rest ((d,.slice a 1 1)::E) w')
  (hd:Nat.blt d N=true:=by rfl)(hev:evP E parts=some [(0,u)]:=by rfl)(hn:Nat.blt 0 (1*t.size)=true:=by rfl)(hsm:Nat.ble (1*t.size) 16777216=true:=by rfl)(hc:u.cells.toList++[]=cs:=by rfl)
  (hf:Instr.fill (fun i=>some (i*t.size,t.size)) ((Array.range (1*t.size)).map fun i=>zero.cells[i%zero.cells.size]!) [(0,u)]=some cs.toArray:=by kernel_rfl)(hcl:cs.length=1*t.size:=by rfl):
  WL P ops Q N (⟨some d,.buildSlice T 1 parts.toArray,ty,pos,af,none⟩::rest) E w:=W7 (n:=1) (pv:=[(0,u)]) (cs:=cs) (xs:=[z]) wn hd hT hU hev hn hsm hf rfl hcl (by rw [←hc];exact a06 hu a51) hS h
theorem lc {f:FuncId}{args:List Operand}{ats:Array TypeId}{vs:List Value}{R:Ending→World→Prop}(hf:q9 P f)(hc:Calls P f vs.toArray w R)(h: ∀e w',R e w'→∃v,e= .returned v∧WL P ops Q N rest ((d,v)::E) w')
  (hev:evL E args=some vs:=by rfl)(hd:Nat.blt d N=true:=by rfl):WL P ops Q N (⟨some d,.call {callee:=.value (.func f),args:=args.toArray,argTypes:=ats},ty,pos,af,none⟩::rest) E w:=A7 wn hd (A6 hf hev) hc h
theorem D0 {α:Type}{c:Operand}{a b:Code}{t:Bool}{p q r:α}(hm:cond t p q=r)(hc:ev E c=some (.bool t))(ht:t=true→p=r→WC P a Q N E w)(hf:t=false→q=r→WC P b Q N E w):WC P (.cond c a b) Q N E w:=
 a0n hc (fun e=>ht e (a3w e hm)) fun e=>hf e (a3v e hm)
theorem al (hT:TF P T size agg zero bytes)(hS:SH w0 K0 M w K L)(h: ∀g w',SH w0 K0 M w' K (r5 g zero.cells.toList T::L)→WL P ops Q N rest ((d,.pointer (some ⟨g,0,none⟩))::E) w')(hd:Nat.blt d N=true:=by rfl):
  WL P ops Q N (⟨some d,.alloc T,ty,pos,af,none⟩::rest) E w:=b6N wn hd hT hS h
theorem bx {v:Value}(hx:ev E x=some v)(hS:SH w0 K0 M w K L)(h: ∀g w',SH w0 K0 M w' K (r5 g v.cells.toList T::L)→WL P ops Q N rest ((d,.pointer (some ⟨g,0,none⟩))::E) w')(hd:Nat.blt d N=true:=by rfl):
  WL P ops Q N (⟨some d,.box T x,ty,pos,af,none⟩::rest) E w:=b83 wn hd hx hS h
theorem b0 {α:Type}(t:Ty α)(hT:P.underlying T=some (.slice U))(hU:TF P U t.size agg zero bytes)(hS:SH w0 K0 M w K L)
  (h: ∀a' w' K',H7 K K'→b7 t K' a' 0 0 ([]:List α)→SH w0 K0 M w' K' (tail (.slice a' 0 0) U t.size::L)→WL P ops Q N rest ((d,.slice a' 0 0)::E) w')(hd:Nat.blt d N=true:=by rfl):
  WL P ops Q N (⟨some d,.buildSlice T 0 #[],ty,pos,af,none⟩::rest) E w:=a4F t wn hd hT hU hS h
theorem ki {α:Type}{t:Ty α}{a:Option Addr}{n c:Nat}{xs:List α}{k:IntKind}{i:Int}{e:α}(hT:P.underlying T=some (.slice U))(hU:TF P U t.size agg zero bytes)(hs:b7 t K a n c xs)(hz:p8 xs i=some e)
  (h: ∀b o u,t.rel K u e→D7 K b o u.cells.toList→WQ P ops C Q N rest ((d,.pointer (some ⟨b,o,none⟩))::E))(hx:ev E x=some (.slice a n c):=by rfl)(hy:ev E y=some (.int k i):=by rfl)(hd:Nat.blt d N=true:=by rfl):
  WQ P ops C Q N (⟨some d,.indexAddr T x y,ty,pos,af,none⟩::rest) E:=A8 wn hd hT hU hx hy hs hz h
theorem qd {k:X6→World→Prop}{E':X6}(h:k E' w)(hs:Sub E' E:=by repeat (first | exact trivial | refine And.intro rfl ?_)):QE (Exit.then (a6s N k) Q) .normal N E w:=I6 h hs
theorem qw {σ τ:Type}{f:σ→Option (σ⊕τ)}{m:Nat}{r:τ}{s0:σ}{body:Code}{E':X6}(Inv:σ→X6→World→Prop)(hrun:u0 f m s0=some r)(h0:Inv s0 E' w)
  (hround: ∀s E w r',f s=some r'→(∀x,r'= .inr x→x=r)→Inv s E w→WC P body (Exit.then (a6s N fun E' w'=>∃s',r'= .inl s'∧Inv s' E' w') Q) N E w)(hs:Sub E' E:=by repeat (first | exact trivial | refine And.intro rfl ?_)):WC P (.loop body) Q N E w:=b5j Inv hrun h0 hs hround
theorem qf {σ τ:Type}{f:Nat→σ→Option (σ⊕τ)}{n:Nat}{r:σ⊕τ}{s0:σ}{body:Code}{E':X6}(Inv:Nat→σ→X6→World→Prop)(hrun:y6 f n 0 s0=some r)(h0:Inv 0 s0 E' w)
  (hround: ∀i s E w r',i<n→f i s=some r'→(∀x,r'= .inr x→.inr x=r)→Inv i s E w→WC P body (Exit.then (a6s N fun E' w'=>∃s',r'= .inl s'∧Inv (i+1) s' E' w') Q) N E w)
  (hend: ∀s E w,.inl s=r→Inv n s E w→WC P body (Exit.then (fun _ _=>False) Q) N E w)(hs:Sub E' E:=by repeat (first | exact trivial | refine And.intro rfl ?_)):WC P (.loop body) Q N E w:=b7O Inv hrun h0 hs hround hend
theorem qF {σ:Type}{f:Nat→σ→Option σ}{n:Nat}{r:σ}{s0:σ}{body:Code}{E':X6}(Inv:Nat→σ→X6→World→Prop)(hrun:O6 f n 0 s0=some r)(h0:Inv 0 s0 E' w)
  (hround: ∀i s E w s',i<n→f i s=some s'→Inv i s E w→WC P body (Exit.then (a6s N fun E' w'=>Inv (i+1) s' E' w') Q) N E w)
  (hend: ∀s E w,s=r→Inv n s E w→WC P body (Exit.then (fun _ _=>False) Q) N E w)(hs:Sub E' E:=by repeat (first | exact trivial | refine And.intro rfl ?_)):WC P (.loop body) Q N E w:=b6L Inv hrun h0 hs hround hend
theorem QC.hasObj {g:Nat}{cs:List Value}{w':World}{fr:Nat×Nat}(h:QC w0 K0 M K L w')(hm:r5 g cs T fr∈L):A4 g cs w':=let ⟨_,hS,_⟩:=h;hS.hasObj hm
def pre (m k:Nat):Array Bool:=(List.replicate k true++List.replicate (m-k) false).toArray
theorem b3K {m k i:Nat}(h:k≤m):(pre m k).getD i true=decide (¬(k≤i∧i<m)):=by
 unfold pre
 rw [Array.getD_eq_getD_getElem?,List.getElem?_toArray]
 by_cases h1:i<k
 ·rw [List.getElem?_append_left (by simpa using h1),List.getElem?_replicate,if_pos h1];simp;omega
 ·rw [List.getElem?_append_right (by simp;omega),List.getElem?_replicate,List.length_replicate]
  split
  ·simp;omega
  ·simp;omega
theorem b3L {m k:Nat}(h:k<m):(pre m k).setIfInBounds k true=pre m (k+1):=by
 unfold pre
 apply Array.toList_inj.1
 rw [Array.toList_setIfInBounds]
 show (List.replicate k true++List.replicate (m-k) false).set k true=_
 rw [List.set_append_right _ _ (by simp),List.length_replicate,Nat.sub_self,show m-k=(m-(k+1))+1 by omega,List.replicate_succ,List.set_cons_zero,List.replicate_succ',List.append_assoc];rfl
def WH (P:Program)(ops:Array Oper)(Q:Exit→Act→World→Prop)(H F:World→Prop)(st:Nat)(I:List (Nat×Nat))(N:Nat)(b:Bool)(k:Nat)(rest:List Oper)(E:X6)(w:World):Prop:=
 ops.toList.drop k=rest→(b=true→H w∧(Nat.ble k st=true→F w))→WG P ops Q H F st I N rest.length (pre ops.size k) E w
abbrev b28 (st:Nat)(I:List (Nat×Nat))(m:Nat):Bool:=I.all fun p=>Nat.ble p.1 p.2&&Nat.blt p.2 m
theorem b8a {k m:Nat}(hk:k≤m)(hI:b28 st I m=true)(hH:H w)(hF:Nat.ble k st=true→F w):SG H F st I (pre m k) w:=by
 refine⟨hH,fun h=>hF ?_,fun p hp h=>?_⟩
 ·rw [b3K hk] at h;simp at h;simpa using h.1
 ·rw [b3K hk] at h ⊢
  have:=List.all_eq_true.1 hI p hp
  simp at this h ⊢;omega
theorem wh1 {id:Nat}{l:List Oper}(H F:World→Prop)(st:Nat)(I:List (Nat×Nat))(hm:P.follows .mixedOrders=true)(hH:H w.drew)(hF:Nat.ble 0 st=true→F w.drew)(h:WH P l.toArray Q H F st I N true 0 l E w.drew):WC P (.region id l.toArray true) Q N E w:=by
 refine b02 H F st I hm ?_
 have:=h rfl (fun _=>⟨hH,hF⟩)
 unfold pre at this
 simpa using this
theorem a9E {o:Oper}{k:Nat}(h:ops.toList.drop k=o::rest):k<ops.size∧ops[k]? =some o∧ops.toList.drop (k+1)=rest:=by
 have h1:ops.toList[k]? =some o:=by rw [←List.head?_drop,h];rfl
 refine⟨?_,by simpa using h1,by rw [←List.tail_drop,h];rfl⟩
 have:=g8.1 h1
 simpa using this.1
variable {k:Nat}
theorem gs (S0:World→Prop)(hS0:(∀w,H w→S0 w)∨(a6e I st I.length k=true∧∀w,H w→F w→S0 w))(hwt:H2 ops N E gd)(hd:Nat.blt d N=true)(hr: ∀w',S0 w'→RV P E w' op v)(h:WH P ops Q H F st I N true (k+1) rest ((d,v)::E) w)
  (hsel:Region.noSelect ops=true)(hQ:Q2 Q)(hwa:a3q .any ops I=true)(hist:Nat.beq k st=false)(hI:b28 st I ops.size=true)(hfr:Region.free .any ops (pre ops.size k) k=true)(hrd:(Region.ready .any ops (pre ops.size k)).contains k=true):
  WH P ops Q H F st I N true k (⟨some d,op,ty,pos,af,gd⟩::rest) E w:=fun hdr hb=>by
 obtain⟨h1,h2,h3⟩:=a9E hdr
 have hb:=hb rfl
 exact a13 S0 h2 hsel hQ hwa hist hfr hrd (b3L h1) hS0 (b8a (Nat.le_of_lt h1) hI hb.1 hb.2) hwt hd hr (h h3 fun _=>⟨hb.1,fun e=>hb.2 (by simp at e ⊢;omega)⟩)
theorem gt (hr: ∀{w'},RV P E w' op v)(h:WH P ops Q H F st I N true (k+1) rest ((d,v)::E) w)(hd:Nat.blt d N=true:=by rfl)
  (hsel:Region.noSelect ops=true:=by kernel_rfl)(hQ:Q2 Q:=by exact PkI.h)(hwa:a3q .any ops I=true:=by kernel_rfl)(hist:Nat.beq k st=false:=by rfl)(hI:b28 st I ops.size=true:=by rfl)(hfr:Region.free .any ops (pre ops.size k) k=true:=by kernel_rfl)(hrd:(Region.ready .any ops (pre ops.size k)).contains k=true:=by kernel_rfl):
  WH P ops Q H F st I N true k (⟨some d,op,ty,pos,af,none⟩::rest) E w:=gs (fun _=>True) (.inl fun _ _=>trivial) wn hd (fun _ _=>hr) h hsel hQ hwa hist hI hfr hrd
theorem gh (hr: ∀w',H w'→RV P E w' op v)(h:WH P ops Q H F st I N true (k+1) rest ((d,v)::E) w)(hd:Nat.blt d N=true:=by rfl)
  (hsel:Region.noSelect ops=true:=by kernel_rfl)(hQ:Q2 Q:=by exact PkI.h)(hwa:a3q .any ops I=true:=by kernel_rfl)(hist:Nat.beq k st=false:=by rfl)(hI:b28 st I ops.size=true:=by rfl)(hfr:Region.free .any ops (pre ops.size k) k=true:=by kernel_rfl)(hrd:(Region.ready .any ops (pre ops.size k)).contains k=true:=by kernel_rfl):
  WH P ops Q H F st I N true k (⟨some d,op,ty,pos,af,none⟩::rest) E w:=gs H (.inl fun _ h=>h) wn hd hr h hsel hQ hwa hist hI hfr hrd
theorem gf (hr: ∀w',F w'→RV P E w' op v)(h:WH P ops Q H F st I N true (k+1) rest ((d,v)::E) w)(hd:Nat.blt d N=true:=by rfl)(hre:a6e I st I.length k=true:=by rfl)
  (hsel:Region.noSelect ops=true:=by kernel_rfl)(hQ:Q2 Q:=by exact PkI.h)(hwa:a3q .any ops I=true:=by kernel_rfl)(hist:Nat.beq k st=false:=by rfl)(hI:b28 st I ops.size=true:=by rfl)(hfr:Region.free .any ops (pre ops.size k) k=true:=by kernel_rfl)(hrd:(Region.ready .any ops (pre ops.size k)).contains k=true:=by kernel_rfl):
  WH P ops Q H F st I N true k (⟨some d,op,ty,pos,af,none⟩::rest) E w:=gs F (.inr ⟨hre,fun _ _ h=>h⟩) wn hd hr h hsel hQ hwa hist hI hfr hrd
theorem gi {α:Type}{t:Ty α}{a:Option Addr}{nn c:Nat}{xs:List α}{ki:IntKind}{i:Int}{e:α}(hT:P.underlying T=some (.slice U))(hU:TF P U t.size agg zero bytes)(hs:b7 t K a nn c xs)(hz:p8 xs i=some e)
  (h: ∀b o u,t.rel K u e→D7 K b o u.cells.toList→WH P ops Q H F st I N true (k+1) rest ((d,.pointer (some ⟨b,o,none⟩))::E) w)(hx:ev E x=some (.slice a nn c):=by rfl)(hy:ev E y=some (.int ki i):=by rfl)(hd:Nat.blt d N=true:=by rfl)
  (hsel:Region.noSelect ops=true:=by kernel_rfl)(hQ:Q2 Q:=by exact PkI.h)(hwa:a3q .any ops I=true:=by kernel_rfl)(hist:Nat.beq k st=false:=by rfl)(hI:b28 st I ops.size=true:=by rfl)(hfr:Region.free .any ops (pre ops.size k) k=true:=by kernel_rfl)(hrd:(Region.ready .any ops (pre ops.size k)).contains k=true:=by kernel_rfl):
  WH P ops Q H F st I N true k (⟨some d,.indexAddr T x y,ty,pos,af,none⟩::rest) E w:=by
 obtain⟨b,o,u,h1,h2,h3⟩:=a1i hT hU hx hy hs hz
 exact gs (fun _=>True) (.inl fun _ _=>trivial) wn hd (fun w' _=>h1 w') (h b o u h2 h3) hsel hQ hwa hist hI hfr hrd
theorem gn {b:Bool}{o:Oper}(h:WL P ops (Exit.then (fun a' w'=>SG H F st I (pre ops.size (k+1)) w'∧Z9 P .any ops Q (SG H F st I) rest.length (pre ops.size (k+1)) a' w') Q) N [o] E w)(hrd:Region.ready .any ops (pre ops.size k)=[k]:=by kernel_rfl):
  WH P ops Q H F st I N b k (o::rest) E w:=fun hdr _=>by
 obtain⟨h1,h2,h3⟩:=a9E hdr
 refine a6V hrd h2 ?_
 rw [b3L h1];exact h
theorem qh (hH:H w)(hF:Nat.ble k st=true→F w)(h:WH P ops Q H F st I N true k rest E w)(hI:b28 st I ops.size=true:=by rfl)(hk:Nat.ble k ops.size=true:=by rfl)(hdr:ops.toList.drop k=rest:=by rfl):
  QE (Exit.then (fun a' w'=>SG H F st I (pre ops.size k) w'∧Z9 P .any ops Q (SG H F st I) rest.length (pre ops.size k) a' w') Q) .normal N E w:=fun t ht=>
 ⟨b8a (by simpa using hk) hI hH hF,h hdr (fun _=>⟨hH,hF⟩) t ht⟩
theorem gd' {b:Bool}(h:QE Q .normal N E w)(hrd:Region.ready .any ops (pre ops.size k)=[]:=by kernel_rfl):WH P ops Q H F st I N b k [] E w:=fun _ _=>b03 hrd h
end
end Go.Fk
set_option linter.unusedVariables false
namespace Go.Fk
open Go
set_option linter.unusedSectionVars false
variable [dr:Dr]
section
variable {P:Program}{ops:Array Oper}{Q:Exit→Act→World→Prop}{N:Nat}{E:X6}{w w0:World}{K K0:C7}{M:List Nat}{L:List B8}{H F:World→Prop}{st:Nat}{I:List (Nat×Nat)}
variable {d:Tmp}{op:Op}{ty T T' U:TypeId}{pos:String}{af:Array Edge}{gd:Option (Nat×Bool)}{rest:List Oper}{v:Value}{x y z:Operand}{size bytes:Nat}{agg:Bool}{zero:Value}{C:World→Prop}
theorem bt {α:Type}{b:Bool}{x y r:α}{p:Prop}(h:cond b x y=r)(t:b=true→x=r→p)(f:b=false→y=r→p):p:=by
 cases b with
 | false=>exact f rfl h
 | true=>exact t rfl h
theorem kr {K:C7}:H7 K K:=H7.refl K
theorem b7.rn {α:Type}{t:Ty α}{a:Option Addr}{n c:Nat}{xs:List α}(h:b7 t K a n c xs):j5 (xs.length:Int):=a2L (b7.max h)
theorem SH.s {L':List B8}(h:SH w0 K0 M w K L)(hs:L'.Sublist L:=by repeat (first | exact sz | refine sk ?_ | refine sd ?_)):SH w0 K0 M w K L':=h.sublist hs
theorem ey {fn:Func}{R:Ending→World→Prop}{rv:ResultVar}{v:Value}(hr:fn.results=#[rv])(hR:R (.returned v) w)(h:b5u P w E [rv] [v]:=by exact⟨rfl,trivial⟩):QE (bodyPost P fn R) .ret N E w:=O8 (vs:=[v]) hr h hR
theorem ez {fn:Func}{R:Ending→World→Prop}{t:Tmp}{g:Nat}{cs:List Value}{fr:Nat×Nat}(hr:fn.results=#[.cell t T])(hT:TF P T size true zero bytes)(hS:SH w0 K0 M w K L)(hm:r5 g cs U fr∈L)(hR:R (.returned (.agg cs.toArray)) w)
  (hl:look E t=some (.pointer (some ⟨g,0,none⟩)):=by rfl)(hz:cs.length=size:=by rfl):QE (bodyPost P fn R) .ret N E w:=
 O8 (vs:=[.agg cs.toArray]) hr ⟨⟨g,0,hl,A5 hT (cs:=cs) (fun j c e=>by rw [Nat.zero_add,hS.mem_obj hm];exact e) (.inl ⟨rfl,hz,rfl⟩)⟩,trivial⟩ hR
theorem ci {f:FuncId}{fn:Func}{c:Code}{vs:List Value}{R:Ending→World→Prop}(hf:P.funcs[f]? =some fn)(hb:fn.body=some c)(hN:fn.ntmps=N)(h:WC P c (bodyPost P fn R) N (a5O 0 vs) w)(hle:Nat.ble vs.length N=true:=by rfl):Calls P f vs.toArray w R:=b5z hf hb hN hle h
abbrev RE (k:Value→Prop):Ending→Prop
 | .returned v=>k v
 | _=>False
theorem lk {f:FuncId}{args:List Operand}{ats:Array TypeId}{vs:List Value}{R:Ending→World→Prop}(hf:q9 P f)(hc:Calls P f vs.toArray w R)(h: ∀e w',R e w'→RE (fun v=>WL P ops Q N rest ((d,v)::E) w') e)
  (hev:evL E args=some vs:=by rfl)(hd:Nat.blt d N=true:=by rfl):WL P ops Q N (⟨some d,.call {callee:=.value (.func f),args:=args.toArray,argTypes:=ats},ty,pos,af,none⟩::rest) E w:=
 lc hf hc (fun e w' hr=>by
  have h1:=h e w' hr
  cases e with
  | returned v=>exact⟨v,rfl,h1⟩
  | panicked _=>exact h1.elim
  | outgrown=>exact h1.elim) hev hd
abbrev IV (w0:World)(K0:C7)(M:List Nat)(K1:C7)(E0:X6)(L:List B8)(E:X6)(w:World):Prop:=∃K,E=E0∧SH w0 K0 M w K L∧H7 K1 K
abbrev IW (w0:World)(K0:C7)(M:List Nat)(K1:C7)(E0:X6)(L:List B8)(p:Prop)(E:X6)(w:World):Prop:=∃K,E=E0∧SH w0 K0 M w K L∧H7 K1 K∧p
abbrev IE {σ τ:Type}(o:σ⊕τ)(w0:World)(K0:C7)(M:List Nat)(K1:C7)(E0:X6)(L:List B8)(E:X6)(w:World):Prop:=∃s K,o= .inl s∧E=E0∧SH w0 K0 M w K L∧H7 K1 K
theorem kc {f:FuncId}{args:List Operand}{ats:Array TypeId}{vs:List Value}(hf:q9 P f)
  (hc: ∀w1 K1,SH w0 K0 M w1 K1 L→H7 K K1→Calls P f vs.toArray w1 fun e w2=>∃K2,e= .returned v∧SH w1 K1 [] w2 K2 [])(h:WQ P ops (QC w0 K0 M K L) Q N rest ((d,v)::E))(hev:evL E args=some vs:=by rfl)(hd:Nat.blt d N=true:=by rfl):
  WQ P ops (QC w0 K0 M K L) Q N (⟨some d,.call {callee:=.value (.func f),args:=args.toArray,argTypes:=ats},ty,pos,af,none⟩::rest) E:=
 a7Y (v:=v) wn hd (fun _=>A6 (vs:=vs) hf hev) (fun w1 ⟨K1,hS,hl⟩=>(hc w1 K1 hS hl).mono fun e w' ⟨K',he,hS'⟩=>⟨he,K',hS.call0 hS',hl.trans hS'.le⟩) h
theorem kd {f:FuncId}{args:List Operand}{ats:Array TypeId}{vs:List Value}{R:World→C7→Prop}(hf:q9 P f)
  (hc: ∀w1 K1,SH w0 K0 M w1 K1 L→H7 K K1→Calls P f vs.toArray w1 fun e w2=>∃K2,e= .returned v∧SH w1 K1 [] w2 K2 []∧R w2 K2)(h:WQ P ops (QC w0 K0 M K L) Q N rest ((d,v)::E))(hev:evL E args=some vs:=by rfl)(hd:Nat.blt d N=true:=by rfl):
  WQ P ops (QC w0 K0 M K L) Q N (⟨some d,.call {callee:=.value (.func f),args:=args.toArray,argTypes:=ats},ty,pos,af,none⟩::rest) E:=
 a7Y (v:=v) wn hd (fun _=>A6 (vs:=vs) hf hev) (fun w1 ⟨K1,hS,hl⟩=>(hc w1 K1 hS hl).mono fun e w' ⟨K',he,hS',_⟩=>⟨he,K',hS.call0 hS',hl.trans hS'.le⟩) h
theorem kcg {j gs:Nat}{b want:Bool}{f:FuncId}{args:List Operand}{ats:Array TypeId}{vs:List Value}(hb:b=want)(hf:q9 P f)
  (hc: ∀w1 K1,SH w0 K0 M w1 K1 L→H7 K K1→Calls P f vs.toArray w1 fun e w2=>∃K2,e= .returned v∧SH w1 K1 [] w2 K2 [])(h:WQ P ops (QC w0 K0 M K L) Q N rest ((d,v)::E))(hj:(ops[j]?).bind (·.dst)=some gs:=by rfl)(hE:look E gs=some (.bool b):=by rfl)(hev:evL E args=some vs:=by rfl)(hd:Nat.blt d N=true:=by rfl):
  WQ P ops (QC w0 K0 M K L) Q N (⟨some d,.call {callee:=.value (.func f),args:=args.toArray,argTypes:=ats},ty,pos,af,some (j,want)⟩::rest) E:=
 a7Y (v:=v) (wg hj hE hb) hd (fun _=>A6 (vs:=vs) hf hev) (fun w1 ⟨K1,hS,hl⟩=>(hc w1 K1 hS hl).mono fun e w' ⟨K',he,hS'⟩=>⟨he,K',hS.call0 hS',hl.trans hS'.le⟩) h
theorem kdg {j gs:Nat}{b want:Bool}{f:FuncId}{args:List Operand}{ats:Array TypeId}{vs:List Value}{R:World→C7→Prop}(hb:b=want)(hf:q9 P f)
  (hc: ∀w1 K1,SH w0 K0 M w1 K1 L→H7 K K1→Calls P f vs.toArray w1 fun e w2=>∃K2,e= .returned v∧SH w1 K1 [] w2 K2 []∧R w2 K2)(h:WQ P ops (QC w0 K0 M K L) Q N rest ((d,v)::E))(hj:(ops[j]?).bind (·.dst)=some gs:=by rfl)(hE:look E gs=some (.bool b):=by rfl)(hev:evL E args=some vs:=by rfl)(hd:Nat.blt d N=true:=by rfl):
  WQ P ops (QC w0 K0 M K L) Q N (⟨some d,.call {callee:=.value (.func f),args:=args.toArray,argTypes:=ats},ty,pos,af,some (j,want)⟩::rest) E:=
 a7Y (v:=v) (wg hj hE hb) hd (fun _=>A6 (vs:=vs) hf hev) (fun w1 ⟨K1,hS,hl⟩=>(hc w1 K1 hS hl).mono fun e w' ⟨K',he,hS',_⟩=>⟨he,K',hS.call0 hS',hl.trans hS'.le⟩) h
abbrev V6 (n:Int):Value:=.int .i64 n
abbrev V3 (a:Option Addr)(n c:Nat):Value:=.slice a n c
theorem lw {g o:Nat}{cs:List Value}{fr:Nat×Nat}(cs':List Value)(hT:TF P T size agg zero bytes)(hS:SH w0 K0 M w K (r5 g cs U fr::L))
  (h: ∀w',SH w0 K0 M w' K (r5 g cs' U fr::L)→WL P ops Q N rest E w')(hx:ev E x=some (.pointer (some ⟨g,o,none⟩)):=by rfl)(hy:ev E y=some (.agg cs'.toArray):=by rfl)(hsz:(Value.agg cs'.toArray).cells.size=size:=by rfl)(hones: ∀c∈(Value.agg cs'.toArray).cells.toList,c.oneCell'=true:=by simp [Value.cells,Value.oneCell',sv])
  (hfit:Nat.ble (o+size) cs.length=true:=by rfl)(hcs:H9 cs o (Value.agg cs'.toArray).cells.toList=cs':=by rfl):WL P ops Q N (⟨none,.store T x y,ty,pos,af,none⟩::rest) E w:=ls cs' (.agg cs'.toArray) hT hS h hx hy hsz hones hfit hcs
theorem fl {o f off:Nat}{g:Nat}{cs:List Value}{fr:Nat×Nat}{d2:Tmp}{ty2:TypeId}{pos2:String}{af2:Array Edge}(hF:FF P T f off)(hx:ev E x=some (.pointer (some ⟨g,o,none⟩)))(hT:TF P T' size false zero bytes)(hm:r5 g cs U fr∈L)(hS:SH w0 K0 M w K L)(hv:cs[o+off]? =some v)
  (h:WL P ops Q N rest ((d2,v)::(d,.pointer (some ⟨g,o+off,none⟩))::E) w)(hy:ev ((d,.pointer (some ⟨g,o+off,none⟩))::E) y=some (.pointer (some ⟨g,o+off,none⟩)):=by rfl)(hd:Nat.blt d N=true:=by rfl)(hd2:Nat.blt d2 N=true:=by rfl):
  WL P ops Q N (⟨some d,.fieldAddr T x f,ty,pos,af,none⟩::⟨some d2,.load T' y,ty2,pos2,af2,none⟩::rest) E w:=fa hF hx (lv (x8 hT hy hm hS hv) h hd2) hd
theorem b90 (ht:B3.size=1): ∀xs:List l3,(∀s∈xs,s.length≤maxLen)→∀(i:Nat) z,xs[i]? =some z→∃u,B3.rel K u z∧∀j d,u.cells.toList[j]? =some d→(xs.map sv)[i*B3.size+j]? =some d
 | [],_=>fun i z h=>by simp at h
 | s::xs,hm=>a06 (u:=sv s) (cs:=xs.map sv) ⟨rfl,hm s (.head _)⟩ (b90 ht xs fun s' h=>hm s' (.tail _ h))
theorem bw (xs:List l3){n:Nat}{parts:List (Nat×Operand)}(hT:P.underlying T=some (.slice U))(hU:TF P U B3.size agg zero bytes)(hS:SH w0 K0 M w K L)
  (h: ∀a' w' K',H7 K K'→b7 B3 K' a' n n xs→SH w0 K0 M w' K' (tail (.slice a' n n) U B3.size::L)→WL P ops Q N rest ((d,.slice a' n n)::E) w')
  (hd:Nat.blt d N=true:=by rfl)(hev:evP E parts=some (xs.mapIdx fun i s=>(i,sv s)):=by rfl)(hn:Nat.blt 0 (n*B3.size)=true:=by rfl)(hsm:Nat.ble (n*B3.size) 16777216=true:=by rfl)
  (hf:Instr.fill (fun i=>some (i*B3.size,B3.size)) ((Array.range (n*B3.size)).map fun i=>zero.cells[i%zero.cells.size]!) (xs.mapIdx fun i s=>(i,sv s))=some (xs.map sv).toArray:=by kernel_rfl)(hl:xs.length=n:=by rfl)(hcl:(xs.map sv).length=n*B3.size:=by rfl)
  (hm:(xs.all fun s=>Nat.ble s.length maxLen)=true:=by kernel_rfl):WL P ops Q N (⟨some d,.buildSlice T n parts.toArray,ty,pos,af,none⟩::rest) E w:=
 W7 wn hd hT hU hev hn hsm hf hl hcl (b90 rfl xs fun s h=>by have:=List.all_eq_true.1 hm s h;simpa using this) hS h
def WJ (P:Program)(ops:Array Oper)(Q:Exit→Act→World→Prop)(H F:World→Prop)(st:Nat)(I:List (Nat×Nat))(N n:Nat)(l:Array Bool)(E:X6)(w:World):Prop:=
 SG H F st I l w→WG P ops Q H F st I N n l E w
abbrev okI (I:List (Nat×Nat))(l:Array Bool):Bool:=I.all fun p=>l.getD p.1 true|| !(l.getD p.2 true)
theorem b0D {l:Array Bool}(h:okI I l=true): ∀p∈I,l.getD p.1 true=false→l.getD p.2 true=false:=fun p hp h1=>by
 have:=List.all_eq_true.1 h p hp
 rw [h1] at this
 simpa using this
theorem b7J {l:Array Bool}{i:Nat}(hS:SG H F st I l w)(hist:Nat.beq i st=false)(hI:okI I (l.setIfInBounds i true)=true):SG H F st I (l.setIfInBounds i true) w:=
 ⟨hS.1,fun h=>hS.2.1 (by rwa [getD_set_ne true (by intro e;subst e;simp at hist)] at h),b0D hI⟩
section
variable {n:Nat}{l:Array Bool}
theorem wj0 {id:Nat}{l:List Oper}(H F:World→Prop)(st:Nat)(I:List (Nat×Nat))(hm:P.follows .mixedOrders=true)(hH:H w.drew)(hF:(Array.replicate l.length false).getD st true=false→F w.drew)(h:WJ P l.toArray Q H F st I N l.length (Array.replicate l.length false) E w.drew)
  (hI:okI I (Array.replicate l.length false)=true:=by kernel_rfl):WC P (.region id l.toArray true) Q N E w:=b02 H F st I hm (h ⟨hH,hF,b0D hI⟩)
theorem js (i:Nat)(S0:World→Prop)(hi:ops[i]? =some ⟨some d,op,ty,pos,af,gd⟩)(hS0:(∀w,H w→S0 w)∨(a6e I st I.length i=true∧∀w,H w→F w→S0 w))(hwt:H2 ops N E gd)(hrv: ∀w',S0 w'→RV P E w' op v)
  (h:WJ P ops Q H F st I N n (l.setIfInBounds i true) ((d,v)::E) w)(hd:Nat.blt d N=true)(hsel:Region.noSelect ops=true)(hQ:Q2 Q)(hw:a3q .any ops I=true)(hist:Nat.beq i st=false)(hI:okI I (l.setIfInBounds i true)=true)
  (hf:Region.free .any ops l i=true)(hr:(Region.ready .any ops l).contains i=true):WJ P ops Q H F st I N (n+1) l E w:=fun hS=>
 a13 (i:=i) S0 hi hsel hQ hw hist hf hr rfl hS0 hS hwt hd hrv (h (b7J hS hist hI))
theorem jv (i:Nat)(hi:ops[i]? =some ⟨some d,op,ty,pos,af,none⟩)(hrv: ∀{w'},RV P E w' op v)(h:WJ P ops Q H F st I N n (l.setIfInBounds i true) ((d,v)::E) w)(hd:Nat.blt d N=true:=by rfl)
  (hsel:Region.noSelect ops=true:=by kernel_rfl)(hQ:Q2 Q:=by exact PkI.h)(hw:a3q .any ops I=true:=by kernel_rfl)(hist:Nat.beq i st=false:=by rfl)(hI:okI I (l.setIfInBounds i true)=true:=by kernel_rfl)(hf:Region.free .any ops l i=true:=by kernel_rfl)(hr:(Region.ready .any ops l).contains i=true:=by kernel_rfl):
  WJ P ops Q H F st I N (n+1) l E w:=js i (fun _=>True) hi (.inl fun _ _=>trivial) wn (fun _ _=>hrv) h hd hsel hQ hw hist hI hf hr
theorem jh (i:Nat)(hi:ops[i]? =some ⟨some d,op,ty,pos,af,none⟩)(hrv: ∀w',H w'→RV P E w' op v)(h:WJ P ops Q H F st I N n (l.setIfInBounds i true) ((d,v)::E) w)(hd:Nat.blt d N=true:=by rfl)
  (hsel:Region.noSelect ops=true:=by kernel_rfl)(hQ:Q2 Q:=by exact PkI.h)(hw:a3q .any ops I=true:=by kernel_rfl)(hist:Nat.beq i st=false:=by rfl)(hI:okI I (l.setIfInBounds i true)=true:=by kernel_rfl)(hf:Region.free .any ops l i=true:=by kernel_rfl)(hr:(Region.ready .any ops l).contains i=true:=by kernel_rfl):
  WJ P ops Q H F st I N (n+1) l E w:=js i H hi (.inl fun _ h=>h) wn hrv h hd hsel hQ hw hist hI hf hr
theorem ji {α:Type}{t:Ty α}{a:Option Addr}{nn c:Nat}{xs:List α}{ki:IntKind}{q:Int}{e:α}(i:Nat)(hi:ops[i]? =some ⟨some d,.indexAddr T x y,ty,pos,af,none⟩)(hT:P.underlying T=some (.slice U))(hU:TF P U t.size agg zero bytes)(hs:b7 t K a nn c xs)(hz:p8 xs q=some e)
  (h: ∀b o u,t.rel K u e→D7 K b o u.cells.toList→WJ P ops Q H F st I N n (l.setIfInBounds i true) ((d,.pointer (some ⟨b,o,none⟩))::E) w)(hx:ev E x=some (.slice a nn c):=by rfl)(hy:ev E y=some (.int ki q):=by rfl)(hd:Nat.blt d N=true:=by rfl)
  (hsel:Region.noSelect ops=true:=by kernel_rfl)(hQ:Q2 Q:=by exact PkI.h)(hw:a3q .any ops I=true:=by kernel_rfl)(hist:Nat.beq i st=false:=by rfl)(hI:okI I (l.setIfInBounds i true)=true:=by kernel_rfl)(hf:Region.free .any ops l i=true:=by kernel_rfl)(hr:(Region.ready .any ops l).contains i=true:=by kernel_rfl):
  WJ P ops Q H F st I N (n+1) l E w:=by
 obtain⟨b,o,u,h1,h2,h3⟩:=a1i hT hU hx hy hs hz
 exact js i (fun _=>True) hi (.inl fun _ _=>trivial) wn (fun w' _=>h1 w') (h b o u h2 h3) hd hsel hQ hw hist hI hf hr
theorem jn (hH:H w)(hF:l.getD st true=false→F w)(h:WJ P ops Q H F st I N n l E w)(hI:okI I l=true:=by kernel_rfl):
  WL P ops (Exit.then (fun a' w'=>SG H F st I l w'∧Z9 P .any ops Q (SG H F st I) n l a' w') Q) N [] E w:=i5 fun t ht=>⟨⟨hH,hF,b0D hI⟩,h ⟨hH,hF,b0D hI⟩ t ht⟩
theorem j1 (i:Nat){o:Oper}(hi:ops[i]? =some o)(h:WL P ops (Exit.then (fun a' w'=>SG H F st I (l.setIfInBounds i true) w'∧Z9 P .any ops Q (SG H F st I) n (l.setIfInBounds i true) a' w') Q) N [o] E w)(hr:Region.ready .any ops l=[i]:=by kernel_rfl):
  WJ P ops Q H F st I N (n+1) l E w:=fun _=>a6V hr hi h
theorem j2 (i j:Nat){o o':Oper}(hi:ops[i]? =some o)(hj:ops[j]? =some o')(h:WL P ops (Exit.then (fun a' w'=>SG H F st I (l.setIfInBounds i true) w'∧Z9 P .any ops Q (SG H F st I) n (l.setIfInBounds i true) a' w') Q) N [o] E w)
  (h':WL P ops (Exit.then (fun a' w'=>SG H F st I (l.setIfInBounds j true) w'∧Z9 P .any ops Q (SG H F st I) n (l.setIfInBounds j true) a' w') Q) N [o'] E w)(hr:Region.ready .any ops l=[i,j]:=by kernel_rfl):
  WJ P ops Q H F st I N (n+1) l E w:=fun _=>b7Q hr rfl ⟨⟨_,hi,h⟩,⟨_,hj,h'⟩,trivial⟩
theorem jd (h:QE Q .normal N E w)(hr:Region.ready .any ops l=[]:=by kernel_rfl):WJ P ops Q H F st I N 0 l E w:=fun _=>b03 hr h
theorem R1 (hx:ev E x=some (V6 0)):RV P E w (.assign x) (V6 0):=r4 hx
theorem M7 (hx:ev E x=some (.bool false)):RV P E w (.assign x) (.bool false):=r4 hx
theorem r_t (hx:ev E x=some (.bool true)):RV P E w (.assign x) (.bool true):=r4 hx
theorem r_n (hx:ev E x=some (V3 none 0 0)):RV P E w (.assign x) (V3 none 0 0):=r4 hx
theorem r_s (hx:ev E x=some (sv [])):RV P E w (.assign x) (sv []):=r4 hx
theorem r_m (hx:ev E x=some (V6 0)):RV P E w (.move x) (V6 0):=i4 hx
theorem L1 {c:Operand}{b:Bool}(hc:ev E c=some (.bool b))(hb:b=true)(hx:ev E x=some (.bool true)):RV P E w (.pick c x y) (.bool true):=q8 hc hb hx
theorem X8 {c:Operand}{b:Bool}(hc:ev E c=some (.bool b))(hb:b=false)(hy:ev E y=some (.bool false)):RV P E w (.pick c x y) (.bool false):=m9 hc hb hy
theorem R3:j5 0:=by decide
abbrev T_ (_:World):Prop:=True
theorem j_o (hH:H w)(h:WJ P ops Q H T_ st I N n l E w)(hI:okI I l=true:=by kernel_rfl):
  WL P ops (Exit.then (fun a' w'=>SG H T_ st I l w'∧Z9 P .any ops Q (SG H T_ st I) n l a' w') Q) N [] E w:=jn hH (fun _=>trivial) h hI
theorem j_0 {id:Nat}{l:List Oper}(H:World→Prop)(st:Nat)(I:List (Nat×Nat))(hm:P.follows .mixedOrders=true)(hH:H w.drew)(h:WJ P l.toArray Q H T_ st I N l.length (Array.replicate l.length false) E w.drew)
  (hI:okI I (Array.replicate l.length false)=true:=by kernel_rfl):WC P (.region id l.toArray true) Q N E w:=wj0 H T_ st I hm hH (fun _=>trivial) h hI
abbrev L_ (n i:Nat):Array Bool:=(List.replicate (i+1) true++List.replicate (n-i-1) false).toArray
abbrev R_b (w:World)(K:C7)(r:Bool):Ending→World→Prop:=fun e w'=>∃K',e= .returned (.bool r)∧SH w K [] w' K' []
abbrev R_i (w:World)(K:C7)(r:Int):Ending→World→Prop:=fun e w'=>∃K',e= .returned (V6 r)∧SH w K [] w' K' []∧j5 r
theorem J2 {f:FuncId}{fn:Func}(h:P.funcs[f]? =some fn)(hn:(fn.name== "runtime.NumGoroutine")=false:=by kernel_rfl)(hb:fn.body.isNone=false:=by kernel_rfl):q9 P f:=⟨fn,h,hn,hb⟩
theorem t_w (h:(P.info? T).map (fun i=>(i.zero,i.size,i.bytes))=some (some zero,size,bytes):=by kernel_rfl)(hu:(P.underlying T).map b8m=some agg:=by kernel_rfl):TF P T size agg zero bytes:=⟨h,hu⟩
theorem f_w {f off:Nat}(h:(match P.underlying T with
 | some (.struct fs)=>(match fs[f]? with | some fd=>some (fd.offset,Nat.blt 0 (P.cellsOf fd.type)) | none=>none)
 | _=>none)=some (off,true):=by kernel_rfl):FF P T f off:=h
end
end
end Go.Fk
