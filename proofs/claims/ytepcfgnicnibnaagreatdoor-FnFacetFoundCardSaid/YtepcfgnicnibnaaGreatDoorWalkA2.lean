/-
 Walks of the functions. Printed by gen.py.
-/
import Derived.Test.YtepcfgnicnibnaaGreatDoorFacts
set_option linter.unusedVariables false
set_option linter.unusedSectionVars false
set_option maxRecDepth 100000
namespace Go.Proofs.YtepcfgnicnibnaaGreatDoor
set_option maxHeartbeats 4000000
open Go Go.Fk Go.RowKit Tryz
variable (F:Nat){w:World}{K:F0}{Z:List Nat}{g1 g2 g3:Nat}{A B C D G H I J O R S T:Option Addr}{a b c d f i k l m n o p q s v x y aa ab ac ad ae af ag:Nat}
variable [dr:Dr]

theorem a4N {q0:List UInt8}{r:z2}(hS:SH w K [] w K [])(c:b7 tU8 K A a b q0)(hm:Y2 F q0=some r):
  Calls prog 40 #[V3 A a b] w fun e w'=>∃g_1 a_2 n_3 c_4 K',e= .returned (.pointer (some ⟨g_1,0,none⟩))∧SH w K [] w' K' [u9 g_1 [V3 a_2 n_3 c_4,V6 r.p_] 156]∧b7 tU8 K' a_2 n_3 c_4 r.b_∧i7 r.p_:=by
 rw [Y2] at hm
 refine ci func40 u ntmps40 (sr (lv (x8 (v:=.pointer none) u) (P6 (mv u (lv (q7 underlying22 u c) (lv (F9 u u) (nq (P1 u (fun d=>?_) (fun d=>?_)))))))))
 ·have f:=Z8 d hm
  refine j3 (mv u ?_)
  obtain⟨G,q,s⟩:=ob f
  refine a63 (t:=tU8) wn u underlying22 tf5 u u c q fun i k l x=>(av u (nr (mv u (lv (D3 (cs:=#[V3 i k l,V6 0]) c4B c4F u (by kernel_rfl)) (bx u hS fun m H y=>?_)))))
  have B:SH _ _ _ _ _ [u9 m [V3 i k l,V6 0] 156]:=y
  refine av u (nq (l3 ?_))
  cases oi s
  exact ey results40 ⟨m,i,k,l,K,u,B,x,M1⟩
 have f:=Z7 d hm
 refine j5 (qr (mv u (lv (D3 (cs:=#[V3 A a b,V6 0]) c4B c4F u (by kernel_rfl)) (bx u hS fun o I C=>?_))))
 have D:SH _ _ _ _ _ [u9 o [V3 A a b,V6 0] 156]:=C
 refine av u (nq (l3 ?_))
 cases oi f
 exact ey results40 ⟨o,A,a,b,K,u,D,c,M1⟩

theorem a54 {q0:List Int}{r:Int}(hS:SH w K [] w K [])(k:b7 C9 K A a b q0)(hm:Q7 F q0=some r):
  Calls prog 67 #[V3 A a b] w (R_i w K r):=by
 rw [Q7] at hm
 refine ci func67 u ntmps67 (sr (lv (N4 u) (nr (lv (N4 u) (P6 (mv u (lv (q7 underlying51 u k) (lv (r_m u) (nq ?_)))))))))
 obtain⟨s,x,d⟩:=ob hm
 refine l6 (IE s w K [] K [(3,V6 0)] []) ?_ ?_
 ·refine j7 ?_
  obtain⟨aa,y,m⟩:=ob x
  refine qf (fun (o:Nat) (q:Unit)=>IV w K [] K [(3,V6 0),(6,V3 A a b),(7,V6 (q0.length:Int)),(8,V6 ((o:Nat):Int))] []) y ⟨K,u,hS,kr⟩ ?_ ?_
  ·rintro o q _ B ab hi23 C D ⟨f,rfl,c,i⟩
   refine sr (lv (s7 u u) (ns (C2 u (b8 (by omega)) (j5 (l4 (p9 (j7 (sr ?_))))))))
   obtain⟨G,H,I⟩:=ob C
   refine li underlying51 E4 (k.mono i) H fun J O ac R S=>?_
   obtain⟨rfl,T⟩:=R
   have U:E9 _ J O [V6 G]:=S
   refine lv (y7 E4 u c (U 0 _ u)) (av u (nr (mv u (mv u (lv (S7 u u) (nq (D4 I u (fun V l=>?_) (fun V l=>?_))))))))
   ·refine sr (mv u (av u (nq (l3 (j6 (g8 (g8 ?_)))))))
    cases oi l
    cases D _ u
    refine j6 (g8 ?_)
    cases oi m
    refine g8 ?_
    cases oi d
    exact ey results67 ⟨f,u,c,T⟩
   refine j5 (x9 (qg (lv (A3 u u (B5 hi23 (b7.max k))) (mv u (i8 ?_)))))
   cases oi l
   exact qd ⟨_,u,f,u,c,i⟩
  rintro q _ B W ⟨f,rfl,c,i⟩
  subst W
  refine sr (lv (s7 u u) (ns (C1 u (c6 (by omega)) (w8 (g6 (g6 (l5 ?_)))))))
  cases oi m
  exact qd ⟨_,f,u,u,c,i⟩
 rintro _ ad ⟨s8,X,rfl,rfl,Y,af⟩
 have d:=F6 d
 refine qr (mv u (av u (nq (l3 ?_))))
 cases oi d
 exact ey results67 ⟨X,u,Y,M1⟩

theorem a2y {q0:Int}{r:Bool}(hS:SH w K [] w K [])(a:i7 q0)(hm:O6 F q0=some r):
  Calls prog 132 #[V6 q0] w (R_b w K r):=by
 rw [O6] at hm
 refine ci func132 u ntmps132 (sr (lv (P2 u) (nr (mv u (mv u (lv (S7 u u) (av u (nq (l3 ?_)))))))))
 cases oi hm
 exact ey results132 ⟨K,u,hS⟩

theorem a1e {q0:Int}{q1:Int}{r:Int}(hS:SH w K [] w K [])(m:i7 q0)(o:i7 q1)(hm:J9 F q0 q1=some r):
  Calls prog 68 #[V6 q0,V6 q1] w (R_i w K r):=by
 rw [J9] at hm
 refine ci func68 u ntmps68 (sr (lv (N4 u) (nr (mv u ?_))))
 obtain⟨J,q,s⟩:=ob hm
 refine lk b86 (a2y F hS.enter0 m q) ?_
 rintro O R ⟨S,rfl,x⟩
 have l:=(hS.c0 x).t0
 refine av u (nr (mv u ?_))
 obtain⟨T,y,A⟩:=ob s
 refine lk b86 (a2y F l.enter0 o y) ?_
 rintro U V ⟨a,rfl,B⟩
 have b:=(l.c0 B).t0
 refine av u (P6 (mv u (nq (D4 A u (fun C c=>?_) (fun C c=>?_)))))
 ·refine p9 (sr (mv u (nq (D4 c u (fun D d=>?_) (fun D d=>?_)))))
  ·refine sr (lv (N4 u) (nq (rr (g8 ?_))))
   cases oi d
   exact ey results68 ⟨a,u,b,M1⟩
  refine j5 (qr (lv (x8 (v:=V6 (-1)) u) (nq (rr ?_))))
  cases oi d
  exact ey results68 ⟨a,u,b,(by decide :i7 (-1))⟩
 refine j5 (qs (sr (mv u (nq (D4 c u (fun G f=>?_) (fun G f=>?_))))))
 ·refine sr (lv (x8 (v:=V6 1) u) (nq (rr ?_)))
  cases oi f
  exact ey results68 ⟨a,u,b,(by decide :i7 1)⟩
 refine j5 (qs (sr (mv u (mv u (lv (s7 u u) (nq (D4 f u (fun H i=>?_) (fun H i=>?_))))))))
 ·refine sr (lv (x8 (v:=V6 (-1)) u) (nq (rr ?_)))
  cases oi i
  exact ey results68 ⟨a,u,b,(by decide :i7 (-1))⟩
 refine j5 (qs (sr (mv u (mv u (lv (F9 u u) (nq (D4 i u (fun I k=>?_) (fun I k=>?_))))))))
 ·refine sr (lv (x8 (v:=V6 1) u) (nq (rr ?_)))
  cases oi k
  exact ey results68 ⟨a,u,b,(by decide :i7 1)⟩
 refine j5 (qr (lv (N4 u) (nq (l3 ?_))))
 cases oi k
 exact ey results68 ⟨a,u,b,M1⟩

theorem a4P {q0:q9}{r:Bool}(hS:SH w K [] w K [])(a:q0.length≤maxLen)(hm:S2 F q0=some r):
  Calls prog 188 #[sv q0] w (R_b w K r):=by
 rw [S2] at hm
 refine ci func188 u ntmps188 (sr (lv (P2 u) (nr (mv u (mv u (lv (a1V u u) (av u (nq (l3 ?_)))))))))
 cases oi hm
 exact ey results188 ⟨K,u,hS⟩

theorem a3X {q0:q9}{q1:q9}{r:Int}(hS:SH w K [] w K [])(m:q0.length≤maxLen)(o:q1.length≤maxLen)(hm:P7 F q0 q1=some r):
  Calls prog 117 #[sv q0,sv q1] w (R_i w K r):=by
 rw [P7] at hm
 refine ci func117 u ntmps117 (sr (lv (N4 u) (nr (mv u ?_))))
 obtain⟨J,q,s⟩:=ob hm
 refine lk c4c (a4P F hS.enter0 m q) ?_
 rintro O R ⟨S,rfl,x⟩
 have l:=(hS.c0 x).t0
 refine av u (nr (mv u ?_))
 obtain⟨T,y,A⟩:=ob s
 refine lk c4c (a4P F l.enter0 o y) ?_
 rintro U V ⟨a,rfl,B⟩
 have b:=(l.c0 B).t0
 refine av u (P6 (mv u (nq (D4 A u (fun C c=>?_) (fun C c=>?_)))))
 ·refine p9 (sr (mv u (nq (D4 c u (fun D d=>?_) (fun D d=>?_)))))
  ·refine sr (lv (N4 u) (nq (rr (g8 ?_))))
   cases oi d
   exact ey results117 ⟨a,u,b,M1⟩
  refine j5 (qr (lv (x8 (v:=V6 (-1)) u) (nq (rr ?_))))
  cases oi d
  exact ey results117 ⟨a,u,b,(by decide :i7 (-1))⟩
 refine j5 (qs (sr (mv u (nq (D4 c u (fun G f=>?_) (fun G f=>?_))))))
 ·refine sr (lv (x8 (v:=V6 1) u) (nq (rr ?_)))
  cases oi f
  exact ey results117 ⟨a,u,b,(by decide :i7 1)⟩
 refine j5 (qs (sr (mv u (mv u (lv (b9K u u) (nq (D4 f u (fun H i=>?_) (fun H i=>?_))))))))
 ·refine sr (lv (x8 (v:=V6 (-1)) u) (nq (rr ?_)))
  cases oi i
  exact ey results117 ⟨a,u,b,(by decide :i7 (-1))⟩
 refine j5 (qs (sr (mv u (mv u (lv (c3L u u) (nq (D4 i u (fun I k=>?_) (fun I k=>?_))))))))
 ·refine sr (lv (x8 (v:=V6 1) u) (nq (rr ?_)))
  cases oi k
  exact ey results117 ⟨a,u,b,(by decide :i7 1)⟩
 refine j5 (qr (lv (N4 u) (nq (l3 ?_))))
 cases oi k
 exact ey results117 ⟨a,u,b,M1⟩

theorem b1X {q0:B1}{q1:B1}{r:Int}(hS:SH w K [] w K [])(H:q0.Field.length≤maxLen)(I:q0.Term.length≤maxLen)(ah:b7 Z0 K A a b q0.Posts)(J:q1.Field.length≤maxLen)(O:q1.Term.length≤maxLen)(ai:b7 Z0 K B c d q1.Posts)(hm:T2 F q0 q1=some r):
  Calls prog 116 #[.agg #[sv q0.Field,sv q0.Term,V3 A a b],.agg #[sv q1.Field,sv q1.Term,V3 B c d]] w (R_i w K r):=by
 rw [T2] at hm
 refine ci func116 rfl ntmps116 (sr (bx rfl hS fun y aj R=>?_))
 have S:SH _ _ _ _ _ [u9 y [sv q0.Field,sv q0.Term,V3 A a b] 104]:=R
 refine bx rfl S fun C ak T=>?_
 have U:SH _ _ _ _ _ [u9 C [sv q1.Field,sv q1.Term,V3 B c d] 104,_]:=T
 refine lv (N4 rfl) (ns ?_)
 have f:=U.drew
 refine j_0 (fun w'=>G8 K w'∧A9 y [sv q0.Field,sv q0.Term,V3 A a b] w'∧A9 C [sv q1.Field,sv q1.Term,V3 B c d] w') 13 [] mixed ⟨f.hasK kr,f.hasObj m1,f.hasObj m0⟩ (jv 0 rfl (c9 a1Q rfl) (jh 1 rfl (fun _ h=>A8 H3 rfl rfl h.2.1) (jv 2 rfl (c9 a1Q rfl) (jh 3 rfl (fun _ h=>A8 H3 rfl rfl h.2.2) (jv 5 rfl (c9 a09 rfl) (jh 6 rfl (fun _ h=>A8 H3 rfl rfl h.2.1) (jv 7 rfl (c9 a09 rfl) (jh 8 rfl (fun _ h=>A8 H3 rfl rfl h.2.2) (j1 4 rfl ?_)))))))))
 obtain⟨i,V,W⟩:=ob hm
 refine lk c36 (a3X F f.enter0 H J V) ?_
 rintro al am ⟨an,rfl,k,X⟩
 have l:=(f.c0 k).t2
 refine R7 ⟨l.hasK k.le,l.hasObj m1,l.hasObj m0⟩ (j1 9 rfl ?_)
 obtain⟨m,Y,aa⟩:=ob W
 refine lk c36 (a3X F l.enter0 I O Y) ?_
 rintro ao ap ⟨aq,rfl,q,ab⟩
 have s:=(l.c0 q).t2
 refine R7 ⟨s.hasK (k.le.trans q.le),s.hasObj m1,s.hasObj m0⟩ (j1 10 rfl (H0 (t:=C9) (n:=2) (pv:=[(0,V6 i),(1,V6 m)]) (cs:=[V6 i,V6 m]) (xs:=[i,m]) wn rfl underlying51 E4 rfl rfl rfl (by kernel_rfl) rfl rfl (E7 (u:=V6 i) (z:=i) ⟨rfl,X⟩ (E7 (u:=V6 m) (z:=m) ⟨rfl,ab⟩ a0o)) s fun ar au aw D ac o=>(R7 ⟨o.hasK ((k.le.trans q.le).trans D),o.hasObj m2,o.hasObj m1⟩ (j1 11 rfl ?_))))
 obtain⟨ax,ad,ae⟩:=ob aa
 refine lk c4R (a54 F o.enter0 ac ad) ?_
 rintro ay az ⟨af,rfl,G,ag⟩
 have x:=(o.c0 G).t3
 refine R7 ⟨x.hasK (((k.le.trans q.le).trans D).trans G.le),x.hasObj m2,x.hasObj m1⟩ (jv 12 rfl (x8 rfl) (jd (l4 (l3 ?_))))
 cases oi ae
 exact ey results116 ⟨af,rfl,x.s,ag⟩

theorem a8D {q0:List Int}{q1:List Int}{r:Bool}(hS:SH w K [] w K [])(i:b7 C9 K A a b q0)(s:b7 C9 K B c d q1)(hm:X8 F q0 q1=some r):
  Calls prog 189 #[V3 A a b,V3 B c d] w (R_b w K r):=by
 rw [X8] at hm
 refine ci func189 u ntmps189 (sr (lv (P2 u) (P6 (mv u (lv (q7 underlying51 u i) (mv u (lv (q7 underlying51 u s) (lv (S7 u u) (nq ?_)))))))))
 refine P1 u (fun l=>?_) (fun l=>?_)
 ·have m:=Z8 l hm
  refine sr (lv (P2 u) (nq (rr ?_)))
  cases oi m
  exact ey results189 ⟨K,u,hS⟩
 have m:=Z7 l hm
 refine j5 (qs (sr (mv u (lv (q7 underlying51 u i) (lv (r_m u) (nq ?_))))))
 obtain⟨I,J,k⟩:=ob m
 refine l6 (IE I w K [] K [] []) ?_ ?_
 ·refine j7 ?_
  obtain⟨aq,O,x⟩:=ob J
  refine qf (fun (y:Nat) (C:Unit)=>IV w K [] K [(0,V3 A a b),(1,V3 B c d),(12,V6 (q0.length:Int)),(13,V6 ((y:Nat):Int))] []) O ⟨K,u,hS,kr⟩ ?_ ?_
  ·rintro y C _ R ar hi29 S T ⟨D,rfl,o,f⟩
   refine sr (lv (s7 u u) (ns (C2 u (b8 (by omega)) (j5 (l4 (p9 (j7 (sr (mv u (av u (ns (E1 mixed (by kernel_rfl) o ?_))))))))))))
   refine km u (km u ?_)
   obtain⟨U,V,W⟩:=ob S
   refine ki underlying51 E4 (i.mono f) V fun X Y au aa ab=>?_
   obtain⟨rfl,aw⟩:=aa
   have ac:E9 _ X Y [V6 U]:=ab
   refine kh (B6 E4 u (ac 0 _ u)) (km u (km u ?_))
   obtain⟨ad,ae,af⟩:=ob W
   refine ki underlying51 E4 (s.mono f) ae fun ag ah ax ai aj=>?_
   obtain⟨rfl,ay⟩:=ai
   have ak:E9 _ ag ah [V6 ad]:=aj
   refine kh (B6 E4 u (ak 0 _ u)) (kv (S7 u u) (B7 ?_))
   rintro az ⟨G,H,al⟩
   refine l4 (D4 af u (fun am q=>?_) (fun am q=>?_))
   ·refine sr (lv (P2 u) (nq (l3 (j6 (g8 (g8 ?_))))))
    cases oi q
    cases T _ u
    refine j6 (g8 ?_)
    cases oi x
    refine g8 ?_
    cases oi k
    exact ey results189 ⟨G,u,H⟩
   refine j5 (x9 (qg (lv (A3 u u (B5 hi29 (b7.max i))) (mv u (i8 ?_)))))
   cases oi q
   exact qd ⟨_,u,G,u,H,(f.trans al)⟩
  rintro C _ R an ⟨D,rfl,o,f⟩
  subst an
  refine sr (lv (s7 u u) (ns (C1 u (c6 (by omega)) (w8 (g6 (g6 (l5 ?_)))))))
  cases oi x
  exact H9 ⟨_,D,u,u,o,f⟩ trivial
 rintro _ aA ⟨aB,ao,rfl,rfl,ap,aC⟩
 have k:=F6 k
 refine qr (lv (r_t u) (nq (l3 ?_)))
 cases oi k
 exact ey results189 ⟨ao,u,ap⟩

theorem b0M {q0:G7}{q1:G7}{r:Bool}(hS:SH w K [] w K [])(J:i7 q0.Doc)(l:b7 C9 K A a b q0.At)(O:i7 q1.Doc)(m:b7 C9 K B c d q1.At)(hm:a1n F q0 q1=some r):
  Calls prog 119 #[.agg #[V6 q0.Doc,V3 A a b],.agg #[V6 q1.Doc,V3 B c d]] w (R_b w K r):=by
 rw [a1n] at hm
 refine ci func119 u ntmps119 (sr (bx u hS fun o R q=>?_))
 have s:SH _ _ _ _ _ [u9 o [V6 q0.Doc,V3 A a b] 174]:=q
 refine bx u s fun x S y=>?_
 have i:SH _ _ _ _ _ [u9 x [V6 q1.Doc,V3 B c d] 174,_]:=y
 refine lv (P2 u) (nr (fl a5N u E4 m1 i u (fl a5N u E4 m0 i u (lv (A6 u u) (mv u (bt hm (fun f k=>?_) (fun f k=>?_)))))))
 ·refine lg f (c9 a4q u) (lg f (u6 a1i u m1 i u) (lg f (c9 a4q u) (lg f (u6 a1i u m0 i u) ?_)))
  obtain⟨T,C,D⟩:=ob k
  refine A0 (wg u u f) u (z7 (vs:=[V3 A a b,V3 B c d]) c6p u) (a8D F i.enter0 l m C) ?_
  rintro U V ⟨G,rfl,H⟩
  refine⟨_,u,?_⟩
  have I:=(i.c0 H).t2
  refine lv (o0 u f u) (av u (nq (l3 ?_)))
  cases oi D
  exact ey results119 ⟨G,u,I.s⟩
 iterate 5 refine lu f ?_
 refine lv (J6 u f u) (av u (nq (l3 ?_)))
 cases oi k
 exact ey results119 ⟨K,u,i.s⟩

theorem a1X {q0:List G7}{q1:List G7}{r:Bool}(hS:SH w K [] w K [])(i:b7 Z0 K A a b q0)(O:b7 Z0 K B c d q1)(hm:G6 F q0 q1=some r):
  Calls prog 118 #[V3 A a b,V3 B c d,.func (.func 119) #[] #[]] w (R_b w K r):=by
 rw [G6] at hm
 refine ci func118 u ntmps118 (sr (lv (P2 u) (P6 (mv u (lv (q7 underlying102 u i) (mv u (lv (q7 underlying102 u O) (lv (S7 u u) (nq ?_)))))))))
 refine P1 u (fun H=>?_) (fun H=>?_)
 ·have I:=Z8 H hm
  refine sr (lv (P2 u) (nq (rr ?_)))
  cases oi I
  exact ey results118 ⟨K,u,hS⟩
 have I:=Z7 H hm
 refine j5 (qs (sr (mv u (lv (q7 underlying102 u i) (lv (r_m u) (nq ?_))))))
 obtain⟨aa,ab,k⟩:=ob I
 refine l6 (IE aa w K [] K [] []) ?_ ?_
 ·refine j7 ?_
  obtain⟨aO,ac,R⟩:=ob ab
  refine qf (fun (S:Nat) (T:Unit)=>IV w K [] K [(1,V3 B c d),(2,.func (.func 119) #[] #[]),(15,V3 A a b),(16,V6 (q0.length:Int)),(17,V6 ((S:Nat):Int))] []) ac ⟨K,u,hS,kr⟩ ?_ ?_
  ·rintro S T _ ad aP hi29 ae af ⟨U,rfl,l,f⟩
   refine sr (lv (s7 u u) (ns (C2 u (b8 (by omega)) (j5 (l4 (p9 (j7 (sr (mv u ?_)))))))))
   obtain⟨m,ag,ah⟩:=ob ae
   refine li underlying102 X3 (i.mono f) ag fun ai aj aQ ak am=>?_
   obtain⟨o,q,s,rfl,an,ao⟩:=ak
   have ap:E9 _ ai aj [V6 m.Doc,V3 o q s]:=am
   refine lv (F5 X3 u l ap u) (al X3 l fun aq aR ar=>?_)
   have au:SH _ _ _ _ _ [u9 aq [V6 0,V3 none 0 0] 174]:=ar
   refine av u (lw [V6 m.Doc,V3 o q s] X3 au fun aS V=>(nr (mv u (mv u ?_))))
   obtain⟨x,aw,ax⟩:=ob ah
   refine li underlying102 X3 (O.mono f) aw fun ay az aT aA aB=>?_
   obtain⟨y,C,D,rfl,aC,aD⟩:=aA
   have aE:E9 _ ay az [V6 x.Doc,V3 y C D]:=aB
   refine lv (F5 X3 u V aE u) (al X3 V fun aF aU aG=>?_)
   have aH:SH _ _ _ _ _ [u9 aF [V6 0,V3 none 0 0] 174,_]:=aG
   refine lw [V6 x.Doc,V3 y C D] X3 aH fun aV G=>(nr (mv u (lv (n8 (ds:=[V6 m.Doc,V3 o q s]) X3 u m1 G u u) (lv (n8 (ds:=[V6 x.Doc,V3 y C D]) X3 u m0 G u u) ?_))))
   obtain⟨aW,aI,aJ⟩:=ob ax
   refine A0 wn u (b3D (vs:=[.agg #[V6 m.Doc,V3 o q s],.agg #[V6 x.Doc,V3 y C D]]) (cap:=#[]) c5R u u) (b0M F G.enter0 an ao aC aD aI) ?_
   rintro aX aY ⟨W,rfl,X⟩
   refine⟨_,u,?_⟩
   have Y:=(G.c0 X).t2
   refine lv (A4 u) (nq (D4 aJ u (fun aK J=>?_) (fun aK J=>?_)))
   ·refine sr (lv (P2 u) (nq (l3 (j6 (g8 (g8 ?_))))))
    cases oi J
    cases af _ u
    refine j6 (g8 ?_)
    cases oi R
    refine g8 ?_
    cases oi k
    exact ey results118 ⟨W,u,Y.s⟩
   refine j5 (x9 (qg (lv (A3 u u (B5 hi29 (b7.max i))) (mv u (i8 ?_)))))
   cases oi J
   exact qd ⟨_,u,W,u,Y.s,(f.trans X.le)⟩
  rintro T _ ad aL ⟨U,rfl,l,f⟩
  subst aL
  refine sr (lv (s7 u u) (ns (C1 u (c6 (by omega)) (w8 (g6 (g6 (l5 ?_)))))))
  cases oi R
  exact H9 ⟨_,U,u,u,l,f⟩ trivial
 rintro _ aZ ⟨ba,aM,rfl,rfl,aN,bb⟩
 have k:=F6 k
 refine qr (lv (r_t u) (nq (l3 ?_)))
 cases oi k
 exact ey results118 ⟨aM,u,aN⟩

theorem a9U {q0:B1}{q1:B1}{r:Bool}(hS:SH w K [] w K [])(R:q0.Field.length≤maxLen)(S:q0.Term.length≤maxLen)(o:b7 Z0 K A a b q0.Posts)(T:q1.Field.length≤maxLen)(U:q1.Term.length≤maxLen)(q:b7 Z0 K B c d q1.Posts)(hm:a0I F q0 q1=some r):
  Calls prog 56 #[.agg #[sv q0.Field,sv q0.Term,V3 A a b],.agg #[sv q1.Field,sv q1.Term,V3 B c d]] w (R_b w K r):=by
 rw [a0I] at hm
 refine ci func56 u ntmps56 (sr (bx u hS fun s V x=>?_))
 have y:SH _ _ _ _ _ [u9 s [sv q0.Field,sv q0.Term,V3 A a b] 104]:=x
 refine bx u y fun C W D=>?_
 have f:SH _ _ _ _ _ [u9 C [sv q1.Field,sv q1.Term,V3 B c d] 104,_]:=D
 refine lv (P2 u) (nr (fl a1Q u H3 m1 f u (fl a1Q u H3 m0 f u (lv (M3 u u) (mv u (bt hm (fun i l=>?_) (fun i l=>?_)))))))
 ·refine lg i (c9 a09 u) (lg i (u6 H3 u m1 f u) (lg i (c9 a09 u) (lg i (u6 H3 u m0 f u) (lg i (M3 u u) (lv (o0 u i u) (mv u (bt l (fun k m=>?_) (fun k m=>?_))))))))
  ·refine lg k (c9 Q3 u) (lg k (u6 a1W u m1 f u) (lg k (c9 Q3 u) (lg k (u6 a1W u m0 f u) ?_)))
   obtain⟨X,G,H⟩:=ob m
   refine A0 (wg u u k) u (z7 (vs:=[V3 A a b,V3 B c d,.func (.func 119) #[] #[]]) c5Q u) (a1X F f.enter0 o q G) ?_
   rintro Y aa ⟨I,rfl,J⟩
   refine⟨_,u,?_⟩
   have O:=(f.c0 J).t2
   refine lv (o0 u k u) (av u (nq (l3 ?_)))
   cases oi H
   exact ey results56 ⟨I,u,O.s⟩
  iterate 5 refine lu k ?_
  refine lv (J6 u k u) (av u (nq (l3 ?_)))
  cases oi m
  exact ey results56 ⟨K,u,f.s⟩
 iterate 5 refine lu i ?_
 refine lv (J6 u i u) (mv u ?_)
 iterate 5 refine lu u ?_
 refine lv (J6 u u u) (av u (nq (l3 ?_)))
 cases oi l
 exact ey results56 ⟨K,u,f.s⟩

theorem N8 {q0:S8}{q1:q9}{q2:q9}{r:(List G7)}(hS:SH w K Z w K [u9 g1 [V3 A a b,V3 B c d,V3 C f i,V3 D k l] 160])(aC:b7 D8 K A a b q0.c_.Stops)(aD:b7 L0 K B c d q0.c_.Syns)(aE:b7 F8 K C f i q0.s_.Docs)(O:b7 B8 K D k l q0.s_.Entries)(aF:q1.length≤maxLen)(aG:q2.length≤maxLen)(hm:L6 F q0 q1 q2=some r):
  Calls prog 239 #[.pointer (some ⟨g1,2,none⟩),sv q1,sv q2] w fun e w'=>∃a_1 n_2 c_3 K',e= .returned (V3 a_1 n_2 c_3)∧SH w K Z w' K' [u9 g1 [V3 A a b,V3 B c d,V3 C f i,V3 D k l] 160]∧b7 Z0 K' a_1 n_2 c_3 r:=by
 rw [L6] at hm
 refine ci func239 u ntmps239 (sr (lv (r_n u) (P6 (mv u (lv (B3 u) (fl L4 u a0Y m0 hS u (lv (q7 underlying28 u O) (lv (r_m u) (nq ?_)))))))))
 obtain⟨ab,ac,s⟩:=ob hm
 refine l6 (IE ab w K Z K [(0,.pointer (some ⟨g1,2,none⟩))] [u9 g1 [V3 A a b,V3 B c d,V3 C f i,V3 D k l] 160]) ?_ ?_
 ·refine j7 ?_
  obtain⟨aH,ad,W⟩:=ob ac
  refine qf (fun (R:Nat) (X:Unit)=>IV w K Z K [(0,.pointer (some ⟨g1,2,none⟩)),(1,sv q1),(2,sv q2),(12,V3 D k l),(13,V6 (q0.s_.Entries.length:Int)),(14,V6 ((R:Nat):Int))] [u9 g1 [V3 A a b,V3 B c d,V3 C f i,V3 D k l] 160]) ad ⟨K,u,hS,kr⟩ ?_ ?_
  ·rintro R X _ ae aI hi38 af ag ⟨q,rfl,x,y⟩
   refine sr (lv (s7 u u) (ns (C2 u (b8 (by omega)) (j5 (l4 (p9 (j7 (sr ?_))))))))
   obtain⟨o,ah,ai⟩:=ob af
   refine li underlying28 H6 (O.mono y) ah fun aj ak aJ am an=>?_
   obtain⟨G,H,I,rfl,aK,aL,ao⟩:=am
   have ap:E9 _ aj ak [sv o.Field,sv o.Term,V3 G H I]:=an
   refine lv (F5 H6 u x ap u) (al H6 x fun S aM aq=>?_)
   have ar:SH _ _ _ _ _ [u9 S [sv [],sv [],V3 none 0 0] 104,_]:=aq
   refine lw [sv o.Field,sv o.Term,V3 G H I] H6 ar fun aN J=>(ns ?_)
   obtain⟨au,aw,ax⟩:=ob ai
   refine l6 (IV w K Z q [(0,.pointer (some ⟨g1,2,none⟩)),(1,sv q1),(2,sv q2),(8,pt S),(12,V3 D k l),(13,V6 (q0.s_.Entries.length:Int)),(14,V6 ((R:Nat):Int)),(27,.bool au)] [u9 g1 [V3 A a b,V3 B c d,V3 C f i,V3 D k l] 160,u9 S [sv o.Field,sv o.Term,V3 G H I] 104]) ?_ ?_
   ·refine j3 (fl a1Q u H3 m0 J u (mv u (lv (M3 u u) (mv u (bt aw (fun m T=>?_) (fun m T=>?_))))))
    ·refine lg m (c9 a09 u) (lg m (u6 H3 u m0 J u) (lg m (i5 u) (lg m (M3 u u) (lv (o0 u m u) (i8 ?_)))))
     cases oi T
     exact qd ⟨q,u,J.f1,kr⟩
    refine lu m (lu m (lu m (lu m (lv (J6 u m u) (i8 ?_)))))
    cases oi T
    exact qd ⟨q,u,J.f1,kr⟩
   rintro _ aO ⟨Y,rfl,U,aa⟩
   refine l4 (D4 ax u (fun ay V=>?_) (fun ay V=>?_))
   ·refine sr (fl Q3 u a1W m1 U u (av u (nq (l3 (j6 (g8 (g8 ?_)))))))
    cases oi V
    cases ag _ u
    refine j6 (g8 ?_)
    cases oi W
    refine g8 ?_
    cases oi s
    exact ey results239 ⟨G,H,I,Y,u,U.s,(ao.mono aa)⟩
   refine j5 (x9 (qg (lv (A3 u u (B5 hi38 (b7.max O))) (mv u (i8 ?_)))))
   cases oi V
   exact qd ⟨_,u,Y,u,U.s,(y.trans aa)⟩
  rintro X _ ae az ⟨q,rfl,x,y⟩
  subst az
  refine sr (lv (s7 u u) (ns (C1 u (c6 (by omega)) (w8 (g6 (g6 (l5 ?_)))))))
  cases oi W
  exact qd ⟨_,q,u,u,x,y⟩
 rintro _ aP ⟨aQ,aA,rfl,rfl,aB,aR⟩
 have s:=F6 s
 refine qr (lv (r_n u) (nq (l3 ?_)))
 cases oi s
 exact ey results239 ⟨none,0,0,aA,u,aB,(b7.nil _ _)⟩

theorem a1J {q0:S8}{q1:q9}{q2:q9}{q3:Int}{r:(List Int)}(hS:SH w K Z w K [u9 g1 [V3 A a b,V3 B c d,V3 C f i,V3 D k l] 160])(V:b7 D8 K A a b q0.c_.Stops)(W:b7 L0 K B c d q0.c_.Syns)(X:b7 F8 K C f i q0.s_.Docs)(Y:b7 B8 K D k l q0.s_.Entries)(aa:q1.length≤maxLen)(ab:q2.length≤maxLen)(aJ:i7 q3)(hm:M8 F q0 q1 q2 q3=some r):
  Calls prog 173 #[.pointer (some ⟨g1,0,none⟩),sv q1,sv q2,V6 q3] w fun e w'=>∃a_1 n_2 c_3 K',e= .returned (V3 a_1 n_2 c_3)∧SH w K Z w' K' [u9 g1 [V3 A a b,V3 B c d,V3 C f i,V3 D k l] 160]∧b7 C9 K' a_1 n_2 c_3 r:=by
 rw [M8] at hm
 refine ci func173 u ntmps173 (sr (lv (r_n u) (P6 (mv u (lv (B3 u) (fa a5L u (mv u (mv u ?_))))))))
 obtain⟨ac,ad,ae⟩:=ob hm
 refine lk b89 (N8 F hS.e1 V W X Y aa ab ad) ?_
 rintro aK aL ⟨af,ag,ah,y,rfl,ai,G⟩
 have aj:=(hS.c1 ai).t1
 refine lv (q7 underlying102 u G) (lv (r_m u) (nq ?_))
 obtain⟨ak,am,m⟩:=ob ae
 refine l6 (IE ak w K Z y [(0,pt g1)] [u9 g1 [V3 A a b,V3 B c d,V3 C f i,V3 D k l] 160]) ?_ ?_
 ·refine j7 ?_
  obtain⟨aM,an,R⟩:=ob am
  refine qf (fun (S:Nat) (T:Unit)=>IV w K Z y [(0,pt g1),(3,V6 q3),(16,V3 af ag ah),(17,V6 (ac.length:Int)),(18,V6 ((S:Nat):Int))] [u9 g1 [V3 A a b,V3 B c d,V3 C f i,V3 D k l] 160]) an ⟨y,u,aj,kr⟩ ?_ ?_
  ·rintro S T _ ao aN hi51 ap aq ⟨o,rfl,q,s⟩
   refine sr (lv (s7 u u) (ns (C2 u (b8 (by omega)) (j5 (l4 (p9 (j7 (sr ?_))))))))
   obtain⟨U,ar,au⟩:=ob ap
   refine li underlying102 X3 (G.mono s) ar fun aw ax aO ay az=>?_
   obtain⟨H,I,J,rfl,aP,aA⟩:=ay
   have aB:E9 _ aw ax [V6 U.Doc,V3 H I J]:=az
   refine lv (F5 X3 u q aB u) (al X3 q fun aC aQ aD=>?_)
   have aE:SH _ _ _ _ _ [u9 aC [V6 0,V3 none 0 0] 174,_]:=aD
   refine lw [V6 U.Doc,V3 H I J] X3 aE fun aR x=>(nr (fl a5N u E4 m0 x u (mv u (lv (A6 u u) (nq (D4 au u (fun aF O=>?_) (fun aF O=>?_)))))))
   ·refine sr (fl a4q u a1i m0 x u (av u (nq (l3 (j6 (g8 (g8 ?_)))))))
    cases oi O
    cases aq _ u
    refine j6 (g8 ?_)
    cases oi R
    refine g8 ?_
    cases oi m
    exact ey results173 ⟨H,I,J,o,u,x.s,aA⟩
   refine j5 (x9 (qg (lv (A3 u u (B5 hi51 (b7.max G))) (mv u (i8 ?_)))))
   cases oi O
   exact qd ⟨_,u,o,u,x.s,s⟩
  rintro T _ ao aG ⟨o,rfl,q,s⟩
  subst aG
  refine sr (lv (s7 u u) (ns (C1 u (c6 (by omega)) (w8 (g6 (g6 (l5 ?_)))))))
  cases oi R
  exact qd ⟨_,o,u,u,q,s⟩
 rintro _ aS ⟨aT,aH,rfl,rfl,aI,aU⟩
 have m:=F6 m
 refine qr (lv (r_n u) (nq (l3 ?_)))
 cases oi m
 exact ey results173 ⟨none,0,0,aH,u,aI,(b7.nil _ _)⟩

theorem a4V {q0:S8}{q1:Int}{r:y5×Bool}(hS:SH w K Z w K [u9 g1 [V3 A a b,V3 B c d,V3 C f i,V3 D k l] 160])(aU:b7 D8 K A a b q0.c_.Stops)(aV:b7 L0 K B c d q0.c_.Syns)(ad:b7 F8 K C f i q0.s_.Docs)(aW:b7 B8 K D k l q0.s_.Entries)(aX:i7 q1)(hm:Q9 F q0 q1=some r):
  Calls prog 220 #[.pointer (some ⟨g1,2,none⟩),V6 q1] w fun e w'=>∃a_2 n_3 c_4 a_6 n_7 c_8 K',e= .returned (.tuple #[.agg #[V6 r.1.Id,V3 a_2 n_3 c_4,V3 a_6 n_7 c_8],.bool r.2])∧SH w K Z w' K' [u9 g1 [V3 A a b,V3 B c d,V3 C f i,V3 D k l] 160]∧i7 r.1.Id∧b7 K5 K' a_2 n_3 c_4 r.1.Fields∧b7 M5 K' a_6 n_7 c_8 r.1.Nums:=by
 rw [Q9] at hm
 refine ci func220 u ntmps220 (sr (al F7 hS fun W aY ax=>?_))
 have ap:SH _ _ _ _ _ [u9 W [V6 0,V3 none 0 0,V3 none 0 0] 67,_]:=ax
 refine lv (P2 u) (P6 (mv u (lv (B3 u) (fl S5 u a4l m1 ap u (lv (q7 underlying27 u ad) (lv (r_m u) (nq ?_)))))))
 obtain⟨ay,az,Y⟩:=ob hm
 refine l6 (fun E' w'=>∃o ae af ag ah ai aj q,ay= .inl o∧E'=[(0,.pointer (some ⟨g1,2,none⟩)),(4,pt W)]∧SH w K Z w' q [u9 g1 [V3 A a b,V3 B c d,V3 C f i,V3 D k l] 160,u9 W [V6 o.Id,V3 ae af ag,V3 ah ai aj] 67]∧I9 K q∧i7 o.Id∧b7 K5 q ae af ag o.Fields∧b7 M5 q ah ai aj o.Nums) ?_ ?_
 ·refine j7 ?_
  obtain⟨aZ,aA,aq⟩:=ob az
  refine qf (fun (ar:Nat) (s:y5) E' w'=>∃x y G H I J m,E'=[(0,.pointer (some ⟨g1,2,none⟩)),(1,V6 q1),(4,pt W),(11,V3 C f i),(12,V6 (q0.s_.Docs.length:Int)),(13,V6 ((ar:Nat):Int))]∧SH w K Z w' m [u9 g1 [V3 A a b,V3 B c d,V3 C f i,V3 D k l] 160,u9 W [V6 s.Id,V3 x y G,V3 H I J] 67]∧I9 K m∧i7 s.Id∧b7 K5 m x y G s.Fields∧b7 M5 m H I J s.Nums) aA ⟨none,0,0,none,0,0,K,u,ap.f1,kr,M1,(b7.nil _ _),(b7.nil _ _)⟩ ?_ ?_
  ·rintro ar s _ aB ba hi60 aC aD ⟨x,y,G,H,I,J,m,rfl,aa,ab,ak,am,an⟩
   refine sr (lv (s7 u u) (ns (C2 u (b8 (by omega)) (j5 (l4 (p9 (j7 (sr ?_))))))))
   obtain⟨X,aE,aF⟩:=ob aC
   refine li underlying27 F7 (ad.mono ab) aE fun aG aH bb aI aJ=>?_
   obtain⟨O,R,S,T,U,V,rfl,aK,aL,aM⟩:=aI
   have aN:E9 _ aG aH [V6 X.Id,V3 O R S,V3 T U V]:=aJ
   refine lv (F5 F7 u aa aN u) (al F7 aa fun aO bc aP=>?_)
   have aQ:SH _ _ _ _ _ [u9 aO [V6 0,V3 none 0 0,V3 none 0 0] 67,_,_]:=aP
   refine lw [V6 X.Id,V3 O R S,V3 T U V] F7 aQ fun bd ac=>(nr (fl S6 u E4 m0 ac u (mv u (lv (A6 u u) (nq (D4 aF u (fun aR ao=>?_) (fun aR ao=>?_)))))))
   ·refine sr (lv (n8 (ds:=[V6 X.Id,V3 O R S,V3 T U V]) F7 u m0 ac u u) (lw [V6 X.Id,V3 O R S,V3 T U V] F7 ac.f2 fun be au=>(lv (r_t u) (nq (l3 (j6 (g8 (g8 ?_))))))))
    cases oi ao
    cases aD _ u
    refine j6 (g8 ?_)
    cases oi aq
    refine g8 ?_
    cases oi Y
    exact R6 (vs:=[_,_]) results220 ⟨⟨_,_,u,A5 F7 (cs:=[V6 X.Id,V3 O R S,V3 T U V]) (fun j c e=>by rw [Nat.zero_add,au.mem_obj m0];exact e) (.inl ⟨u,u,u⟩)⟩,u,trivial⟩ ⟨O,R,S,T,U,V,m,u,au.s,aK,aL,aM⟩
   refine j5 (x9 (qg (lv (A3 u u (B5 hi60 (b7.max ad))) (mv u (i8 ?_)))))
   cases oi ao
   exact qd ⟨_,u,x,y,G,H,I,J,m,u,ac.s,ab,ak,am,an⟩
  rintro s _ aB aS ⟨x,y,G,H,I,J,m,rfl,aa,ab,ak,am,an⟩
  subst aS
  refine sr (lv (s7 u u) (ns (C1 u (c6 (by omega)) (w8 (g6 (g6 (l5 ?_)))))))
  cases oi aq
  exact qd ⟨_,x,y,G,H,I,J,m,u,u,aa,ab,ak,am,an⟩
 rintro _ bf ⟨o,ae,af,ag,ah,ai,aj,q,rfl,rfl,aT,bg,bh,bi,bj⟩
 have Y:=F6 Y
 refine qr (lv (D3 (cs:=#[V6 0,V3 none 0 0,V3 none 0 0]) b5Z F7 u (by kernel_rfl)) (lw [V6 0,V3 none 0 0,V3 none 0 0] F7 aT.f1 fun bk aw=>(lv (P2 u) (nq (l3 ?_)))))
 cases oi Y
 exact R6 (vs:=[_,_]) results220 ⟨⟨_,_,u,A5 F7 (cs:=[V6 0,V3 none 0 0,V3 none 0 0]) (fun j c e=>by rw [Nat.zero_add,aw.mem_obj m0];exact e) (.inl ⟨u,u,u⟩)⟩,u,trivial⟩ ⟨none,0,0,none,0,0,q,u,aw.s,M1,(b7.nil _ _),(b7.nil _ _)⟩

theorem b1S {q0:Int}{q1:Int}{r:Bool}(hS:SH w K [] w K [])(l:i7 q0)(m:i7 q1)(hm:a0D F q0 q1=some r):
  Calls prog 331 #[V6 q0,V6 q1] w (R_b w K r):=by
 rw [a0D] at hm
 refine ci func331 u ntmps331 (sr (lv (P2 u) (nr (mv u ?_))))
 obtain⟨C,o,q⟩:=ob hm
 refine lk b86 (a2y F hS.enter0 l o) ?_
 rintro D G ⟨s,rfl,x⟩
 have c:=(hS.c0 x).t0
 refine mv u (bt q (fun a d=>?_) (fun a d=>?_))
 ·refine lg a (i5 u) ?_
  obtain⟨H,y,A⟩:=ob d
  refine A0 (wg u u a) u (z7 (vs:=[V6 q1]) b86 u) (a2y F c.enter0 m y) ?_
  rintro I J ⟨i,rfl,B⟩
  refine⟨_,u,?_⟩
  have k:=(c.c0 B).t0
  refine lg a (A4 u) (lv (o0 u a u) (mv u (bt A (fun b f=>?_) (fun b f=>?_))))
  ·refine lu b (lu b (lu b (lv (L8 u b u) (av u (nq (l3 ?_))))))
   cases oi f
   exact ey results331 ⟨i,u,k⟩
  refine lg b (i5 u) (lg b (i5 u) (lg b (s7 u u) (lv (o4 u b u) (av u (nq (l3 ?_))))))
  cases oi f
  exact ey results331 ⟨i,u,k⟩
 refine lu a (lu a (lu a (lv (J6 u a u) (mv u (lg u (i5 u) (lg u (i5 u) (lg u (s7 u u) (lv (o4 u u u) (av u ?_)))))))))
 refine nq (l3 ?_)
 cases oi d
 exact ey results331 ⟨s,u,c⟩

theorem a4Q {q0:Int}{r:Bool}(hS:SH w K [] w K [])(a:i7 q0)(hm:X9 F q0=some r):
  Calls prog 332 #[V6 q0] w (R_b w K r):=by
 rw [X9] at hm
 refine ci func332 u ntmps332 (sr (lv (P2 u) (nr (mv u (mv u (lv (S7 u u) (av u (nq (l3 ?_)))))))))
 cases oi hm
 exact ey results332 ⟨K,u,hS⟩

theorem a5u {q0:List Int}{q1:Int}{r:Int×Bool}(hS:SH w K [] w K [])(k:b7 C9 K A a b q0)(J:i7 q1)(hm:N5 F q0 q1=some r):
  Calls prog 324 #[V3 A a b,V6 q1] w fun e w'=>∃K',e= .returned (.tuple #[V6 r.1,.bool r.2])∧SH w K [] w' K' []∧i7 r.1:=by
 rw [N5] at hm
 refine ci func324 u ntmps324 (sr (lv (N4 u) (lv (P2 u) (nr (mv u (lv (q7 underlying51 u k) (av u (nr (mv u ?_)))))))))
 refine lv (N4 u) (av u (ns ?_))
 obtain⟨O,X,Y⟩:=ob hm
 refine l6 (IW w K [] K [(0,V3 A a b),(1,V6 q1),(6,V6 (q0.length:Int)),(7,V6 O)] [] (i7 O)) ?_ ?_
 ·refine j7 ?_
  obtain⟨aX,aa,ab⟩:=ob X
  refine qw (fun (l:Int×Int)=>IW w K [] K [(0,V3 A a b),(1,V6 q1),(6,V6 (q0.length:Int)),(7,V6 l.1),(8,V6 l.2)] [] (i7 l.1∧i7 l.2)) aa ⟨K,u,hS,kr,M1,k.rn⟩ ?_
  rintro l _ aY aZ ac ad ⟨ae,rfl,m,o,R,af⟩
  refine p9 (sr (mv u (mv u (lv (s7 u u) (nq (D4 ac u (fun ag s=>?_) (fun ag s=>?_)))))))
  ·refine j5 (l4 (j7 (sr (mv u (mv u (lv (y4 u u) ?_))))))
   obtain⟨ba,x,ah⟩:=ob s
   refine lv (c5r underlying3 underlying185 u (s6 _) x) ?_
   obtain⟨bb,y,ai⟩:=ob ah
   refine lv (c3M u u y) (lv (c5v underlying185 underlying3 u (b9F (b5L (s6 _) x).2.2 y)) (av u (nr (mv u (mv u ?_)))))
   obtain⟨aj,ak,al⟩:=ob ai
   refine li underlying51 E4 (k.mono o) ak fun am an bc ao ap=>?_
   obtain⟨rfl,aq⟩:=ao
   have ar:E9 _ am an [V6 aj]:=ap
   refine lv (y7 E4 u m (ar 0 _ u)) (mv u ?_)
   obtain⟨bd,au,aw⟩:=ob al
   refine lk c6O (b1S F m.enter0 aq J au) ?_
   rintro be bf ⟨S,rfl,B⟩
   have T:=(m.c0 B).t0
   refine nq (D4 aw u (fun ax C=>?_) (fun ax C=>?_))
   ·refine j3 (mv u (lv (y4 u u) (av u (nb ?_))))
    cases oi C
    exact qd ⟨_,u,S,u,T,(o.trans B.le),(s6 _),af⟩
   refine j3 (mv u (av u (nb ?_)))
   cases oi C
   exact qd ⟨_,u,S,u,T,(o.trans B.le),R,(b9F (b5L (s6 _) x).2.2 y)⟩
  refine w8 (g6 (g6 ?_))
  cases oi s
  cases ad _ u
  refine l5 ?_
  cases oi ab
  exact qd ⟨ae,u,m,o,R⟩
 rintro _ bg ⟨U,rfl,i,V,q⟩
 refine qr (mv u (mv u (mv u (lv (s7 u u) (mv u (bt Y (fun c D=>?_) (fun c D=>?_)))))))
 ·refine lg c (i5 u) (lg c (i5 u) ?_)
  obtain⟨ay,az,aA⟩:=ob D
  refine I3 (t:=C9) (wg u u c) u underlying51 E4 u u (k.mono V) az fun aB aC bh aD aE=>?_
  obtain⟨rfl,bi⟩:=aD
  have aF:E9 _ aB aC [V6 ay]:=aE
  refine lg c (y7 E4 u i (aF 0 _ u)) (lg c (i5 u) (lg c (A6 u u) (lg c (i5 u) (bt aA (fun d G=>?_) (fun d G=>?_)))))
  ·iterate 6 refine lu d ?_
   refine A2 (uu u u) u (A2 (uu u u) u (lu d (lg c (L8 u d u) (lv (o0 u c u) (av u (av u (nq (l3 ?_))))))))
   cases oi G
   exact R6 (vs:=[_,_]) results324 ⟨u,u,trivial⟩ ⟨U,u,i,q⟩
  refine lg d (i5 u) (lg d (i5 u) ?_)
  obtain⟨W,aG,aH⟩:=ob G
  refine I3 (t:=C9) (wg u u d) u underlying51 E4 u u (k.mono V) aG fun aI aJ bj aK aL=>?_
  obtain⟨rfl,aM⟩:=aK
  have aN:E9 _ aI aJ [V6 W]:=aL
  refine lg d (y7 E4 u i (aN 0 _ u)) ?_
  obtain⟨bk,aO,aP⟩:=ob aH
  refine A0 (wg u u d) u (z7 (vs:=[V6 W]) c4r u) (a4Q F i.enter0 aM aO) ?_
  rintro bl bm ⟨aQ,rfl,aR⟩
  refine⟨_,u,?_⟩
  have H:=(i.c0 aR).t0
  refine lg d (i5 u) (bt aP (fun f I=>?_) (fun f I=>?_))
  ·refine lg f (i5 u) ?_
   obtain⟨bn,aS,aT⟩:=ob I
   refine A0 (wg u u f) u (z7 (vs:=[V6 q1]) c4r u) (a4Q F H.enter0 J aS) ?_
   rintro bo bp ⟨aU,rfl,aV⟩
   refine⟨_,u,?_⟩
   have aW:=(H.c0 aV).t0
   refine lg d (o0 u f u) (lg c (o4 u d u) (lv (o0 u c u) (av u (av u (nq (l3 ?_))))))
   cases oi aT
   exact R6 (vs:=[_,_]) results324 ⟨u,u,trivial⟩ ⟨aU,u,aW,q⟩
  refine lu f (lu f (lg d (J6 u f u) (lg c (o4 u d u) (lv (o0 u c u) (av u (av u (nq (l3 ?_))))))))
  cases oi I
  exact R6 (vs:=[_,_]) results324 ⟨u,u,trivial⟩ ⟨aQ,u,H,q⟩
 iterate 7 refine lu c ?_
 refine A2 (uu u u) u (A2 (uu u u) u (A2 (uu u u) u (A2 (uu u u) u (A2 (uu u u) u (A2 (uu u u) u (A2 (uu u u) u (A2 (uu u u) u (A2 (uu u u) u (lu c ?_)))))))))
 refine lv (J6 u c u) (av u (av u (nq (l3 ?_))))
 cases oi D
 exact R6 (vs:=[_,_]) results324 ⟨u,u,trivial⟩ ⟨U,u,i,q⟩

theorem b5N {q0:List Int}{q1:Int}{r:Int×Bool}(hS:SH w K [] w K [])(c:b7 C9 K A a b q0)(l:i7 q1)(hm:a4z F q0 q1=some r):
  Calls prog 291 #[V3 A a b,V6 q1] w fun e w'=>∃K',e= .returned (.tuple #[V6 r.1,.bool r.2])∧SH w K [] w' K' []∧i7 r.1:=by
 rw [a4z] at hm
 refine ci func291 u ntmps291 (sr (lv (N4 u) (lv (P2 u) (nr (mv u (mv u ?_))))))
 obtain⟨J,m,o⟩:=ob hm
 refine lk c6N (a5u F hS.enter0 c l m) ?_
 rintro O R ⟨k,rfl,d,S⟩
 have f:=(hS.c0 d).t0
 refine mv u (lv (B2 u u) (lv (B2 u u) (av u (av u (P6 (mv u (mv u (lv (q7 underlying51 u (c.mono d.le)) (lv (A6 u u) ?_)))))))))
 refine nq (D4 o u (fun q i=>?_) (fun q i=>?_))
 ·refine sr (lv (N4 u) (lv (P2 u) (nq (rr ?_))))
  cases oi i
  exact R6 (vs:=[_,_]) results291 ⟨u,u,trivial⟩ ⟨k,u,f,M1⟩
 refine j5 (qr (mv u (mv u ?_)))
 obtain⟨s,x,y⟩:=ob i
 refine li underlying51 E4 (c.mono d.le) x fun B C T D G=>?_
 obtain⟨rfl,H⟩:=D
 have I:E9 _ B C [V6 s]:=G
 refine lv (y7 E4 u f (I 0 _ u)) (av u (lv (r_t u) (nq (l3 ?_))))
 cases oi y
 exact R6 (vs:=[_,_]) results291 ⟨u,u,trivial⟩ ⟨k,u,f,H⟩

theorem a9c {q0:List Int}{q1:List Int}{r:Bool}(hS:SH w K [] w K [])(k:b7 C9 K A a b q0)(x:b7 C9 K B c d q1)(hm:T9 F q0 q1=some r):
  Calls prog 180 #[V3 A a b,V3 B c d] w (R_b w K r):=by
 rw [T9] at hm
 refine ci func180 u ntmps180 (sr (lv (P2 u) (P6 (mv u (lv (q7 underlying51 u k) (mv u (lv (q7 underlying51 u x) (lv (S7 u u) (nq ?_)))))))))
 refine P1 u (fun l=>?_) (fun l=>?_)
 ·have m:=Z8 l hm
  refine sr (lv (P2 u) (nq (rr ?_)))
  cases oi m
  exact ey results180 ⟨K,u,hS⟩
 have m:=Z7 l hm
 refine j5 (qs (sr (lv (N4 u) (nq ?_))))
 obtain⟨I,J,i⟩:=ob m
 refine l6 (IE I w K [] K [] []) ?_ ?_
 ·refine j7 ?_
  obtain⟨ap,O,y⟩:=ob J
  refine qw (fun (o:Int)=>IW w K [] K [(0,V3 A a b),(1,V3 B c d),(5,V6 o)] [] (i7 o)) O ⟨K,u,hS,kr,M1⟩ ?_
  rintro o _ aq ar R C ⟨S,rfl,D,f,au⟩
  refine p9 (sr (mv u (mv u (lv (q7 underlying51 u (k.mono f)) (lv (s7 u u) (nq (D4 R u (fun T q=>?_) (fun T q=>?_))))))))
  ·refine j5 (qs (j7 (p9 (E1 mixed (by kernel_rfl) D (km u (km u ?_))))))
   obtain⟨U,V,W⟩:=ob q
   refine ki underlying51 E4 (k.mono f) V fun X Y aw aa ab=>?_
   obtain⟨rfl,ax⟩:=aa
   have ac:E9 _ X Y [V6 U]:=ab
   refine kh (B6 E4 u (ac 0 _ u)) (km u (km u ?_))
   obtain⟨ad,ae,af⟩:=ob W
   refine ki underlying51 E4 (x.mono f) ae fun ag ah ay ai aj=>?_
   obtain⟨rfl,az⟩:=ai
   have ak:E9 _ ag ah [V6 ad]:=aj
   refine kh (B6 E4 u (ak 0 _ u)) (kv (S7 u u) (B7 ?_))
   rintro aA ⟨G,H,al⟩
   refine l4 (D4 af u (fun am s=>?_) (fun am s=>?_))
   ·refine sr (lv (P2 u) (nq (l3 (j6 (g8 (g8 ?_))))))
    cases oi s
    cases C _ u
    refine j6 (g8 ?_)
    cases oi y
    refine g8 ?_
    cases oi i
    exact ey results180 ⟨G,u,H⟩
   refine j5 (x9 (l4 (j3 (mv u (lv (y4 u u) (av u (i8 ?_)))))))
   cases oi s
   exact qd ⟨_,u,G,u,H,(f.trans al),(s6 _)⟩
  refine w8 (g6 (g6 ?_))
  cases oi q
  cases C _ u
  refine l5 ?_
  cases oi y
  exact H9 ⟨_,S,u,u,D,f⟩ trivial
 rintro _ aB ⟨aC,an,rfl,rfl,ao,aD⟩
 have i:=F6 i
 refine qr (lv (r_t u) (nq (l3 ?_)))
 cases oi i
 exact ey results180 ⟨an,u,ao⟩

theorem a8H {q0:B1}{q1:B1}{r:Bool}(hS:SH w K [] w K [])(bF:q0.Field.length≤maxLen)(bG:q0.Term.length≤maxLen)(x:b7 Z0 K A a b q0.Posts)(bH:q1.Field.length≤maxLen)(bI:q1.Term.length≤maxLen)(G:b7 Z0 K B c d q1.Posts)(hm:Y3 F q0 q1=some r):
  Calls prog 108 #[.agg #[sv q0.Field,sv q0.Term,V3 A a b],.agg #[sv q1.Field,sv q1.Term,V3 B c d]] w (R_b w K r):=by
 rw [Y3] at hm
 refine ci func108 u ntmps108 (sr (bx u hS fun m bJ ac=>?_))
 have ad:SH _ _ _ _ _ [u9 m [sv q0.Field,sv q0.Term,V3 A a b] 104]:=ac
 refine bx u ad fun o bK ae=>?_
 have k:SH _ _ _ _ _ [u9 o [sv q1.Field,sv q1.Term,V3 B c d] 104,_]:=ae
 refine lv (P2 u) (ns (p9 ?_))
 obtain⟨af,ag,ah⟩:=ob hm
 refine l6 (IV w K [] K [(2,pt m),(3,pt o),(26,.bool af)] [u9 m [sv q0.Field,sv q0.Term,V3 A a b] 104,u9 o [sv q1.Field,sv q1.Term,V3 B c d] 104]) ?_ ?_
 ·refine j3 (fl a1Q u H3 m1 k u (fl a1Q u H3 m0 k u (lv (a1V u u) (mv u (bt ag (fun l H=>?_) (fun l H=>?_))))))
  ·iterate 5 refine lu l ?_
   refine lv (L8 u l u) (mv u ?_)
   iterate 7 refine lu u ?_
   refine lv (L8 u u u) (i8 ?_)
   cases oi H
   exact qd ⟨K,u,k.f1,kr⟩
  refine lg l (c9 a09 u) (lg l (u6 H3 u m1 k u) (lg l (c9 a09 u) (lg l (u6 H3 u m0 k u) (lg l (a1V u u) (lv (o4 u l u) (mv u (bt H (fun i I=>?_) (fun i I=>?_))))))))
  ·iterate 7 refine lu i ?_
   refine lv (L8 u i u) (i8 ?_)
   cases oi I
   exact qd ⟨K,u,k.f1,kr⟩
  refine lg i (c9 Q3 u) (lg i (u6 a1W u m1 k u) (lg i (q7 underlying102 u x) (lg i (c9 Q3 u) (lg i (u6 a1W u m0 k u) (lg i (q7 underlying102 u G) (lg i (S7 u u) (lv (o4 u i u) (i8 ?_))))))))
  cases oi I
  exact qd ⟨K,u,k.f1,kr⟩
 rintro _ bL ⟨y,rfl,U,s⟩
 refine l4 (D4 ah u (fun ai J=>?_) (fun ai J=>?_))
 ·refine sr (lv (P2 u) (nq (rr ?_)))
  cases oi J
  exact ey results108 ⟨y,u,U.s⟩
 refine j5 (qs (sr (lv (N4 u) (nq ?_))))
 obtain⟨aj,ak,C⟩:=ob J
 refine l6 (IE aj w K [] y [] []) ?_ ?_
 ·refine j7 ?_
  obtain⟨bM,al,V⟩:=ob ak
  refine qw (fun (D:Int)=>IW w K [] y [(2,pt m),(3,pt o),(5,V6 D)] [u9 m [sv q0.Field,sv q0.Term,V3 A a b] 104,u9 o [sv q1.Field,sv q1.Term,V3 B c d] 104] (i7 D)) al ⟨y,u,U,kr,M1⟩ ?_
  rintro D _ bN bO am W ⟨X,rfl,O,q,bP⟩
  refine p9 (sr (mv u (fl Q3 u a1W m0 O u (lv (q7 underlying102 u (x.mono (s.trans q))) (lv (s7 u u) (nq (D4 am u (fun an R=>?_) (fun an R=>?_))))))))
  ·refine j5 (qs (j7 (p9 ?_)))
   obtain⟨ao,ap,aq⟩:=ob R
   refine l6 (IV w K [] X [(2,pt m),(3,pt o),(5,V6 D),(62,.bool ao)] [u9 m [sv q0.Field,sv q0.Term,V3 A a b] 104,u9 o [sv q1.Field,sv q1.Term,V3 B c d] 104]) ?_ ?_
   ·refine E1 mixed (by kernel_rfl) O (kv (c9 Q3 u) (kh (z6 a1W u m0 u) (km u ?_)))
    obtain⟨ar,au,aw⟩:=ob ap
    refine ki underlying102 X3 (x.mono (s.trans q)) au fun ax ay bQ az aA=>?_
    obtain⟨aB,aC,aD,rfl,bR,bS⟩:=az
    have aE:E9 _ ax ay [V6 ar.Doc,V3 aB aC aD]:=aA
    refine kv (c9 a5N u) (kh (B6 E4 u (aE 0 _ u)) (kv (c9 Q3 u) (kh (z6 a1W u m1 u) (km u ?_))))
    obtain⟨aF,aG,aH⟩:=ob aw
    refine ki underlying102 X3 (G.mono (s.trans q)) aG fun aI aJ bT aK aL=>?_
    obtain⟨aM,aN,aO,rfl,bU,bV⟩:=aK
    have aP:E9 _ aI aJ [V6 aF.Doc,V3 aM aN aO]:=aL
    refine kv (c9 a5N u) (kh (B6 E4 u (aP 0 _ u)) (kv (S7 u u) (km u (bt aH (fun f S=>?_) (fun f S=>?_)))))
    ·iterate 14 refine kn f ?_
     refine kv (L8 u f u) (B7 ?_)
     rintro bW ⟨aQ,aR,aS⟩
     cases oi S
     exact qd ⟨aQ,u,aR,aS⟩
    refine kg f (c9 Q3 u) (kgh f (z6 a1W u m0 u) (kg f (i5 u) ?_))
    obtain⟨aT,aU,aV⟩:=ob S
    refine D2 (t:=Z0) (wg u u f) u underlying102 X3 u u (x.mono (s.trans q)) aU fun aW aX bX aY aZ=>?_
    obtain⟨ba,bb,bc,rfl,bY,bd⟩:=aY
    have be:E9 _ aW aX [V6 aT.Doc,V3 ba bb bc]:=aZ
    refine kg f (c9 a4q u) (kgh f (B6 a1i u (be 1 _ u)) (kg f (c9 Q3 u) (kgh f (z6 a1W u m1 u) (kg f (i5 u) ?_))))
    obtain⟨bf,bg,bh⟩:=ob aV
    refine D2 (t:=Z0) (wg u u f) u underlying102 X3 u u (G.mono (s.trans q)) bg fun bi bj bZ bk bl=>?_
    obtain⟨bm,bn,bo,rfl,ca,bp⟩:=bk
    have bq:E9 _ bi bj [V6 bf.Doc,V3 bm bn bo]:=bl
    refine kg f (c9 a4q u) (kgh f (B6 a1i u (bq 1 _ u)) ?_)
    obtain⟨cb,br,bs⟩:=ob bh
    refine kcg f c6i (fun _ _ bu Y=>(a9c F) bu.enter0 (bd.mono Y) (bp.mono Y) br) (kg f (A4 u) (kv (o4 u f u) (B7 ?_)))
    rintro cc ⟨bv,bz,bA⟩
    cases oi bs
    exact qd ⟨bv,u,bz,bA⟩
   rintro _ cd ⟨aa,rfl,ab,bB⟩
   refine l4 (D4 aq u (fun bC T=>?_) (fun bC T=>?_))
   ·refine sr (lv (P2 u) (nq (l3 (j6 (g8 (g8 ?_))))))
    cases oi T
    cases W _ u
    refine j6 (g8 ?_)
    cases oi V
    refine g8 ?_
    cases oi C
    exact ey results108 ⟨aa,u,ab.s⟩
   refine j5 (x9 (l4 (j3 (mv u (lv (y4 u u) (av u (i8 ?_)))))))
   cases oi T
   exact qd ⟨_,u,aa,u,ab,(q.trans bB),(s6 _)⟩
  refine w8 (g6 (g6 ?_))
  cases oi R
  cases W _ u
  refine l5 ?_
  cases oi V
  exact H9 ⟨_,X,u,u,O.s,q⟩ trivial
 rintro _ ce ⟨cf,bD,rfl,rfl,bE,cg⟩
 have C:=F6 C
 refine qr (lv (r_t u) (nq (l3 ?_)))
 cases oi C
 exact ey results108 ⟨bD,u,bE⟩

theorem a1y {q0:A7}{q1:q9}{q2:q9}{r:(List G7)}(hS:SH w K [] w K [])(aP:b7 F8 K A a b q0.Docs)(m:b7 B8 K B c d q0.Entries)(aQ:q1.length≤maxLen)(aR:q2.length≤maxLen)(hm:a0O F q0 q1 q2=some r):
  Calls prog 194 #[.agg #[V3 A a b,V3 B c d],sv q1,sv q2] w fun e w'=>∃a_1 n_2 c_3 K',e= .returned (V3 a_1 n_2 c_3)∧SH w K [] w' K' []∧b7 Z0 K' a_1 n_2 c_3 r:=by
 rw [a0O] at hm
 refine ci func194 u ntmps194 (sr (bx u hS fun l aS W=>?_))
 have X:SH _ _ _ _ _ [u9 l [V3 A a b,V3 B c d] 30]:=W
 refine lv (r_n u) (P6 (lv (N4 u) (nq ?_)))
 obtain⟨Y,aa,o⟩:=ob hm
 refine l6 (IE Y w K [] K [] []) ?_ ?_
 ·refine j7 ?_
  obtain⟨aT,ab,G⟩:=ob aa
  refine qw (fun (q:Int)=>IW w K [] K [(1,sv q1),(2,sv q2),(3,pt l),(7,V6 q)] [u9 l [V3 A a b,V3 B c d] 30] (i7 q)) ab ⟨K,u,X,kr,M1⟩ ?_
  rintro q _ aU aV ac H ⟨s,rfl,i,k,aW⟩
  refine p9 (sr (mv u (fl L4 u a0Y m0 i u (lv (q7 underlying28 u (m.mono k)) (lv (s7 u u) (nq (D4 ac u (fun ad y=>?_) (fun ad y=>?_))))))))
  ·refine j5 (qs (j7 (p9 ?_)))
   obtain⟨ae,af,ag⟩:=ob y
   refine l6 (IV w K [] s [(1,sv q1),(2,sv q2),(3,pt l),(7,V6 q),(32,.bool ae)] [u9 l [V3 A a b,V3 B c d] 30]) ?_ ?_
   ·refine j3 (fl L4 u a0Y m0 i u (mv u ?_))
    obtain⟨I,ah,ai⟩:=ob af
    refine li underlying28 H6 (m.mono k) ah fun aj ak aX al am=>?_
    obtain⟨an,ao,ap,rfl,aY,aZ,ba⟩:=al
    have aq:E9 _ aj ak [sv I.Field,sv I.Term,V3 an ao ap]:=am
    refine fa a1Q u (lv (y7 H3 u i (aq 0 _ u)) (mv u (lv (M3 u u) (mv u (bt ai (fun f C=>?_) (fun f C=>?_))))))
    ·refine lg f (c9 L4 u) (lg f (u6 a0Y u m0 i u) (lg f (i5 u) ?_))
     obtain⟨J,ar,au⟩:=ob C
     refine I3 (t:=B8) (wg u u f) u underlying28 H6 u u (m.mono k) ar fun aw ax bb ay az=>?_
     obtain⟨aA,aB,aC,rfl,bc,bd,be⟩:=ay
     have aD:E9 _ aw ax [sv J.Field,sv J.Term,V3 aA aB aC]:=az
     refine lg f (c9 a09 u) (lg f (y7 H3 u i (aD 1 _ u)) (lg f (i5 u) (lg f (M3 u u) (lv (o0 u f u) (i8 ?_)))))
     cases oi au
     exact qd ⟨s,u,i,kr⟩
    iterate 8 refine lu f ?_
    refine lv (J6 u f u) (i8 ?_)
    cases oi C
    exact qd ⟨s,u,i,kr⟩
   rintro _ bf ⟨O,rfl,x,R⟩
   refine l4 (D4 ag u (fun aE D=>?_) (fun aE D=>?_))
   ·refine sr (fl L4 u a0Y m0 x u (mv u ?_))
    obtain⟨S,aF,aG⟩:=ob D
    refine li underlying28 H6 (m.mono (k.trans R)) aF fun aH aI bg aJ aK=>?_
    obtain⟨T,U,V,rfl,bh,bi,aL⟩:=aJ
    have aM:E9 _ aH aI [sv S.Field,sv S.Term,V3 T U V]:=aK
    refine fa Q3 u (lv (y7 a1W u x (aM 2 _ u)) (av u (nq (l3 (j6 (g8 (g8 ?_)))))))
    cases oi aG
    cases H _ u
    refine j6 (g8 ?_)
    cases oi G
    refine g8 ?_
    cases oi o
    exact ey results194 ⟨T,U,V,O,u,x.s,aL⟩
   refine j5 (x9 (l4 (j3 (mv u (lv (y4 u u) (av u (i8 ?_)))))))
   cases oi D
   exact qd ⟨_,u,O,u,x,(k.trans R),(s6 _)⟩
  refine w8 (g6 (g6 ?_))
  cases oi y
  cases H _ u
  refine l5 ?_
  cases oi G
  exact H9 ⟨_,s,u,u,i.s,k⟩ trivial
 rintro _ bj ⟨bk,aN,rfl,rfl,aO,bl⟩
 have o:=F6 o
 refine qr (lv (r_n u) (nq (l3 ?_)))
 cases oi o
 exact ey results194 ⟨none,0,0,aN,u,aO,(b7.nil _ _)⟩

theorem a6a {q0:A7}{q1:q9}{q2:q9}{q3:Int}{r:(List Int)}(hS:SH w K [] w K [])(J:b7 F8 K A a b q0.Docs)(O:b7 B8 K B c d q0.Entries)(R:q1.length≤maxLen)(S:q2.length≤maxLen)(aJ:i7 q3)(hm:a05 F q0 q1 q2 q3=some r):
  Calls prog 190 #[.agg #[V3 A a b,V3 B c d],sv q1,sv q2,V6 q3] w fun e w'=>∃a_1 n_2 c_3 K',e= .returned (V3 a_1 n_2 c_3)∧SH w K [] w' K' []∧b7 C9 K' a_1 n_2 c_3 r:=by
 rw [a05] at hm
 refine ci func190 u ntmps190 (sr (bx u hS fun T aK U=>?_))
 have l:SH _ _ _ _ _ [u9 T [V3 A a b,V3 B c d] 30]:=U
 refine lv (r_n u) (nr (lv (n8 (ds:=[V3 A a b,V3 B c d]) F2 u m0 l u u) (mv u (mv u ?_))))
 obtain⟨aL,V,W⟩:=ob hm
 refine lk b6l (a1y F l.enter0 J O R S V) ?_
 rintro aM aN ⟨X,Y,aa,m,rfl,ab,o⟩
 have ac:=(l.c0 ab).t1
 refine av u (P6 (lv (N4 u) (nq ?_)))
 obtain⟨ad,ae,k⟩:=ob W
 refine l6 (IE ad w K [] m [] []) ?_ ?_
 ·refine j7 ?_
  obtain⟨aO,af,C⟩:=ob ae
  have ag:=ac.sb (sd sz)
  refine qw (fun (q:Int)=>IW w K [] m [(3,V6 q3),(9,V3 X Y aa),(10,V6 q)] [] (i7 q)) af ⟨m,u,ag,kr,M1⟩ ?_
  rintro q _ aP aQ ah D ⟨s,rfl,f,i,aR⟩
  refine p9 (sr (mv u (mv u (lv (q7 underlying102 u (o.mono i)) (lv (s7 u u) (nq (D4 ah u (fun ai x=>?_) (fun ai x=>?_))))))))
  ·refine j5 (qs (j7 (sr (mv u (mv u ?_)))))
   obtain⟨aj,ak,al⟩:=ob x
   refine li underlying102 X3 (o.mono i) ak fun am an aS ao ap=>?_
   obtain⟨aq,ar,au,rfl,aT,aU⟩:=ao
   have aw:E9 _ am an [V6 aj.Doc,V3 aq ar au]:=ap
   refine fa a5N u (lv (y7 E4 u f (aw 0 _ u)) (mv u (lv (A6 u u) (nq (D4 al u (fun ax y=>?_) (fun ax y=>?_))))))
   ·refine sr (mv u (mv u ?_))
    obtain⟨ay,az,aA⟩:=ob y
    refine li underlying102 X3 (o.mono i) az fun aB aC aV aD aE=>?_
    obtain⟨G,H,I,rfl,aW,aF⟩:=aD
    have aG:E9 _ aB aC [V6 ay.Doc,V3 G H I]:=aE
    refine fa a4q u (lv (y7 a1i u f (aG 1 _ u)) (av u (nq (l3 (j6 (g8 (g8 ?_)))))))
    cases oi aA
    cases D _ u
    refine j6 (g8 ?_)
    cases oi C
    refine g8 ?_
    cases oi k
    exact ey results190 ⟨G,H,I,s,u,f,aF⟩
   refine j5 (x9 (l4 (j3 (mv u (lv (y4 u u) (av u (i8 ?_)))))))
   cases oi y
   exact qd ⟨_,u,s,u,f,i,(s6 _)⟩
  refine w8 (g6 (g6 ?_))
  cases oi x
  cases D _ u
  refine l5 ?_
  cases oi C
  exact H9 ⟨_,s,u,u,f,i⟩ trivial
 rintro _ aX ⟨aY,aH,rfl,rfl,aI,aZ⟩
 have k:=F6 k
 refine qr (lv (r_n u) (nq (l3 ?_)))
 cases oi k
 exact ey results190 ⟨none,0,0,aH,u,aI,(b7.nil _ _)⟩

theorem b3g (F:Nat): ∀{w:World} {K:F0} {q0:Int} {q1:Int} {r:Int} (hS:SH w K [] w K []) (d:i7 q0) (f:i7 q1) (hm:a0x F q0 q1=some r),
  Calls prog 296 #[V6 q0,V6 q1] w (R_i w K r):=by
 induction F with
 | zero=>intros;rename_i hm;rw [a0x] at hm;cases hm
 | succ F ih=>
  intro w K q0 q1 r hS d f hm
  rw [a0x] at hm
  refine ci func296 u ntmps296 (sr (lv (N4 u) (P6 (mv u (lv (s7 u u) (nq ?_))))))
  obtain⟨i,m,o⟩:=ob hm
  refine l6 (IW w K [] K [(0,V6 i),(1,V6 q1)] [] (i7 i)) ?_ ?_
  ·refine D4 m u (fun q a=>?_) (fun q a=>?_)
   ·refine j3 (mv u (lv (a78 u) (av u (i8 ?_))))
    cases oi a
    exact qd ⟨K,u,hS,kr,(s6 _)⟩
   refine j5 ?_
   cases oi a
   exact qd ⟨K,u,hS,kr,d⟩
  rintro _ I ⟨s,rfl,b,J,k⟩
  refine qs (sr (mv u (lv (A6 u u) (nq (D4 o u (fun x c=>?_) (fun x c=>?_))))))
  ·refine sr (mv u (av u (nq (rr ?_))))
   cases oi c
   exact ey results296 ⟨s,u,b,k⟩
  refine j5 (qr (mv u (mv u (mv u ?_))))
  obtain⟨O,l,y⟩:=ob c
  refine lv (a6U u u l) ?_
  obtain⟨R,A,B⟩:=ob y
  refine lk c4p (ih b.enter0 f (b2E k l) A) ?_
  rintro S T ⟨C,rfl,D,G⟩
  have H:=(b.c0 D).t0
  refine av u (nq (l3 ?_))
  cases oi B
  exact ey results296 ⟨C,u,H,G⟩

theorem b13 {q0:Int}{q1:Int}{r:a6m}(hS:SH w K [] w K [])(s:i7 q0)(v:i7 q1)(hm:a12 F q0 q1=some r):
  Calls prog 259 #[V6 q0,V6 q1] w fun e w'=>∃K',e= .returned (.agg #[V6 r.Up,V6 r.Down])∧SH w K [] w' K' []∧i7 r.Up∧i7 r.Down:=by
 rw [a12] at hm
 refine ci func259 u ntmps259 (sr (al Q1 hS fun g3 S x=>?_))
 have d:SH _ _ _ _ _ [u9 g3 [V6 0,V6 0] 238]:=x
 refine P6 (mv u (lv (s7 u u) (nq ?_)))
 obtain⟨a,y,A⟩:=ob hm
 refine l6 (IW w K [] K [(0,V6 a.1),(1,V6 a.2),(4,pt g3)] [u9 g3 [V6 0,V6 0] 238] (i7 a.1∧i7 a.2)) ?_ ?_
 ·refine D4 y u (fun B b=>?_) (fun B b=>?_)
  ·refine sr (mv u (lv (a78 u) (av u (nq (j3 (mv u (lv (a78 u) (av u (i8 ?_)))))))))
   cases oi b
   exact qd ⟨K,u,d,kr,(s6 _),(s6 _)⟩
  refine j5 ?_
  cases oi b
  exact qd ⟨K,u,d,kr,s,v⟩
 rintro _ T ⟨U,rfl,f,V,C,D⟩
 refine qr (mv u (mv u ?_))
 obtain⟨W,G,H⟩:=ob A
 refine lk c4p (b3g F f.enter0 C D G) ?_
 rintro X Y ⟨i,rfl,I,aa⟩
 have J:=(f.c0 I).t1
 refine av u (ns ?_)
 have k:=J.drew
 refine wh1 (fun w'=>G8 i w') (fun w'=>True) 8 [] mixed (k.hasK kr) (fun _=>trivial) (gt (i5 u) (gt (i5 u) ?_))
 obtain⟨l,m,O⟩:=ob H
 refine gt (a4i u u m) (gt (i5 u) (gt (i5 u) ?_))
 obtain⟨o,q,R⟩:=ob O
 refine gt (a4i u u q) (gt (D3 (cs:=#[V6 l,V6 o]) c4E Q1 u (by kernel_rfl)) (gn (lw [V6 l,V6 o] Q1 k fun ab c=>(i8 (qh (c.hasK kr) (fun _=>trivial) (gd' (l4 (l3 ?_))))))))
 cases oi R
 exact ez results259 Q1 c m0 ⟨i,u,c.s,(a3R m),(a3R q)⟩

theorem b17 {q0:Int}{q1:Int}{r:Int}(hS:SH w K [] w K [])(s:i7 q0)(U:i7 q1)(hm:a15 F q0 q1=some r):
  Calls prog 260 #[V6 q0,V6 q1] w (R_i w K r):=by
 rw [a15] at hm
 refine ci func260 u ntmps260 (sr (lv (N4 u) (nr (lv (N4 u) (ns ?_)))))
 obtain⟨i,x,y⟩:=ob hm
 refine l6 (IW w K [] K [(5,V6 i)] [] (i7 i)) ?_ ?_
 ·refine j7 ?_
  obtain⟨V,A,B⟩:=ob x
  refine qw (fun (b:Int×Int)=>IW w K [] K [(0,V6 b.1),(1,V6 q1),(5,V6 b.2)] [] (i7 b.1∧i7 b.2)) A ⟨K,u,hS,kr,s,M1⟩ ?_
  rintro b _ W X C D ⟨c,rfl,k,l,Y,G⟩
  refine p9 (p9 ?_)
  obtain⟨H,I,J⟩:=ob C
  refine l6 (IV w K [] c [(0,V6 b.1),(1,V6 q1),(5,V6 b.2),(13,.bool H)] []) ?_ ?_
  ·refine j3 (mv u (lv (F9 u u) (mv u (bt I (fun a d=>?_) (fun a d=>?_)))))
   ·refine lg a (i5 u) (lg a (U9 u u) (lg a (i5 u) (lg a (W5 u u) (lv (o0 u a u) (i8 ?_)))))
    cases oi d
    exact qd ⟨c,u,k,kr⟩
   refine lu a (lu a (lu a (lu a (lv (J6 u a u) (i8 ?_)))))
   cases oi d
   exact qd ⟨c,u,k,kr⟩
  rintro _ aa ⟨m,rfl,o,q⟩
  refine l4 (D4 J u (fun O f=>?_) (fun O f=>?_))
  ·refine j5 (l4 (j7 (sr (mv u (lv (U9 u u) (av u (nq (j3 (mv u ?_)))))))))
   refine lv (y4 u u) (av u (nb ?_))
   cases oi f
   exact qd ⟨_,u,m,u,o,(l.trans q),(s6 _),(s6 _)⟩
  refine w8 (g6 (g6 ?_))
  cases oi f
  cases D _ u
  refine l5 ?_
  cases oi B
  exact qd ⟨m,u,o,(l.trans q),G⟩
 rintro _ w9 ⟨R,rfl,S,ac,T⟩
 refine qr (mv u (av u (nq (l3 ?_))))
 cases oi y
 exact ey results260 ⟨R,u,S,T⟩

theorem a1w {q0:Int}{q1:Int}{q2:Int}{q3:Int}{q4:Int}{r:a6m}(hS:SH w K [] w K [])(U:i7 q0)(V:i7 q1)(W:i7 q2)(o:i7 q3)(q:i7 q4)(hm:a16 F q0 q1 q2 q3 q4=some r):
  Calls prog 191 #[V6 q0,V6 q1,V6 q2,V6 q3,V6 q4] w fun e w'=>∃K',e= .returned (.agg #[V6 r.Up,V6 r.Down])∧SH w K [] w' K' []∧i7 r.Up∧i7 r.Down:=by
 rw [a16] at hm
 refine ci func191 u ntmps191 (sr (al Q1 hS fun a X s=>?_))
 have c:SH _ _ _ _ _ [u9 a [V6 0,V6 0] 238]:=s
 refine nr (lv (x8 (v:=V6 1) u) (P6 (mv u (lv (F9 u u) (nq ?_)))))
 obtain⟨d,x,y⟩:=ob hm
 refine l6 (IW w K [] K [(0,V6 q0),(3,V6 q3),(4,V6 q4),(10,pt a),(11,V6 d)] [u9 a [V6 0,V6 0] 238] (i7 d)) ?_ ?_
 ·refine D4 x u (fun A b=>?_) (fun A b=>?_)
  ·refine j3 (mv u (mv u (lv (U9 u u) (lv (U9 u u) (mv u ?_)))))
   obtain⟨Y,f,B⟩:=ob b
   refine lv (a4i u u f) (av u (i8 ?_))
   cases oi B
   exact qd ⟨K,u,c,kr,(a3R f)⟩
  refine j5 ?_
  cases oi b
  exact qd ⟨K,u,c,kr,(by decide :i7 1)⟩
 rintro _ aa ⟨ab,rfl,i,ac,ad⟩
 refine qr (mv u (mv u ?_))
 obtain⟨ae,C,D⟩:=ob y
 refine lk c6G (b17 F i.enter0 q o C) ?_
 rintro af ag ⟨ah,rfl,G,ai⟩
 have k:=(i.c0 G).t1
 refine lv (y4 u u) (lv (U9 u u) (mv u (lv (U9 u u) (mv u (lv (U9 u u) (lv (y4 u u) (mv u (lv (y4 u u) ?_))))))))
 obtain⟨l,H,I⟩:=ob D
 refine lk c6F (b13 F k.enter0 (s6 _) (s6 _) H) ?_
 rintro aj ak ⟨J,rfl,O,R,S⟩
 have T:=(k.c0 O).t1
 refine lw [V6 l.Up,V6 l.Down] Q1 T fun am m=>(nq (l3 ?_))
 cases oi I
 exact ez results191 Q1 m m0 ⟨J,u,m.s,R,S⟩

theorem a7W {q0:A7}{q1:q9}{q2:Int}{r:Int}(hS:SH w K [] w K [])(bX:b7 F8 K A a b q0.Docs)(x:b7 B8 K B c d q0.Entries)(bY:q1.length≤maxLen)(bZ:i7 q2)(hm:a2U F q0 q1 q2=some r):
  Calls prog 192 #[.agg #[V3 A a b,V3 B c d],sv q1,V6 q2] w (R_i w K r):=by
 rw [a2U] at hm
 refine ci func192 u ntmps192 (sr (bx u hS fun i ca ab=>?_))
 have ac:SH _ _ _ _ _ [u9 i [V3 A a b,V3 B c d] 30]:=ab
 refine lv (N4 u) (nr (lv (N4 u) (P6 (lv (N4 u) (nq ?_)))))
 obtain⟨S,ad,ae⟩:=ob hm
 refine l6 (IW w K [] K [(7,V6 S)] [] (i7 S)) ?_ ?_
 ·refine j7 ?_
  obtain⟨cb,af,ag⟩:=ob ad
  refine qw (fun (l:Int×Int)=>IW w K [] K [(1,sv q1),(2,V6 q2),(3,pt i),(7,V6 l.1),(8,V6 l.2)] [u9 i [V3 A a b,V3 B c d] 30] (i7 l.1∧i7 l.2)) af ⟨K,u,ac,kr,M1,M1⟩ ?_
  rintro l _ cc cd ah ai ⟨C,rfl,D,m,T,ce⟩
  refine p9 (sr (mv u (fl L4 u a0Y m0 D u (lv (q7 underlying28 u (x.mono m)) (lv (s7 u u) (nq (D4 ah u (fun aj G=>?_) (fun aj G=>?_))))))))
  ·refine j5 (qs (j7 (sr (lv (N4 u) (nq ?_)))))
   obtain⟨U,ak,al⟩:=ob G
   refine l6 (IW w K [] C [(1,sv q1),(2,V6 q2),(3,pt i),(7,V6 U),(8,V6 l.2)] [u9 i [V3 A a b,V3 B c d] 30] (i7 U)) ?_ ?_
   ·refine j7 ?_
    obtain⟨cf,am,an⟩:=ob ak
    refine qw (fun (o:Int×Int)=>IW w K [] C [(1,sv q1),(2,V6 q2),(3,pt i),(7,V6 o.1),(8,V6 l.2),(9,V6 o.2)] [u9 i [V3 A a b,V3 B c d] 30] (i7 o.1∧i7 o.2)) am ⟨C,u,D,kr,T,M1⟩ ?_
    rintro o _ cg ch ao ap ⟨H,rfl,s,q,V,cj⟩
    refine p9 (p9 ?_)
    obtain⟨aq,ar,au⟩:=ob ao
    refine l6 (IV w K [] H [(1,sv q1),(2,V6 q2),(3,pt i),(7,V6 o.1),(8,V6 l.2),(9,V6 o.2),(35,.bool aq)] [u9 i [V3 A a b,V3 B c d] 30]) ?_ ?_
    ·refine j3 (mv u (fl L4 u a0Y m0 s u (mv u ?_)))
     obtain⟨W,aw,ax⟩:=ob ar
     refine li underlying28 H6 (x.mono (m.trans q)) aw fun ay az ck aA aB=>?_
     obtain⟨aC,aD,aE,rfl,cl,cm,aF⟩:=aA
     have aG:E9 _ ay az [sv W.Field,sv W.Term,V3 aC aD aE]:=aB
     refine fa Q3 u (lv (y7 a1W u s (aG 2 _ u)) (lv (q7 underlying102 u aF) (lv (s7 u u) (mv u (bt ax (fun f I=>?_) (fun f I=>?_))))))
     ·refine lg f (c9 L4 u) (lg f (u6 a0Y u m0 s u) (lg f (i5 u) ?_))
      obtain⟨X,aH,aI⟩:=ob I
      refine I3 (t:=B8) (wg u u f) u underlying28 H6 u u (x.mono (m.trans q)) aH fun aJ aK cn aL aM=>?_
      obtain⟨aN,aO,aP,rfl,cp,cq,cr⟩:=aL
      have aQ:E9 _ aJ aK [sv X.Field,sv X.Term,V3 aN aO aP]:=aM
      refine lg f (c9 a1Q u) (lg f (y7 H3 u s (aQ 0 _ u)) (lg f (i5 u) (lg f (M3 u u) (lv (o0 u f u) (i8 ?_)))))
      cases oi aI
      exact qd ⟨H,u,s,kr⟩
     iterate 8 refine lu f ?_
     refine lv (J6 u f u) (i8 ?_)
     cases oi I
     exact qd ⟨H,u,s,kr⟩
    rintro _ cs ⟨J,rfl,k,y⟩
    refine l4 (D4 au u (fun aR O=>?_) (fun aR O=>?_))
    ·refine j5 (qs (j7 (sr (fl L4 u a0Y m0 k u (mv u ?_)))))
     obtain⟨Y,aS,aT⟩:=ob O
     refine li underlying28 H6 (x.mono ((m.trans q).trans y)) aS fun aU aV ct aW aX=>?_
     obtain⟨aY,aZ,ba,rfl,cu,cv,bb⟩:=aW
     have bc:E9 _ aU aV [sv Y.Field,sv Y.Term,V3 aY aZ ba]:=aX
     refine fa Q3 u (lv (y7 a1W u k (bc 2 _ u)) (mv u ?_))
     obtain⟨bd,be,bf⟩:=ob aT
     refine li underlying102 X3 bb be fun bg bh cw bi bj=>?_
     obtain⟨bk,bl,bm,rfl,cx,cy⟩:=bi
     have bn:E9 _ bg bh [V6 bd.Doc,V3 bk bl bm]:=bj
     refine fa a5N u (lv (y7 E4 u k (bn 0 _ u)) (mv u (lv (A6 u u) (nq (D4 bf u (fun bo R=>?_) (fun bo R=>?_))))))
     ·refine j3 (mv u (fl L4 u a0Y m0 k u (mv u ?_)))
      obtain⟨aa,bp,bq⟩:=ob R
      refine li underlying28 H6 (x.mono ((m.trans q).trans y)) bp fun br bs cz bu bv=>?_
      obtain⟨bz,bA,bB,rfl,cA,cB,bC⟩:=bu
      have bD:E9 _ br bs [sv aa.Field,sv aa.Term,V3 bz bA bB]:=bv
      refine fa Q3 u (lv (y7 a1W u k (bD 2 _ u)) (mv u ?_))
      obtain⟨bE,bF,bG⟩:=ob bq
      refine li underlying102 X3 bC bF fun bH bI cC bJ bK=>?_
      obtain⟨bL,bM,bN,rfl,cD,bO⟩:=bJ
      have bP:E9 _ bH bI [V6 bE.Doc,V3 bL bM bN]:=bK
      refine fa a4q u (lv (y7 a1i u k (bP 1 _ u)) (lv (q7 underlying51 u bO) (lv (y4 u u) (av u (nb (l4 (j3 (mv u (lv (y4 u u) ?_)))))))))
      refine av u (i8 ?_)
      cases oi bG
      exact qd ⟨_,u,J,u,k,(q.trans y),(s6 _),(s6 _)⟩
     refine j5 (x9 (l4 (j3 (mv u (lv (y4 u u) (av u (i8 ?_)))))))
     cases oi R
     exact qd ⟨_,u,J,u,k,(q.trans y),V,(s6 _)⟩
    refine w8 (g6 (g6 ?_))
    cases oi O
    cases ap _ u
    refine l5 ?_
    cases oi an
    exact qd ⟨J,u,k,(q.trans y),V⟩
   rintro _ cE ⟨bQ,rfl,bR,bS,bT⟩
   refine x9 (l4 (j3 (mv u (lv (y4 u u) (av u (i8 ?_))))))
   cases oi al
   exact qd ⟨_,u,bQ,u,bR,(m.trans bS),bT,(s6 _)⟩
  refine w8 (g6 (g6 ?_))
  cases oi G
  cases ai _ u
  refine l5 ?_
  cases oi ag
  exact qd ⟨C,u,D.s,m,T⟩
 rintro _ cF ⟨bU,rfl,bV,cG,bW⟩
 refine qr (mv u (av u (nq (l3 ?_))))
 cases oi ae
 exact ey results192 ⟨bU,u,bV,bW⟩

theorem a4b {q0:A7}{q1:q9}{r:Int}(hS:SH w K [] w K [])(bv:b7 F8 K A a b q0.Docs)(x:b7 B8 K B c d q0.Entries)(bz:q1.length≤maxLen)(hm:a1q F q0 q1=some r):
  Calls prog 193 #[.agg #[V3 A a b,V3 B c d],sv q1] w (R_i w K r):=by
 rw [a1q] at hm
 refine ci func193 u ntmps193 (sr (bx u hS fun i bA X=>?_))
 have Y:SH _ _ _ _ _ [u9 i [V3 A a b,V3 B c d] 30]:=X
 refine lv (N4 u) (nr (lv (N4 u) (P6 (lv (N4 u) (nq ?_)))))
 obtain⟨O,aa,ab⟩:=ob hm
 refine l6 (IW w K [] K [(5,V6 O)] [] (i7 O)) ?_ ?_
 ·refine j7 ?_
  obtain⟨bB,ac,ad⟩:=ob aa
  refine qw (fun (k:Int×Int)=>IW w K [] K [(1,sv q1),(2,pt i),(5,V6 k.1),(6,V6 k.2)] [u9 i [V3 A a b,V3 B c d] 30] (i7 k.1∧i7 k.2)) ac ⟨K,u,Y,kr,M1,M1⟩ ?_
  rintro k _ bC bD ae af ⟨y,rfl,C,m,R,bE⟩
  refine p9 (sr (mv u (fl L4 u a0Y m0 C u (lv (q7 underlying28 u (x.mono m)) (lv (s7 u u) (nq (D4 ae u (fun ag D=>?_) (fun ag D=>?_))))))))
  ·refine j5 (qs (j7 (sr (lv (N4 u) (nq ?_)))))
   obtain⟨S,ah,ai⟩:=ob D
   refine l6 (IW w K [] y [(1,sv q1),(2,pt i),(5,V6 S),(6,V6 k.2)] [u9 i [V3 A a b,V3 B c d] 30] (i7 S)) ?_ ?_
   ·refine j7 ?_
    obtain⟨bF,aj,ak⟩:=ob ah
    refine qw (fun (l:Int×Int)=>IW w K [] y [(1,sv q1),(2,pt i),(5,V6 l.1),(6,V6 k.2),(7,V6 l.2)] [u9 i [V3 A a b,V3 B c d] 30] (i7 l.1∧i7 l.2)) aj ⟨y,u,C,kr,R,M1⟩ ?_
    rintro l _ bG bH al am ⟨G,rfl,o,q,an,bI⟩
    refine p9 (p9 ?_)
    obtain⟨ao,ap,aq⟩:=ob al
    refine l6 (IV w K [] G [(1,sv q1),(2,pt i),(5,V6 l.1),(6,V6 k.2),(7,V6 l.2),(33,.bool ao)] [u9 i [V3 A a b,V3 B c d] 30]) ?_ ?_
    ·refine j3 (mv u (fl L4 u a0Y m0 o u (mv u ?_)))
     obtain⟨T,ar,au⟩:=ob ap
     refine li underlying28 H6 (x.mono (m.trans q)) ar fun aw ax bJ ay az=>?_
     obtain⟨aA,aB,aC,rfl,bK,bL,aD⟩:=ay
     have aE:E9 _ aw ax [sv T.Field,sv T.Term,V3 aA aB aC]:=az
     refine fa Q3 u (lv (y7 a1W u o (aE 2 _ u)) (lv (q7 underlying102 u aD) (lv (s7 u u) (mv u (bt au (fun f H=>?_) (fun f H=>?_))))))
     ·refine lg f (c9 L4 u) (lg f (u6 a0Y u m0 o u) (lg f (i5 u) ?_))
      obtain⟨U,aF,aG⟩:=ob H
      refine I3 (t:=B8) (wg u u f) u underlying28 H6 u u (x.mono (m.trans q)) aF fun aH aI bM aJ aK=>?_
      obtain⟨aL,aM,aN,rfl,bN,bO,bP⟩:=aJ
      have aO:E9 _ aH aI [sv U.Field,sv U.Term,V3 aL aM aN]:=aK
      refine lg f (c9 a1Q u) (lg f (y7 H3 u o (aO 0 _ u)) (lg f (i5 u) (lg f (M3 u u) (lv (o0 u f u) (i8 ?_)))))
      cases oi aG
      exact qd ⟨G,u,o,kr⟩
     iterate 8 refine lu f ?_
     refine lv (J6 u f u) (i8 ?_)
     cases oi H
     exact qd ⟨G,u,o,kr⟩
    rintro _ bQ ⟨V,rfl,s,I⟩
    refine l4 (D4 aq u (fun aP J=>?_) (fun aP J=>?_))
    ·refine j5 (qs (j7 (j3 (mv u (fl L4 u a0Y m0 s u (mv u ?_))))))
     obtain⟨W,aQ,aR⟩:=ob J
     refine li underlying28 H6 (x.mono ((m.trans q).trans I)) aQ fun aS aT bR aU aV=>?_
     obtain⟨aW,aX,aY,rfl,bS,bT,aZ⟩:=aU
     have ba:E9 _ aS aT [sv W.Field,sv W.Term,V3 aW aX aY]:=aV
     refine fa Q3 u (lv (y7 a1W u s (ba 2 _ u)) (mv u ?_))
     obtain⟨bb,bc,bd⟩:=ob aR
     refine li underlying102 X3 aZ bc fun be bf bU bg bh=>?_
     obtain⟨bi,bj,bk,rfl,bV,bl⟩:=bg
     have bm:E9 _ be bf [V6 bb.Doc,V3 bi bj bk]:=bh
     refine fa a4q u (lv (y7 a1i u s (bm 1 _ u)) (lv (q7 underlying51 u bl) (lv (y4 u u) (av u (nb (l4 (j3 (mv u (lv (y4 u u) ?_)))))))))
     refine av u (i8 ?_)
     cases oi bd
     exact qd ⟨_,u,V,u,s,(q.trans I),(s6 _),(s6 _)⟩
    refine w8 (g6 (g6 ?_))
    cases oi J
    cases am _ u
    refine l5 ?_
    cases oi ak
    exact qd ⟨V,u,s,(q.trans I),an⟩
   rintro _ bW ⟨bn,rfl,bo,bp,bq⟩
   refine x9 (l4 (j3 (mv u (lv (y4 u u) (av u (i8 ?_))))))
   cases oi ai
   exact qd ⟨_,u,bn,u,bo,(m.trans bp),bq,(s6 _)⟩
  refine w8 (g6 (g6 ?_))
  cases oi D
  cases af _ u
  refine l5 ?_
  cases oi ad
  exact qd ⟨y,u,C.s,m,R⟩
 rintro _ bX ⟨br,rfl,bs,bY,bu⟩
 refine qr (mv u (av u (nq (l3 ?_))))
 cases oi ab
 exact ey results193 ⟨br,u,bs,bu⟩

theorem a0p {q0:A7}{q1:q9}{q2:q9}{q3:Int}{r:Int}(hS:SH w K [] w K [])(l:b7 F8 K A a b q0.Docs)(o:b7 B8 K B c d q0.Entries)(q:q1.length≤maxLen)(G:q2.length≤maxLen)(ar:i7 q3)(hm:S3 F q0 q1 q2 q3=some r):
  Calls prog 120 #[.agg #[V3 A a b,V3 B c d],sv q1,sv q2,V6 q3] w (R_i w K r):=by
 rw [S3] at hm
 refine ci func120 u ntmps120 (sr (bx u hS fun aO bL ba=>?_))
 have au:SH _ _ _ _ _ [u9 aO [V3 A a b,V3 B c d] 30]:=ba
 refine lv (N4 u) (nr (lv (n8 (ds:=[V3 A a b,V3 B c d]) F2 u m0 au u u) (mv u (mv u (mv u ?_)))))
 obtain⟨bM,bb,bc⟩:=ob hm
 refine lk c1C (a6a F au.enter0 l o q G ar bb) ?_
 rintro bN bO ⟨bP,bQ,bR,aw,rfl,i,D⟩
 have aP:=(au.c0 i).t1
 refine lv (q7 underlying51 u D) (av u (P6 (mv u (lv (A6 u u) (nq (D4 bc u (fun bd ax=>?_) (fun bd ax=>?_)))))))
 ·refine sr (lv (N4 u) (nq (rr ?_)))
  cases oi ax
  exact ey results120 ⟨aw,u,aP.s,M1⟩
 refine j5 (qs ?_)
 obtain⟨X,be,bf⟩:=ob ax
 refine l6 (fun E' w'=>∃ay Y,E'=[(10,pt ay)]∧SH w K [] w' Y [u9 ay [V6 X.Up,V6 X.Down] 238]∧I9 aw Y∧i7 X.Up∧i7 X.Down) ?_ ?_
 ·obtain⟨bS,aQ,bg⟩:=ob be
  obtain⟨bT,az,bh⟩:=ob bg
  obtain⟨bU,aa,bi⟩:=ob bh
  obtain⟨s,H,I⟩:=ob bi
  have J:=aP.drew
  refine j_0 (fun w'=>G8 aw w'∧A9 aO [V3 A a b,V3 B c d] w') 19 [] mixed ⟨J.hasK kr,J.hasObj m0⟩ (jv 0 u (i5 u) (jh 1 u (fun _ h=>B4 (ds:=[V3 A a b,V3 B c d]) F2 u u u h.2) (jv 2 u (i5 u) (jv 3 u (i5 u) (jh 5 u (fun _ h=>B4 (ds:=[V3 A a b,V3 B c d]) F2 u u u h.2) (jv 6 u (i5 u) (jv 8 u (c9 S5 u) (jh 9 u (fun _ h=>A8 a4l u u h.2) (jv 10 u (q7 underlying27 u (l.mono i.le)) ?_)))))))))
  refine jh 11 u (fun _ h=>B4 (ds:=[V3 A a b,V3 B c d]) F2 u u u h.2) (jv 12 u (i5 u) (jv 13 u (i5 u) (j2 4 17 u u ?_ ?_)))
  ·refine lk c4e (a7W F J.enter0 (l.mono i.le) (o.mono i.le) q ar aQ) ?_
   rintro bV bW ⟨bX,rfl,f,ab⟩
   have O:=(J.c0 f).t1
   refine R7 ⟨O.hasK f.le,O.hasObj m0⟩ (j2 7 17 u u ?_ ?_)
   ·refine lk c1D (a4b F O.enter0 (l.mono (i.le.trans f.le)) (o.mono (i.le.trans f.le)) q az) ?_
    rintro bY bZ ⟨ca,rfl,k,aA⟩
    have R:=(O.c0 k).t1
    refine R7 ⟨R.hasK (f.le.trans k.le),R.hasObj m0⟩ (j2 14 17 u u ?_ ?_)
    ·refine lk b6l (a1y F R.enter0 (l.mono ((i.le.trans f.le).trans k.le)) (o.mono ((i.le.trans f.le).trans k.le)) q G aa) ?_
     rintro cb cc ⟨cd,ce,cf,cg,rfl,x,aB⟩
     have S:=(R.c0 x).t1
     refine R7 ⟨S.hasK ((f.le.trans k.le).trans x.le),S.hasObj m0⟩ (jv 15 u (q7 underlying102 u aB) (j2 16 17 u u ?_ ?_))
     ·refine lk b6k (a1w F S.enter0 D.rn ab aA (l.mono i.le).rn aB.rn H) ?_
      rintro ch cj ⟨bj,rfl,T,bk,bl⟩
      have aC:=(S.c0 T).t1
      refine R7 ⟨aC.hasK (((f.le.trans k.le).trans x.le).trans T.le),aC.hasObj m0⟩ (j1 17 u (al Q1 aC fun aR ck bm=>?_))
      have aD:SH _ _ _ _ _ [u9 aR [V6 0,V6 0] 238,_]:=bm
      refine R7 ⟨aD.hasK (((f.le.trans k.le).trans x.le).trans T.le),aD.hasObj m1⟩ (j1 18 u (lw [V6 s.Up,V6 s.Down] Q1 aD fun cl aE=>(R7 ⟨aE.hasK (((f.le.trans k.le).trans x.le).trans T.le),aE.hasObj m1⟩ (jd ?_))))
      cases oi I
      exact qd ⟨aR,bj,u,aE.s,(((f.le.trans k.le).trans x.le).trans T.le),bk,bl⟩
     refine al Q1 S fun aS cm bn=>?_
     have ac:SH _ _ _ _ _ [u9 aS [V6 0,V6 0] 238,_]:=bn
     refine R7 ⟨ac.hasK ((f.le.trans k.le).trans x.le),ac.hasObj m1⟩ (j1 16 u (lk b6k (a1w F ac.enter0 D.rn ab aA (l.mono i.le).rn aB.rn H) ?_))
     rintro cn cp ⟨bo,rfl,ad,bp,bq⟩
     have aF:=(ac.c0 ad).t2
     refine R7 ⟨aF.hasK (((f.le.trans k.le).trans x.le).trans ad.le),aF.hasObj m1⟩ (j1 18 u (lw [V6 s.Up,V6 s.Down] Q1 aF fun cq aG=>(R7 ⟨aG.hasK (((f.le.trans k.le).trans x.le).trans ad.le),aG.hasObj m1⟩ (jd ?_))))
     cases oi I
     exact qd ⟨aS,bo,u,aG.s,(((f.le.trans k.le).trans x.le).trans ad.le),bp,bq⟩
    refine al Q1 R fun aT cr br=>?_
    have ae:SH _ _ _ _ _ [u9 aT [V6 0,V6 0] 238,_]:=br
    refine R7 ⟨ae.hasK (f.le.trans k.le),ae.hasObj m1⟩ (j1 14 u (lk b6l (a1y F ae.enter0 (l.mono ((i.le.trans f.le).trans k.le)) (o.mono ((i.le.trans f.le).trans k.le)) q G aa) ?_))
    rintro cs ct ⟨cu,cv,cw,cx,rfl,U,aU⟩
    have af:=(ae.c0 U).t2
    refine R7 ⟨af.hasK ((f.le.trans k.le).trans U.le),af.hasObj m1⟩ (jv 15 u (q7 underlying102 u aU) (j1 16 u (lk b6k (a1w F af.enter0 D.rn ab aA (l.mono i.le).rn aU.rn H) ?_)))
    rintro cy cz ⟨bs,rfl,ag,bu,bv⟩
    have aH:=(af.c0 ag).t2
    refine R7 ⟨aH.hasK (((f.le.trans k.le).trans U.le).trans ag.le),aH.hasObj m1⟩ (j1 18 u (lw [V6 s.Up,V6 s.Down] Q1 aH fun cA aI=>(R7 ⟨aI.hasK (((f.le.trans k.le).trans U.le).trans ag.le),aI.hasObj m1⟩ (jd ?_))))
    cases oi I
    exact qd ⟨aT,bs,u,aI.s,(((f.le.trans k.le).trans U.le).trans ag.le),bu,bv⟩
   refine al Q1 O fun aV cB bz=>?_
   have ah:SH _ _ _ _ _ [u9 aV [V6 0,V6 0] 238,_]:=bz
   refine R7 ⟨ah.hasK f.le,ah.hasObj m1⟩ (j1 7 u (lk c1D (a4b F ah.enter0 (l.mono (i.le.trans f.le)) (o.mono (i.le.trans f.le)) q az) ?_))
   rintro cC cD ⟨cE,rfl,y,bA⟩
   have ai:=(ah.c0 y).t2
   refine R7 ⟨ai.hasK (f.le.trans y.le),ai.hasObj m1⟩ (j1 14 u (lk b6l (a1y F ai.enter0 (l.mono ((i.le.trans f.le).trans y.le)) (o.mono ((i.le.trans f.le).trans y.le)) q G aa) ?_))
   rintro cF cG ⟨cH,cI,cJ,cK,rfl,V,aW⟩
   have aj:=(ai.c0 V).t2
   refine R7 ⟨aj.hasK ((f.le.trans y.le).trans V.le),aj.hasObj m1⟩ (jv 15 u (q7 underlying102 u aW) (j1 16 u (lk b6k (a1w F aj.enter0 D.rn ab bA (l.mono i.le).rn aW.rn H) ?_)))
   rintro cL cM ⟨bB,rfl,ak,bC,bD⟩
   have aJ:=(aj.c0 ak).t2
   refine R7 ⟨aJ.hasK (((f.le.trans y.le).trans V.le).trans ak.le),aJ.hasObj m1⟩ (j1 18 u (lw [V6 s.Up,V6 s.Down] Q1 aJ fun cN aK=>(R7 ⟨aK.hasK (((f.le.trans y.le).trans V.le).trans ak.le),aK.hasObj m1⟩ (jd ?_))))
   cases oi I
   exact qd ⟨aV,bB,u,aK.s,(((f.le.trans y.le).trans V.le).trans ak.le),bC,bD⟩
  refine al Q1 J fun aX cO bE=>?_
  have am:SH _ _ _ _ _ [u9 aX [V6 0,V6 0] 238,_]:=bE
  refine R7 ⟨am.hasK kr,am.hasObj m1⟩ (j1 4 u (lk c4e (a7W F am.enter0 (l.mono i.le) (o.mono i.le) q ar aQ) ?_))
  rintro cP cQ ⟨cR,rfl,m,bF⟩
  have an:=(am.c0 m).t2
  refine R7 ⟨an.hasK m.le,an.hasObj m1⟩ (j1 7 u (lk c1D (a4b F an.enter0 (l.mono (i.le.trans m.le)) (o.mono (i.le.trans m.le)) q az) ?_))
  rintro cS cT ⟨cU,rfl,C,bG⟩
  have ao:=(an.c0 C).t2
  refine R7 ⟨ao.hasK (m.le.trans C.le),ao.hasObj m1⟩ (j1 14 u (lk b6l (a1y F ao.enter0 (l.mono ((i.le.trans m.le).trans C.le)) (o.mono ((i.le.trans m.le).trans C.le)) q G aa) ?_))
  rintro cV cW ⟨cX,cY,cZ,da,rfl,W,aY⟩
  have ap:=(ao.c0 W).t2
  refine R7 ⟨ap.hasK ((m.le.trans C.le).trans W.le),ap.hasObj m1⟩ (jv 15 u (q7 underlying102 u aY) (j1 16 u (lk b6k (a1w F ap.enter0 D.rn bF bG (l.mono i.le).rn aY.rn H) ?_)))
  rintro db dc ⟨bH,rfl,aq,bI,bJ⟩
  have aL:=(ap.c0 aq).t2
  refine R7 ⟨aL.hasK (((m.le.trans C.le).trans W.le).trans aq.le),aL.hasObj m1⟩ (j1 18 u (lw [V6 s.Up,V6 s.Down] Q1 aL fun dd aM=>(R7 ⟨aM.hasK (((m.le.trans C.le).trans W.le).trans aq.le),aM.hasObj m1⟩ (jd ?_))))
  cases oi I
  exact qd ⟨aX,bH,u,aM.s,(((m.le.trans C.le).trans W.le).trans aq.le),bI,bJ⟩
 rintro _ de ⟨ay,Y,rfl,aN,df,dg,dh⟩
 refine qr (fl b2u u E4 m0 aN u (lv (U9 u u) (fl a8l u E4 m0 aN u ?_)))
 obtain⟨di,aZ,bK⟩:=ob bf
 refine lv (a4i u u aZ) (av u (nq (l3 ?_)))
 cases oi bK
 exact ey results120 ⟨Y,u,aN.s,(a3R aZ)⟩

theorem a6c {q0:Int}{q1:Int}{r:Int}(hS:SH w K [] w K [])(c:i7 q0)(d:i7 q1)(hm:W0 F q0 q1=some r):
  Calls prog 51 #[V6 q0,V6 q1] w (R_i w K r):=by
 rw [W0] at hm
 refine ci func51 u ntmps51 (sr (lv (N4 u) (P6 (mv u (mv u (lv (s7 u u) (nq (P1 u (fun a=>?_) (fun a=>?_)))))))))
 ·have b:=Z8 a hm
  refine sr (mv u (av u (nq (rr ?_))))
  cases oi b
  exact ey results51 ⟨K,u,hS,c⟩
 have b:=Z7 a hm
 refine j5 (qr (mv u (av u (nq (l3 ?_)))))
 cases oi b
 exact ey results51 ⟨K,u,hS,d⟩

theorem a8O {q0:q9}{q1:q9}{r:Int}(hS:SH w K [] w K [])(ck:q0.length≤maxLen)(cl:q1.length≤maxLen)(hm:a3F F q0 q1=some r):
  Calls prog 198 #[sv q0,sv q1] w (R_i w K r):=by
 rw [a3F] at hm
 refine ci func198 u ntmps198 (sr (lv (N4 u) (nr (mv u (lv (I2 underlying9 u) (lv (y4 u u) ?_))))))
 obtain⟨x3,aw,h5⟩:=ob hm
 refine b9T (t:=C9) wn u underlying51 E4 u u u aw ⟨u,M1⟩ hS fun b cs7 w9 hmx12 hrow10 ay=>?_
 obtain⟨m13,hm14⟩: ∃m,m=x3.length:=⟨_,u⟩
 rw [←hm14] at hmx12
 rw [←hm14]
 refine av u (P6 (lv (N4 u) (nq ?_)))
 obtain⟨aa,az,aA⟩:=ob h5
 refine l6 (fun E' w'=>∃cs22 o,E'=[(0,sv q0),(1,sv q1),(5,V3 (some ⟨b,0,none⟩) m13 m13)]∧SH w K [] w' o [u9 b cs22 3]∧I9 K o∧D5 true C9 o cs22 aa∧m13=aa.length) ?_ ?_
 ·refine j7 ?_
  obtain⟨cn,aB,aC⟩:=ob az
  refine qw (fun (k:Int×(List Int)) E' w'=>∃cs34 s,E'=[(0,sv q0),(1,sv q1),(5,V3 (some ⟨b,0,none⟩) m13 m13),(6,V6 k.1)]∧SH w K [] w' s [u9 b cs34 3]∧I9 K s∧i7 k.1∧D5 true C9 s cs34 k.2∧m13=k.2.length) aB ⟨cs7,K,u,ay,kr,M1,hrow10,hm14⟩ ?_
  rintro k _ cp cq aD aE ⟨cs34,s,rfl,ab,ac,aF,hrow35,hm36⟩
  refine p9 (sr (mv u (mv u (lv (I2 underlying9 u) (lv (W5 u u) (nq (D4 aD u (fun aG I=>?_) (fun aG I=>?_))))))))
  ·refine j5 (qs (j7 (j3 (mv u (mv u (mv u ?_))))))
   obtain⟨aH,J,aI⟩:=ob I
   obtain⟨cr,aJ,aK⟩:=D5.at hrow35 J
   obtain⟨rfl,cs⟩:=aJ
   have ct: ∀(j:Nat) (d:Value),[V6 aH][j]? =some d→cs34[k.1.toNat*C9.size+j]? =some d:=aK
   refine lv (L2 (t:=C9) underlying51 E4 u u hm36 J) (a3w (t:=C9) (v:=V6 k.1) (e:=k.1) wn E4 u u ⟨u,aF⟩ ab hrow35 J fun cs50 cu hrow52 aL=>?_)
   have hm54:=hm36.trans (List.length_set (i:=k.1.toNat) (a:=k.1)).symm
   refine nb (l4 (j3 (mv u (lv (y4 u u) (av u (i8 ?_))))))
   cases oi aI
   exact qd ⟨_,u,cs50,s,u,aL,ac,(s6 _),hrow52,hm54⟩
  refine w8 (g6 (g6 ?_))
  cases oi I
  cases aE _ u
  refine l5 ?_
  cases oi aC
  exact qd ⟨cs34,s,u,ab,ac,hrow35,hm36⟩
 rintro _ cv ⟨cs22,o,rfl,aM,cw,hrow23,hm24⟩
 refine qs (sr (lv (N4 u) (nq ?_)))
 obtain⟨ad,aN,aO⟩:=ob aA
 refine l6 (fun E' w'=>∃cs63 B,E'=[(1,sv q1),(5,V3 (some ⟨b,0,none⟩) m13 m13)]∧SH w K [] w' B [u9 b cs63 3]∧I9 o B∧D5 true C9 B cs63 ad∧m13=ad.length) ?_ ?_
 ·refine j7 ?_
  obtain⟨cx,aP,aQ⟩:=ob aN
  refine qw (fun (f:Int×(List Int)) E' w'=>∃cs75 l,E'=[(0,sv q0),(1,sv q1),(5,V3 (some ⟨b,0,none⟩) m13 m13),(7,V6 f.1)]∧SH w K [] w' l [u9 b cs75 3]∧I9 o l∧i7 f.1∧D5 true C9 l cs75 f.2∧m13=f.2.length) aP ⟨cs22,o,u,aM,kr,M1,hrow23,hm24⟩ ?_
  rintro f _ cy cz aR aS ⟨cs75,l,rfl,O,ae,cA,hrow76,hm77⟩
  refine p9 (sr (mv u (mv u (lv (I2 underlying9 u) (lv (s7 u u) (nq (D4 aR u (fun aT R=>?_) (fun aT R=>?_))))))))
  ·refine j5 (qs (j7 (sr (mv u ?_))))
   obtain⟨aU,af,aV⟩:=ob R
   obtain⟨cB,aW,aX⟩:=D5.at hrow76 af
   obtain⟨rfl,aY⟩:=aW
   have aZ: ∀(j:Nat) (d:Value),[V6 aU][j]? =some d→cs75[(0:Int).toNat*C9.size+j]? =some d:=aX
   refine lv (L2 (t:=C9) underlying51 E4 u u hm77 af) (lv (a1F E4 u u (aZ 0 _ u) (O.hasObj (.head _))) (av u (nr (mv u (mv u (lv (y4 u u) ?_))))))
   obtain⟨ba,S,bb⟩:=ob aV
   obtain⟨cC,bc,bd⟩:=D5.at hrow76 S
   obtain⟨rfl,cD⟩:=bc
   have cE: ∀(j:Nat) (d:Value),[V6 ba][j]? =some d→cs75[(0:Int).toNat*C9.size+j]? =some d:=bd
   refine lv (L2 (t:=C9) underlying51 E4 u u hm77 S) (a3w (t:=C9) (v:=V6 (A1 (f.1+(1:Int)))) (e:=(A1 (f.1+(1:Int)))) wn E4 u u ⟨u,(s6 _)⟩ O hrow76 S fun cs99 cF hrow101 be=>?_)
   have hm103:=hm77.trans (List.length_set (i:=(0:Int).toNat) (a:=(A1 (f.1+(1:Int))))).symm
   refine nr (lv (N4 u) (nq ?_))
   obtain⟨ag,bf,bg⟩:=ob bb
   refine l6 (fun E' w'=>∃cs111 C,E'=[(0,sv q0),(1,sv q1),(5,V3 (some ⟨b,0,none⟩) m13 m13),(7,V6 f.1)]∧SH w K [] w' C [u9 b cs111 3]∧I9 l C∧D5 true C9 C cs111 ag∧m13=ag.length) ?_ ?_
   ·refine j7 ?_
    obtain⟨cG,bh,bi⟩:=ob bf
    refine qw (fun (c:Int×Int×(List Int)) E' w'=>∃cs124 D,E'=[(0,sv q0),(1,sv q1),(5,V3 (some ⟨b,0,none⟩) m13 m13),(7,V6 f.1),(8,V6 c.1),(9,V6 c.2.1)]∧SH w K [] w' D [u9 b cs124 3]∧I9 l D∧i7 c.1∧i7 c.2.1∧D5 true C9 D cs124 c.2.2∧m13=c.2.2.length) bh ⟨cs99,l,u,be,kr,aY,M1,hrow101,hm103⟩ ?_
    rintro c _ cH cI bj bk ⟨cs124,D,rfl,ah,ai,bl,cJ,hrow125,hm126⟩
    refine p9 (sr (mv u (mv u (lv (I2 underlying9 u) (lv (s7 u u) (nq (D4 bj u (fun bm T=>?_) (fun bm T=>?_))))))))
    ·refine j5 (qs (j7 (sr (mv u (av u (ns (p9 (E1 mixed (by kernel_rfl) ah (km u ?_)))))))))
     refine km u ?_
     obtain⟨cK,bn,bo⟩:=ob T
     refine kv (L9 underlying9 u u bn) (km u (km u ?_))
     obtain⟨cL,bp,bq⟩:=ob bo
     refine kv (L9 underlying9 u u bp) (kv (a74 u u) (B7 ?_))
     rintro cM ⟨U,aj,x⟩
     refine l4 ?_
     obtain⟨ak,br,bs⟩:=ob bq
     refine l6 (IW w K [] U [(0,sv q0),(1,sv q1),(5,V3 (some ⟨b,0,none⟩) m13 m13),(7,V6 f.1),(9,V6 c.2.1),(10,V6 ak)] [u9 b cs124 3] (i7 ak)) ?_ ?_
     ·refine D4 br u (fun bu V=>?_) (fun bu V=>?_)
      ·refine j3 (mv u (lv (y4 u u) (av u (i8 ?_))))
       cases oi V
       exact qd ⟨U,u,aj,kr,(s6 _)⟩
      refine j5 ?_
      cases oi V
      exact qd ⟨U,u,aj,kr,bl⟩
     rintro _ cN ⟨bv,rfl,al,y,bx⟩
     refine qr (mv u (mv u (lv (y4 u u) ?_)))
     obtain⟨bz,am,bA⟩:=ob bs
     obtain⟨cO,bB,bC⟩:=D5.at (D5.mono (x.trans y) hrow125) am
     obtain⟨rfl,bD⟩:=bB
     have bE: ∀(j:Nat) (d:Value),[V6 bz][j]? =some d→cs124[(A1 (c.2.1+(1:Int))).toNat*C9.size+j]? =some d:=bC
     refine lv (L2 (t:=C9) underlying51 E4 u u hm126 am) (lv (a1F E4 u u (bE 0 _ u) (al.hasObj (.head _))) (av u (nq ?_)))
     have G:=al.drew
     refine wh1 (fun w'=>G8 bv w') (fun w'=>A9 b cs124 w') 17 [(7,13),(7,16),(7,17),(12,13),(12,16),(12,17),(13,14),(13,15),(13,16),(13,17),(14,15),(14,16),(14,17),(15,16),(15,17),(16,17)] mixed (G.hasK kr) (fun _=>G.hasObj (.head _)) (gt (i5 u) (gt (i5 u) (gt (y4 u u) (gt (i5 u) (gt (i5 u) (gt (i5 u) ?_))))))
     obtain⟨bF,an,bG⟩:=ob bA
     obtain⟨cP,bH,bI⟩:=D5.at (D5.mono (x.trans y) hrow125) an
     obtain⟨rfl,bJ⟩:=bH
     have bK: ∀(j:Nat) (d:Value),[V6 bF][j]? =some d→cs124[c.2.1.toNat*C9.size+j]? =some d:=bI
     refine gt (L2 (t:=C9) underlying51 E4 u u hm126 an) (gf (fun _ h=>(a1F E4 u u (bK 0 _ u) h)) (gt (i5 u) (gt (i5 u) (gt (y4 u u) ?_))))
     obtain⟨bL,ao,bM⟩:=ob bG
     obtain⟨cQ,bN,bO⟩:=D5.at (D5.mono (x.trans y) hrow125) ao
     obtain⟨rfl,bP⟩:=bN
     have bQ: ∀(j:Nat) (d:Value),[V6 bL][j]? =some d→cs124[(A1 (c.2.1+(1:Int))).toNat*C9.size+j]? =some d:=bO
     refine gt (L2 (t:=C9) underlying51 E4 u u hm126 ao) (gf (fun _ h=>(a1F E4 u u (bQ 0 _ u) h)) (gn ?_))
     obtain⟨cR,bR,bS⟩:=ob bM
     refine lk c4O (a6c F G.enter0 bJ bP bR) ?_
     rintro cS cT ⟨cU,rfl,q,cV⟩
     have H:=(G.c0 q).t1
     refine i8 (qh (H.hasK q.le) (fun _=>H.hasObj (.head _)) (gt (y4 u u) (gn ?_)))
     obtain⟨W,bT,bU⟩:=ob bS
     refine lk c4O (a6c F H.enter0 bx (s6 _) bT) ?_
     rintro cW cX ⟨bV,rfl,A,bW⟩
     have X:=(H.c0 A).t1
     refine i8 (qh (X.hasK (q.le.trans A.le)) (fun _=>X.hasObj (.head _)) ?_)
     obtain⟨bX,Y,bY⟩:=ob bU
     obtain⟨cY,bZ,ca⟩:=D5.at (D5.mono (((x.trans y).trans q.le).trans A.le) hrow125) Y
     obtain⟨rfl,cZ⟩:=bZ
     have da: ∀(j:Nat) (d:Value),[V6 bX][j]? =some d→cs124[(A1 (c.2.1+(1:Int))).toNat*C9.size+j]? =some d:=ca
     refine gt (L2 (t:=C9) underlying51 E4 u u hm126 Y) (gn (a3w (t:=C9) (v:=V6 W) (e:=W) wn E4 u u ⟨u,bW⟩ X (D5.mono (((x.trans y).trans q.le).trans A.le) hrow125) Y fun cs204 db hrow206 ap=>?_))
     have hm208:=hm126.trans (List.length_set (i:=(A1 (c.2.1+(1:Int))).toNat) (a:=W)).symm
     refine i8 (qh (ap.hasK (q.le.trans A.le)) (fun h=>nomatch h) (gd' (x9 (l4 (j3 (mv u (lv (y4 u u) (av u (i8 ?_)))))))))
     cases oi bY
     exact qd ⟨_,u,cs204,bV,u,ap,((((ai.trans x).trans y).trans q.le).trans A.le),bD,(s6 _),hrow206,hm208⟩
    refine w8 (g6 (g6 ?_))
    cases oi T
    cases bk _ u
    refine l5 ?_
    cases oi bi
    exact qd ⟨cs124,D,u,ah,ai,hrow125,hm126⟩
   rintro _ dc ⟨cs111,C,rfl,cb,cc,hrow112,hm113⟩
   refine x9 (l4 (j3 (mv u (lv (y4 u u) (av u (i8 ?_))))))
   cases oi bg
   exact qd ⟨_,u,cs111,C,u,cb,(ae.trans cc),(s6 _),hrow112,hm113⟩
  refine w8 (g6 (g6 ?_))
  cases oi R
  cases aS _ u
  refine l5 ?_
  cases oi aQ
  exact qd ⟨cs75,l,u,O,ae,hrow76,hm77⟩
 rintro _ dd ⟨cs63,B,rfl,aq,de,hrow64,hm65⟩
 refine qr (mv u (mv u (lv (I2 underlying9 u) ?_)))
 obtain⟨cd,ar,ce⟩:=ob aO
 obtain⟨df,cf,cg⟩:=D5.at hrow64 ar
 obtain⟨rfl,ch⟩:=cf
 have cj: ∀(j:Nat) (d:Value),[V6 cd][j]? =some d→cs63[(q1.length:Int).toNat*C9.size+j]? =some d:=cg
 refine lv (L2 (t:=C9) underlying51 E4 u u hm65 ar) (lv (a1F E4 u u (cj 0 _ u) (aq.hasObj (.head _))) (av u (nq (l3 ?_))))
 cases oi ce
 exact ey results198 ⟨B,u,aq.s,ch⟩

theorem b3o (F:Nat): ∀{w:World} {K:F0} {q0:q9} {q1:q9} {r:Bool} (hS:SH w K [] w K []) (k:q0.length≤maxLen) (l:q1.length≤maxLen) (hm:Q5 F q0 q1=some r),
  Calls prog 199 #[sv q0,sv q1] w (R_b w K r):=by
 induction F with
 | zero=>intros;rename_i hm;rw [Q5] at hm;cases hm
 | succ F ih=>
  intro w K q0 q1 r hS k l hm
  rw [Q5] at hm
  refine ci func199 u ntmps199 (sr (lv (P2 u) (P6 (mv u (lv (M3 (r:=([]:q9)) u u) (nq (P1 u (fun q=>?_) (fun q=>?_))))))))
  ·have s:=Z8 q hm
   refine sr (mv u (lv (M3 (r:=([]:q9)) u u) (av u (nq (rr ?_)))))
   cases oi s
   exact ey results199 ⟨K,u,hS⟩
  have s:=Z7 q hm
  refine j5 (qs (sr (mv u ?_)))
  obtain⟨x5,U,V⟩:=ob s
  refine lv (L9 underlying9 u u U) (lv (a9e (b:=(42:UInt8)) u u) (nq (D4 V u (fun W x=>?_) (fun W x=>?_))))
  ·refine p9 ?_
   obtain⟨X,Y,aa⟩:=ob x
   refine l6 (IV w K [] K [(4,.bool X)] []) ?_ ?_
   ·refine j3 (mv u ?_)
    obtain⟨aO,G,ab⟩:=ob Y
    refine lv (a0r underlying9 u u G) (mv u ?_)
    obtain⟨aP,ac,ad⟩:=ob ab
    refine lk b6m (ih hS.enter0 (a1c k G) l ac) ?_
    rintro aQ aR ⟨H,rfl,m⟩
    have o:=(hS.c0 m).t0
    refine mv u (bt ad (fun c y=>?_) (fun c y=>?_))
    ·refine lu c (lu c (lu c (A2 (uu u u) u (A2 (uu u u) u (A2 (uu u u) u (A2 (uu u u) u (lu c (lv (L8 u c u) (av u ?_)))))))))
     refine i8 ?_
     cases oi y
     exact qd ⟨H,u,o,m.le⟩
    refine lg c (i5 u) (lg c (a1V (r:=([]:q9)) u u) (lg c (i5 u) (bt y (fun d A=>?_) (fun d A=>?_))))
    ·refine lg d (i5 u) (lg d (i5 u) ?_)
     obtain⟨ae,I,af⟩:=ob A
     refine lg d (a0r underlying9 u u I) ?_
     obtain⟨aS,ag,ah⟩:=ob af
     refine A0 (wg u u d) u (z7 (vs:=[sv q0,sv ae]) b6m u) (ih o.enter0 k (a1c l I) ag) ?_
     rintro aT aU ⟨ai,rfl,J⟩
     refine⟨_,u,?_⟩
     have aj:=(o.c0 J).t0
     refine lg c (o0 u d u) (lv (o4 u c u) (av u (i8 ?_)))
     cases oi ah
     exact qd ⟨ai,u,aj,(m.le.trans J.le)⟩
    refine lu d (lu d (lu d (lu d (lg c (J6 u d u) (lv (o4 u c u) (av u (i8 ?_)))))))
    cases oi A
    exact qd ⟨H,u,o,m.le⟩
   rintro _ aV ⟨ak,rfl,al,aW⟩
   refine l4 (rr ?_)
   cases oi aa
   exact ey results199 ⟨ak,u,al⟩
  refine j5 (qs (E1 mixed (by kernel_rfl) hS (km u (kv (a1V (r:=([]:q9)) u u) (km u (bt x (fun a B=>?_) (fun a B=>?_)))))))
  ·refine kg a (i5 u) ?_
   obtain⟨aX,am,an⟩:=ob B
   refine kg a (L9 underlying9 u u am) (kg a (a9e (b:=(63:UInt8)) u u) (kg a (i5 u) (bt an (fun f C=>?_) (fun f C=>?_))))
   ·iterate 5 refine kn f ?_
    refine kg a (L8 u f u) (kv (o0 u a u) (km u (kg u (i5 u) ?_)))
    obtain⟨aY,O,ao⟩:=ob C
    refine kg u (a0r underlying9 u u O) (kg u (i5 u) ?_)
    obtain⟨aZ,R,ap⟩:=ob ao
    refine kg u (a0r underlying9 u u R) ?_
    obtain⟨ba,aq,ar⟩:=ob ap
    refine kcg u b6m (fun _ _ au bb=>ih au.enter0 (a1c k O) (a1c l R) aq) (kv (o0 u u u) (kv (x8 u) (B7 ?_)))
    rintro bc ⟨aw,ax,bd⟩
    refine l4 (l3 ?_)
    cases oi ar
    exact ey results199 ⟨aw,u,ax⟩
   refine kg f (i5 u) ?_
   obtain⟨be,ay,az⟩:=ob C
   refine kg f (L9 underlying9 u u ay) (kg f (i5 u) ?_)
   obtain⟨bf,aA,aB⟩:=ob az
   refine kg f (L9 underlying9 u u aA) (kg f (a9e u u) (kg a (o4 u f u) (kv (o0 u a u) (km u (bt aB (fun i D=>?_) (fun i D=>?_))))))
   ·refine kg i (i5 u) ?_
    obtain⟨bg,S,aC⟩:=ob D
    refine kg i (a0r underlying9 u u S) (kg i (i5 u) ?_)
    obtain⟨bh,T,aD⟩:=ob aC
    refine kg i (a0r underlying9 u u T) ?_
    obtain⟨bi,aE,aF⟩:=ob aD
    refine kcg i b6m (fun _ _ aG bj=>ih aG.enter0 (a1c k S) (a1c l T) aE) (kv (o0 u i u) (kv (x8 u) (B7 ?_)))
    rintro bk ⟨aH,aI,bl⟩
    refine l4 (l3 ?_)
    cases oi aF
    exact ey results199 ⟨aH,u,aI⟩
   iterate 5 refine kn i ?_
   refine kv (J6 u i u) (kv (x8 u) (B7 ?_))
   rintro bm ⟨aJ,aK,bn⟩
   refine l4 (l3 ?_)
   cases oi D
   exact ey results199 ⟨aJ,u,aK⟩
  refine kn a (kn a (kn a (kn a ?_)))
  iterate 5 refine ku ?_
  refine kn a (kv (J6 u a u) (km u ?_))
  iterate 5 refine qv u u u u ?_
  refine kv (J6 u u u) (kv (x8 u) (B7 ?_))
  rintro bo ⟨aL,aM,bp⟩
  refine l4 (l3 ?_)
  cases oi B
  exact ey results199 ⟨aL,u,aM⟩

theorem b15 {q0:A7}{q1:r5}{q2:Int}{r:Bool}(hS:SH w K [] w K [])(am:b7 F8 K A a b q0.Docs)(aa:b7 B8 K B c d q0.Entries)(bi:i7 q1.Kind)(an:q1.Field.length≤maxLen)(ao:b7 D8 K C f i q1.Words)(bj:i7 q1.From)(bk:i7 q1.To)(bl:b7 F3 K D k l q1.Kids)(ap:i7 q2)(hm:a13 F q0 q1 q2=some r):
  Calls prog 125 #[.agg #[V3 A a b,V3 B c d],.agg #[V6 q1.Kind,sv q1.Field,V3 C f i,V6 q1.From,V6 q1.To,V3 D k l],V6 q2] w (R_b w K r):=by
 rw [a13] at hm
 refine ci func125 u ntmps125 (sr (bx u hS fun I bm aq=>?_))
 have ar:SH _ _ _ _ _ [u9 I [V3 A a b,V3 B c d] 30]:=aq
 refine bx u ar fun H bn au=>?_
 have aw:SH _ _ _ _ _ [u9 H [V6 q1.Kind,sv q1.Field,V3 C f i,V6 q1.From,V6 q1.To,V3 D k l] 33,_]:=au
 refine lv (P2 u) (P6 (lv (N4 u) (nq ?_)))
 obtain⟨ax,ay,X⟩:=ob hm
 refine l6 (IE ax w K [] K [] []) ?_ ?_
 ·refine j7 ?_
  obtain⟨bo,az,af⟩:=ob ay
  refine qw (fun (Y:Int)=>IW w K [] K [(2,V6 q2),(3,pt I),(4,pt H),(7,V6 Y)] [u9 I [V3 A a b,V3 B c d] 30,u9 H [V6 q1.Kind,sv q1.Field,V3 C f i,V6 q1.From,V6 q1.To,V3 D k l] 33] (i7 Y)) az ⟨K,u,aw.f1,kr,M1⟩ ?_
  rintro Y _ bp bq aA ag ⟨U,rfl,V,J,br⟩
  refine p9 (sr (mv u (fl L4 u a0Y m0 V u (lv (q7 underlying28 u (aa.mono J)) (lv (s7 u u) (nq (D4 aA u (fun aB ab=>?_) (fun aB ab=>?_))))))))
  ·refine j5 (qs (j7 (sr (fl L4 u a0Y m0 V u (mv u ?_)))))
   obtain⟨G,aC,aD⟩:=ob ab
   refine li underlying28 H6 (aa.mono J) aC fun aE aF bs aG aH=>?_
   obtain⟨O,R,S,rfl,bu,ah,bv⟩:=aG
   have aI:E9 _ aE aF [sv G.Field,sv G.Term,V3 O R S]:=aH
   refine lv (F5 H6 u V aI u) (al H6 V fun W bz aJ=>?_)
   have aK:SH _ _ _ _ _ [u9 W [sv [],sv [],V3 none 0 0] 104,_,_]:=aJ
   refine lw [sv G.Field,sv G.Term,V3 O R S] H6 aK fun bA aL=>(ns ?_)
   obtain⟨aM,aN,aO⟩:=ob aD
   refine l6 (IV w K [] U [(2,V6 q2),(3,pt I),(4,pt H),(7,V6 Y),(45,.bool aM)] [u9 I [V3 A a b,V3 B c d] 30,u9 H [V6 q1.Kind,sv q1.Field,V3 C f i,V6 q1.From,V6 q1.To,V3 D k l] 33]) ?_ ?_
   ·refine b2K (fun w'=>G8 U w'∧A9 W [sv G.Field,sv G.Term,V3 O R S] w'∧A9 H [V6 q1.Kind,sv q1.Field,V3 C f i,V6 q1.From,V6 q1.To,V3 D k l] w'∧A9 I [V3 A a b,V3 B c d] w') (fun w'=>True) 25 [] mixed ?_
    have m:=aL.drew
    refine I6 (i:=0) (listed':=L_ 25 0) (fun _=>True) u (by kernel_rfl) (j8 (j8 (y3 (j8 (j8 (y3 (j8 (j8 C0)))))))) (by kernel_rfl) u (by kernel_rfl) (by kernel_rfl) u (.inl fun _ _=>trivial) ⟨⟨m.hasK kr,m.hasObj m0,m.hasObj m2,m.hasObj m1⟩,(fun _=>trivial),by decide⟩ wn u (fun _ _=>(c9 a1Q u)) (I6 (i:=1) (listed':=L_ 25 1) (A9 W [sv G.Field,sv G.Term,V3 O R S]) u (by kernel_rfl) (j8 (j8 (y3 (j8 (j8 (y3 (j8 (j8 C0)))))))) (by kernel_rfl) u (by kernel_rfl) (by kernel_rfl) u (.inl fun _ h=>h.2.1) ⟨⟨m.hasK kr,m.hasObj m0,m.hasObj m2,m.hasObj m1⟩,(fun _=>trivial),by decide⟩ wn u (fun _ h=>A8 H3 u u h) ?_)
    refine I6 (i:=2) (listed':=L_ 25 2) (fun _=>True) u (by kernel_rfl) (j8 (j8 (y3 (j8 (j8 (y3 (j8 (j8 C0)))))))) (by kernel_rfl) u (by kernel_rfl) (by kernel_rfl) u (.inl fun _ _=>trivial) ⟨⟨m.hasK kr,m.hasObj m0,m.hasObj m2,m.hasObj m1⟩,(fun _=>trivial),by decide⟩ wn u (fun _ _=>(c9 W2 u)) (I6 (i:=3) (listed':=L_ 25 3) (A9 H [V6 q1.Kind,sv q1.Field,V3 C f i,V6 q1.From,V6 q1.To,V3 D k l]) u (by kernel_rfl) (j8 (j8 (y3 (j8 (j8 (y3 (j8 (j8 C0)))))))) (by kernel_rfl) u (by kernel_rfl) (by kernel_rfl) u (.inl fun _ h=>h.2.2.1) ⟨⟨m.hasK kr,m.hasObj m0,m.hasObj m2,m.hasObj m1⟩,(fun _=>trivial),by decide⟩ wn u (fun _ h=>A8 H3 u u h) ?_)
    refine I6 (i:=4) (listed':=L_ 25 4) (fun _=>True) u (by kernel_rfl) (j8 (j8 (y3 (j8 (j8 (y3 (j8 (j8 C0)))))))) (by kernel_rfl) u (by kernel_rfl) (by kernel_rfl) u (.inl fun _ _=>trivial) ⟨⟨m.hasK kr,m.hasObj m0,m.hasObj m2,m.hasObj m1⟩,(fun _=>trivial),by decide⟩ wn u (fun _ _=>(M3 u u)) (I6 (i:=5) (listed':=L_ 25 5) (fun _=>True) u (by kernel_rfl) (j8 (j8 (y3 (j8 (j8 (y3 (j8 (j8 C0)))))))) (by kernel_rfl) u (by kernel_rfl) (by kernel_rfl) u (.inl fun _ _=>trivial) ⟨⟨m.hasK kr,m.hasObj m0,m.hasObj m2,m.hasObj m1⟩,(fun _=>trivial),by decide⟩ wn u (fun _ _=>(i5 u)) (bt aN (fun x ac=>?_) (fun x ac=>?_)))
    ·refine I6 (i:=6) (listed':=L_ 25 6) (fun _=>True) u (by kernel_rfl) (j8 (j8 (y3 (j8 (j8 (y3 (j8 (j8 C0)))))))) (by kernel_rfl) u (by kernel_rfl) (by kernel_rfl) u (.inl fun _ _=>trivial) ⟨⟨m.hasK kr,m.hasObj m0,m.hasObj m2,m.hasObj m1⟩,(fun _=>trivial),by decide⟩ (wg u u x) u (fun _ _=>(c9 Z9 u)) (I6 (i:=7) (listed':=L_ 25 7) (A9 H [V6 q1.Kind,sv q1.Field,V3 C f i,V6 q1.From,V6 q1.To,V3 D k l]) u (by kernel_rfl) (j8 (j8 (y3 (j8 (j8 (y3 (j8 (j8 C0)))))))) (by kernel_rfl) u (by kernel_rfl) (by kernel_rfl) u (.inl fun _ h=>h.2.2.1) ⟨⟨m.hasK kr,m.hasObj m0,m.hasObj m2,m.hasObj m1⟩,(fun _=>trivial),by decide⟩ (wg u u x) u (fun _ h=>A8 T1 u u h) ?_)
     obtain⟨ai,aP,aQ⟩:=ob ac
     refine b0i (t:=D8) (j:=8) (listed':=L_ 25 8) u (by kernel_rfl) (j8 (j8 (y3 (j8 (j8 (y3 (j8 (j8 C0)))))))) (by kernel_rfl) u (by kernel_rfl) (by kernel_rfl) u ⟨⟨m.hasK kr,m.hasObj m0,m.hasObj m2,m.hasObj m1⟩,(fun _=>trivial),by decide⟩ (wg u u x) u underlying23 H3 u u (ao.mono J) aP fun aR aS bB aT aU=>?_
     obtain⟨rfl,aV⟩:=aT
     have aW:E9 _ aR aS [sv ai]:=aU
     refine I6 (i:=9) (listed':=L_ 25 9) (G8 U) u (by kernel_rfl) (j8 (j8 (y3 (j8 (j8 (y3 (j8 (j8 C0)))))))) (by kernel_rfl) u (by kernel_rfl) (by kernel_rfl) u (.inl fun _ h=>h.1) ⟨⟨m.hasK kr,m.hasObj m0,m.hasObj m2,m.hasObj m1⟩,(fun _=>trivial),by decide⟩ (wg u u x) u (fun _ h=>T7 H3 u (aW 0 _ u) h) (I6 (i:=10) (listed':=L_ 25 10) (fun _=>True) u (by kernel_rfl) (j8 (j8 (y3 (j8 (j8 (y3 (j8 (j8 C0)))))))) (by kernel_rfl) u (by kernel_rfl) (by kernel_rfl) u (.inl fun _ _=>trivial) ⟨⟨m.hasK kr,m.hasObj m0,m.hasObj m2,m.hasObj m1⟩,(fun _=>trivial),by decide⟩ (wg u u x) u (fun _ _=>(c9 a09 u)) ?_)
     refine I6 (i:=11) (listed':=L_ 25 11) (A9 W [sv G.Field,sv G.Term,V3 O R S]) u (by kernel_rfl) (j8 (j8 (y3 (j8 (j8 (y3 (j8 (j8 C0)))))))) (by kernel_rfl) u (by kernel_rfl) (by kernel_rfl) u (.inl fun _ h=>h.2.1) ⟨⟨m.hasK kr,m.hasObj m0,m.hasObj m2,m.hasObj m1⟩,(fun _=>trivial),by decide⟩ (wg u u x) u (fun _ h=>A8 H3 u u h) (a5G (i:=12) (by kernel_rfl) u ?_)
     obtain⟨bC,aX,aY⟩:=ob aQ
     refine A0 (wg u u x) u (z7 (vs:=[sv ai,sv G.Term]) b6m u) (b3o F m.enter0 aV ah aX) ?_
     rintro bD bE ⟨aZ,rfl,q⟩
     refine⟨_,u,?_⟩
     have o:=(m.c0 q).t3
     refine i8 (a40 (listed':=L_ 25 12) u ⟨⟨o.hasK q.le,o.hasObj m0,o.hasObj m2,o.hasObj m1⟩,(fun _=>trivial),by decide⟩ (I6 (i:=13) (listed':=L_ 25 13) (fun _=>True) u (by kernel_rfl) (j8 (j8 (y3 (j8 (j8 (y3 (j8 (j8 C0)))))))) (by kernel_rfl) u (by kernel_rfl) (by kernel_rfl) u (.inl fun _ _=>trivial) ⟨⟨o.hasK q.le,o.hasObj m0,o.hasObj m2,o.hasObj m1⟩,(fun _=>trivial),by decide⟩ wn u (fun _ _=>(o0 u x u)) ?_))
     refine I6 (i:=14) (listed':=L_ 25 14) (fun _=>True) u (by kernel_rfl) (j8 (j8 (y3 (j8 (j8 (y3 (j8 (j8 C0)))))))) (by kernel_rfl) u (by kernel_rfl) (by kernel_rfl) u (.inl fun _ _=>trivial) ⟨⟨o.hasK q.le,o.hasObj m0,o.hasObj m2,o.hasObj m1⟩,(fun _=>trivial),by decide⟩ wn u (fun _ _=>(i5 u)) (bt aY (fun s ad=>?_) (fun s ad=>?_))
     ·refine I6 (i:=15) (listed':=L_ 25 15) (A9 I [V3 A a b,V3 B c d]) u (by kernel_rfl) (j8 (j8 (y3 (j8 (j8 (y3 (j8 (j8 C0)))))))) (by kernel_rfl) u (by kernel_rfl) (by kernel_rfl) u (.inl fun _ h=>h.2.2.2) ⟨⟨o.hasK q.le,o.hasObj m0,o.hasObj m2,o.hasObj m1⟩,(fun _=>trivial),by decide⟩ (wg u u s) u (fun _ h=>B4 (ds:=[V3 A a b,V3 B c d]) F2 u u u h) (I6 (i:=16) (listed':=L_ 25 16) (fun _=>True) u (by kernel_rfl) (j8 (j8 (y3 (j8 (j8 (y3 (j8 (j8 C0)))))))) (by kernel_rfl) u (by kernel_rfl) (by kernel_rfl) u (.inl fun _ _=>trivial) ⟨⟨o.hasK q.le,o.hasObj m0,o.hasObj m2,o.hasObj m1⟩,(fun _=>trivial),by decide⟩ (wg u u s) u (fun _ _=>(c9 W2 u)) ?_)
      refine I6 (i:=17) (listed':=L_ 25 17) (A9 H [V6 q1.Kind,sv q1.Field,V3 C f i,V6 q1.From,V6 q1.To,V3 D k l]) u (by kernel_rfl) (j8 (j8 (y3 (j8 (j8 (y3 (j8 (j8 C0)))))))) (by kernel_rfl) u (by kernel_rfl) (by kernel_rfl) u (.inl fun _ h=>h.2.2.1) ⟨⟨o.hasK q.le,o.hasObj m0,o.hasObj m2,o.hasObj m1⟩,(fun _=>trivial),by decide⟩ (wg u u s) u (fun _ h=>A8 H3 u u h) (I6 (i:=18) (listed':=L_ 25 18) (fun _=>True) u (by kernel_rfl) (j8 (j8 (y3 (j8 (j8 (y3 (j8 (j8 C0)))))))) (by kernel_rfl) u (by kernel_rfl) (by kernel_rfl) u (.inl fun _ _=>trivial) ⟨⟨o.hasK q.le,o.hasObj m0,o.hasObj m2,o.hasObj m1⟩,(fun _=>trivial),by decide⟩ (wg u u s) u (fun _ _=>(c9 a09 u)) ?_)
      refine I6 (i:=19) (listed':=L_ 25 19) (A9 W [sv G.Field,sv G.Term,V3 O R S]) u (by kernel_rfl) (j8 (j8 (y3 (j8 (j8 (y3 (j8 (j8 C0)))))))) (by kernel_rfl) u (by kernel_rfl) (by kernel_rfl) u (.inl fun _ h=>h.2.1) ⟨⟨o.hasK q.le,o.hasObj m0,o.hasObj m2,o.hasObj m1⟩,(fun _=>trivial),by decide⟩ (wg u u s) u (fun _ h=>A8 H3 u u h) (I6 (i:=20) (listed':=L_ 25 20) (fun _=>True) u (by kernel_rfl) (j8 (j8 (y3 (j8 (j8 (y3 (j8 (j8 C0)))))))) (by kernel_rfl) u (by kernel_rfl) (by kernel_rfl) u (.inl fun _ _=>trivial) ⟨⟨o.hasK q.le,o.hasObj m0,o.hasObj m2,o.hasObj m1⟩,(fun _=>trivial),by decide⟩ (wg u u s) u (fun _ _=>(i5 u)) (a5G (i:=21) (by kernel_rfl) u ?_))
      obtain⟨bF,ba,bb⟩:=ob ad
      refine A0 (wg u u s) u (z7 (vs:=[.agg #[V3 A a b,V3 B c d],sv q1.Field,sv G.Term,V6 q2]) c1C u) (a6a F o.enter0 (am.mono (J.trans q.le)) (aa.mono (J.trans q.le)) an ah ap ba) ?_
      rintro bG bH ⟨bI,bJ,bK,bc,rfl,T,bd⟩
      refine⟨_,u,?_⟩
      have y:=(o.c0 T).t3
      refine i8 (a40 (listed':=L_ 25 21) u ⟨⟨y.hasK (q.le.trans T.le),y.hasObj m0,y.hasObj m2,y.hasObj m1⟩,(fun _=>trivial),by decide⟩ (I6 (i:=22) (listed':=L_ 25 22) (fun _=>True) u (by kernel_rfl) (j8 (j8 (y3 (j8 (j8 (y3 (j8 (j8 C0)))))))) (by kernel_rfl) u (by kernel_rfl) (by kernel_rfl) u (.inl fun _ _=>trivial) ⟨⟨y.hasK (q.le.trans T.le),y.hasObj m0,y.hasObj m2,y.hasObj m1⟩,(fun _=>trivial),by decide⟩ (wg u u s) u (fun _ _=>(q7 underlying51 u bd)) ?_))
      refine I6 (i:=23) (listed':=L_ 25 23) (fun _=>True) u (by kernel_rfl) (j8 (j8 (y3 (j8 (j8 (y3 (j8 (j8 C0)))))))) (by kernel_rfl) u (by kernel_rfl) (by kernel_rfl) u (.inl fun _ _=>trivial) ⟨⟨y.hasK (q.le.trans T.le),y.hasObj m0,y.hasObj m2,y.hasObj m1⟩,(fun _=>trivial),by decide⟩ (wg u u s) u (fun _ _=>(F9 u u)) (I6 (i:=24) (listed':=L_ 25 24) (fun _=>True) u (by kernel_rfl) (j8 (j8 (y3 (j8 (j8 (y3 (j8 (j8 C0)))))))) (by kernel_rfl) u (by kernel_rfl) (by kernel_rfl) u (.inl fun _ _=>trivial) ⟨⟨y.hasK (q.le.trans T.le),y.hasObj m0,y.hasObj m2,y.hasObj m1⟩,(fun _=>trivial),by decide⟩ wn u (fun _ _=>(o0 u s u)) (a61 (by kernel_rfl) ?_))
      cases oi bb
      exact qd ⟨bc,u,y.s,(q.le.trans T.le)⟩
     refine a0s (i:=15) (listed':=L_ 25 15) u (by kernel_rfl) (j8 (j8 (y3 (j8 (j8 (y3 (j8 (j8 C0)))))))) (by kernel_rfl) u (by kernel_rfl) (by kernel_rfl) u ⟨⟨o.hasK q.le,o.hasObj m0,o.hasObj m2,o.hasObj m1⟩,(fun _=>trivial),by decide⟩ (ug u u s) u (a0s (i:=16) (listed':=L_ 25 16) u (by kernel_rfl) (j8 (j8 (y3 (j8 (j8 (y3 (j8 (j8 C0)))))))) (by kernel_rfl) u (by kernel_rfl) (by kernel_rfl) u ⟨⟨o.hasK q.le,o.hasObj m0,o.hasObj m2,o.hasObj m1⟩,(fun _=>trivial),by decide⟩ (ug u u s) u ?_)
     refine a0s (i:=17) (listed':=L_ 25 17) u (by kernel_rfl) (j8 (j8 (y3 (j8 (j8 (y3 (j8 (j8 C0)))))))) (by kernel_rfl) u (by kernel_rfl) (by kernel_rfl) u ⟨⟨o.hasK q.le,o.hasObj m0,o.hasObj m2,o.hasObj m1⟩,(fun _=>trivial),by decide⟩ (ug u u s) u (a0s (i:=18) (listed':=L_ 25 18) u (by kernel_rfl) (j8 (j8 (y3 (j8 (j8 (y3 (j8 (j8 C0)))))))) (by kernel_rfl) u (by kernel_rfl) (by kernel_rfl) u ⟨⟨o.hasK q.le,o.hasObj m0,o.hasObj m2,o.hasObj m1⟩,(fun _=>trivial),by decide⟩ (ug u u s) u ?_)
     refine a0s (i:=19) (listed':=L_ 25 19) u (by kernel_rfl) (j8 (j8 (y3 (j8 (j8 (y3 (j8 (j8 C0)))))))) (by kernel_rfl) u (by kernel_rfl) (by kernel_rfl) u ⟨⟨o.hasK q.le,o.hasObj m0,o.hasObj m2,o.hasObj m1⟩,(fun _=>trivial),by decide⟩ (ug u u s) u (a0s (i:=20) (listed':=L_ 25 20) u (by kernel_rfl) (j8 (j8 (y3 (j8 (j8 (y3 (j8 (j8 C0)))))))) (by kernel_rfl) u (by kernel_rfl) (by kernel_rfl) u ⟨⟨o.hasK q.le,o.hasObj m0,o.hasObj m2,o.hasObj m1⟩,(fun _=>trivial),by decide⟩ (ug u u s) u (a5G (i:=21) (by kernel_rfl) u (lu s (i8 (a40 (listed':=L_ 25 21) u ⟨⟨o.hasK q.le,o.hasObj m0,o.hasObj m2,o.hasObj m1⟩,(fun _=>trivial),by decide⟩ ?_)))))
     refine a0s (i:=22) (listed':=L_ 25 22) u (by kernel_rfl) (j8 (j8 (y3 (j8 (j8 (y3 (j8 (j8 C0)))))))) (by kernel_rfl) u (by kernel_rfl) (by kernel_rfl) u ⟨⟨o.hasK q.le,o.hasObj m0,o.hasObj m2,o.hasObj m1⟩,(fun _=>trivial),by decide⟩ (ug u u s) u (a0s (i:=23) (listed':=L_ 25 23) u (by kernel_rfl) (j8 (j8 (y3 (j8 (j8 (y3 (j8 (j8 C0)))))))) (by kernel_rfl) u (by kernel_rfl) (by kernel_rfl) u ⟨⟨o.hasK q.le,o.hasObj m0,o.hasObj m2,o.hasObj m1⟩,(fun _=>trivial),by decide⟩ (ug u u s) u ?_)
     refine I6 (i:=24) (listed':=L_ 25 24) (fun _=>True) u (by kernel_rfl) (j8 (j8 (y3 (j8 (j8 (y3 (j8 (j8 C0)))))))) (by kernel_rfl) u (by kernel_rfl) (by kernel_rfl) u (.inl fun _ _=>trivial) ⟨⟨o.hasK q.le,o.hasObj m0,o.hasObj m2,o.hasObj m1⟩,(fun _=>trivial),by decide⟩ wn u (fun _ _=>(J6 u s u)) (a61 (by kernel_rfl) ?_)
     cases oi ad
     exact qd ⟨aZ,u,o.s,q.le⟩
    refine a0s (i:=6) (listed':=L_ 25 6) u (by kernel_rfl) (j8 (j8 (y3 (j8 (j8 (y3 (j8 (j8 C0)))))))) (by kernel_rfl) u (by kernel_rfl) (by kernel_rfl) u ⟨⟨m.hasK kr,m.hasObj m0,m.hasObj m2,m.hasObj m1⟩,(fun _=>trivial),by decide⟩ (ug u u x) u (a0s (i:=7) (listed':=L_ 25 7) u (by kernel_rfl) (j8 (j8 (y3 (j8 (j8 (y3 (j8 (j8 C0)))))))) (by kernel_rfl) u (by kernel_rfl) (by kernel_rfl) u ⟨⟨m.hasK kr,m.hasObj m0,m.hasObj m2,m.hasObj m1⟩,(fun _=>trivial),by decide⟩ (ug u u x) u ?_)
    refine a0s (i:=8) (listed':=L_ 25 8) u (by kernel_rfl) (j8 (j8 (y3 (j8 (j8 (y3 (j8 (j8 C0)))))))) (by kernel_rfl) u (by kernel_rfl) (by kernel_rfl) u ⟨⟨m.hasK kr,m.hasObj m0,m.hasObj m2,m.hasObj m1⟩,(fun _=>trivial),by decide⟩ (ug u u x) u (a0s (i:=9) (listed':=L_ 25 9) u (by kernel_rfl) (j8 (j8 (y3 (j8 (j8 (y3 (j8 (j8 C0)))))))) (by kernel_rfl) u (by kernel_rfl) (by kernel_rfl) u ⟨⟨m.hasK kr,m.hasObj m0,m.hasObj m2,m.hasObj m1⟩,(fun _=>trivial),by decide⟩ (ug u u x) u ?_)
    refine a0s (i:=10) (listed':=L_ 25 10) u (by kernel_rfl) (j8 (j8 (y3 (j8 (j8 (y3 (j8 (j8 C0)))))))) (by kernel_rfl) u (by kernel_rfl) (by kernel_rfl) u ⟨⟨m.hasK kr,m.hasObj m0,m.hasObj m2,m.hasObj m1⟩,(fun _=>trivial),by decide⟩ (ug u u x) u (a0s (i:=11) (listed':=L_ 25 11) u (by kernel_rfl) (j8 (j8 (y3 (j8 (j8 (y3 (j8 (j8 C0)))))))) (by kernel_rfl) u (by kernel_rfl) (by kernel_rfl) u ⟨⟨m.hasK kr,m.hasObj m0,m.hasObj m2,m.hasObj m1⟩,(fun _=>trivial),by decide⟩ (ug u u x) u (a5G (i:=12) (by kernel_rfl) u (lu x (i8 (a40 (listed':=L_ 25 12) u ⟨⟨m.hasK kr,m.hasObj m0,m.hasObj m2,m.hasObj m1⟩,(fun _=>trivial),by decide⟩ ?_)))))
    refine I6 (i:=13) (listed':=L_ 25 13) (fun _=>True) u (by kernel_rfl) (j8 (j8 (y3 (j8 (j8 (y3 (j8 (j8 C0)))))))) (by kernel_rfl) u (by kernel_rfl) (by kernel_rfl) u (.inl fun _ _=>trivial) ⟨⟨m.hasK kr,m.hasObj m0,m.hasObj m2,m.hasObj m1⟩,(fun _=>trivial),by decide⟩ wn u (fun _ _=>(J6 u x u)) (I6 (i:=14) (listed':=L_ 25 14) (fun _=>True) u (by kernel_rfl) (j8 (j8 (y3 (j8 (j8 (y3 (j8 (j8 C0)))))))) (by kernel_rfl) u (by kernel_rfl) (by kernel_rfl) u (.inl fun _ _=>trivial) ⟨⟨m.hasK kr,m.hasObj m0,m.hasObj m2,m.hasObj m1⟩,(fun _=>trivial),by decide⟩ wn u (fun _ _=>(i5 u)) ?_)
    refine a0s (i:=15) (listed':=L_ 25 15) u (by kernel_rfl) (j8 (j8 (y3 (j8 (j8 (y3 (j8 (j8 C0)))))))) (by kernel_rfl) u (by kernel_rfl) (by kernel_rfl) u ⟨⟨m.hasK kr,m.hasObj m0,m.hasObj m2,m.hasObj m1⟩,(fun _=>trivial),by decide⟩ (ug u u u) u (a0s (i:=16) (listed':=L_ 25 16) u (by kernel_rfl) (j8 (j8 (y3 (j8 (j8 (y3 (j8 (j8 C0)))))))) (by kernel_rfl) u (by kernel_rfl) (by kernel_rfl) u ⟨⟨m.hasK kr,m.hasObj m0,m.hasObj m2,m.hasObj m1⟩,(fun _=>trivial),by decide⟩ (ug u u u) u ?_)
    refine a0s (i:=17) (listed':=L_ 25 17) u (by kernel_rfl) (j8 (j8 (y3 (j8 (j8 (y3 (j8 (j8 C0)))))))) (by kernel_rfl) u (by kernel_rfl) (by kernel_rfl) u ⟨⟨m.hasK kr,m.hasObj m0,m.hasObj m2,m.hasObj m1⟩,(fun _=>trivial),by decide⟩ (ug u u u) u (a0s (i:=18) (listed':=L_ 25 18) u (by kernel_rfl) (j8 (j8 (y3 (j8 (j8 (y3 (j8 (j8 C0)))))))) (by kernel_rfl) u (by kernel_rfl) (by kernel_rfl) u ⟨⟨m.hasK kr,m.hasObj m0,m.hasObj m2,m.hasObj m1⟩,(fun _=>trivial),by decide⟩ (ug u u u) u ?_)
    refine a0s (i:=19) (listed':=L_ 25 19) u (by kernel_rfl) (j8 (j8 (y3 (j8 (j8 (y3 (j8 (j8 C0)))))))) (by kernel_rfl) u (by kernel_rfl) (by kernel_rfl) u ⟨⟨m.hasK kr,m.hasObj m0,m.hasObj m2,m.hasObj m1⟩,(fun _=>trivial),by decide⟩ (ug u u u) u (a0s (i:=20) (listed':=L_ 25 20) u (by kernel_rfl) (j8 (j8 (y3 (j8 (j8 (y3 (j8 (j8 C0)))))))) (by kernel_rfl) u (by kernel_rfl) (by kernel_rfl) u ⟨⟨m.hasK kr,m.hasObj m0,m.hasObj m2,m.hasObj m1⟩,(fun _=>trivial),by decide⟩ (ug u u u) u (a5G (i:=21) (by kernel_rfl) u (lu u (i8 (a40 (listed':=L_ 25 21) u ⟨⟨m.hasK kr,m.hasObj m0,m.hasObj m2,m.hasObj m1⟩,(fun _=>trivial),by decide⟩ ?_)))))
    refine a0s (i:=22) (listed':=L_ 25 22) u (by kernel_rfl) (j8 (j8 (y3 (j8 (j8 (y3 (j8 (j8 C0)))))))) (by kernel_rfl) u (by kernel_rfl) (by kernel_rfl) u ⟨⟨m.hasK kr,m.hasObj m0,m.hasObj m2,m.hasObj m1⟩,(fun _=>trivial),by decide⟩ (ug u u u) u (a0s (i:=23) (listed':=L_ 25 23) u (by kernel_rfl) (j8 (j8 (y3 (j8 (j8 (y3 (j8 (j8 C0)))))))) (by kernel_rfl) u (by kernel_rfl) (by kernel_rfl) u ⟨⟨m.hasK kr,m.hasObj m0,m.hasObj m2,m.hasObj m1⟩,(fun _=>trivial),by decide⟩ (ug u u u) u ?_)
    refine I6 (i:=24) (listed':=L_ 25 24) (fun _=>True) u (by kernel_rfl) (j8 (j8 (y3 (j8 (j8 (y3 (j8 (j8 C0)))))))) (by kernel_rfl) u (by kernel_rfl) (by kernel_rfl) u (.inl fun _ _=>trivial) ⟨⟨m.hasK kr,m.hasObj m0,m.hasObj m2,m.hasObj m1⟩,(fun _=>trivial),by decide⟩ wn u (fun _ _=>(J6 u u u)) (a61 (by kernel_rfl) ?_)
    cases oi ac
    exact qd ⟨U,u,m.s,kr⟩
   rintro _ bL ⟨aj,rfl,ak,be⟩
   refine l4 (D4 aO u (fun bf ae=>?_) (fun bf ae=>?_))
   ·refine sr (lv (r_t u) (nq (l3 (j6 (g8 (g8 ?_))))))
    cases oi ae
    cases ag _ u
    refine j6 (g8 ?_)
    cases oi af
    refine g8 ?_
    cases oi X
    exact ey results125 ⟨aj,u,ak.s⟩
   refine j5 (x9 (l4 (j3 (mv u (lv (y4 u u) (av u (i8 ?_)))))))
   cases oi ae
   exact qd ⟨_,u,aj,u,ak,(J.trans be),(s6 _)⟩
  refine w8 (g6 (g6 ?_))
  cases oi ab
  cases ag _ u
  refine l5 ?_
  cases oi af
  exact H9 ⟨_,U,u,u,V.s,J⟩ trivial
 rintro _ bM ⟨bN,bg,rfl,rfl,bh,bO⟩
 have X:=F6 X
 refine qr (lv (P2 u) (nq (l3 ?_)))
 cases oi X
 exact ey results125 ⟨bg,u,bh⟩

theorem b3i {q0:A7}{q1:Int}{r:y5}(hS:SH w K [] w K [])(I:b7 F8 K A a b q0.Docs)(ba:b7 B8 K B c d q0.Entries)(bb:i7 q1)(hm:a2N F q0 q1=some r):
  Calls prog 127 #[.agg #[V3 A a b,V3 B c d],V6 q1] w fun e w'=>∃a_2 n_3 c_4 a_6 n_7 c_8 K',e= .returned (.agg #[V6 r.Id,V3 a_2 n_3 c_4,V3 a_6 n_7 c_8])∧SH w K [] w' K' []∧i7 r.Id∧b7 K5 K' a_2 n_3 c_4 r.Fields∧b7 M5 K' a_6 n_7 c_8 r.Nums:=by
 rw [a2N] at hm
 refine ci func127 u ntmps127 (sr (bx u hS fun J bc ao=>?_))
 have ap:SH _ _ _ _ _ [u9 J [V3 A a b,V3 B c d] 30]:=ao
 refine al F7 ap fun o bd aq=>?_
 have ar:SH _ _ _ _ _ [u9 o [V6 0,V3 none 0 0,V3 none 0 0] 67,_]:=aq
 refine P6 (lv (N4 u) (nq ?_))
 obtain⟨au,aw,H⟩:=ob hm
 refine l6 (fun E' w'=>∃l O R S T U V m,au= .inl l∧E'=[(4,pt o)]∧SH w K [] w' m [u9 o [V6 l.Id,V3 O R S,V3 T U V] 67]∧I9 K m∧i7 l.Id∧b7 K5 m O R S l.Fields∧b7 M5 m T U V l.Nums) ?_ ?_
 ·refine j7 ?_
  obtain⟨be,ax,af⟩:=ob aw
  refine qw (fun (k:Int×y5) E' w'=>∃q s x y C D f,E'=[(1,V6 q1),(2,pt J),(4,pt o),(5,V6 k.1)]∧SH w K [] w' f [u9 J [V3 A a b,V3 B c d] 30,u9 o [V6 k.2.Id,V3 q s x,V3 y C D] 67]∧I9 K f∧i7 k.1∧i7 k.2.Id∧b7 K5 f q s x k.2.Fields∧b7 M5 f y C D k.2.Nums) ax ⟨none,0,0,none,0,0,K,u,ar.f1,kr,M1,M1,(b7.nil _ _),(b7.nil _ _)⟩ ?_
  rintro k _ bf bg ay ag ⟨q,s,x,y,C,D,f,rfl,i,G,bh,ah,ai,aj⟩
  refine p9 (sr (mv u (fl S5 u a4l m0 i u (lv (q7 underlying27 u (I.mono G)) (lv (s7 u u) (nq (D4 ay u (fun az W=>?_) (fun az W=>?_))))))))
  ·refine j5 (qs (j7 (sr (fl S5 u a4l m0 i u (mv u ?_)))))
   obtain⟨aA,aB,aC⟩:=ob W
   refine li underlying27 F7 (I.mono G) aB fun aD aE bi aF aG=>?_
   obtain⟨aH,aI,aJ,aK,aL,aM,rfl,bj,bk,bl⟩:=aF
   have aN:E9 _ aD aE [V6 aA.Id,V3 aH aI aJ,V3 aK aL aM]:=aG
   refine fa S6 u (lv (y7 E4 u i (aN 0 _ u)) (mv u (lv (A6 u u) (nq (D4 aC u (fun aO X=>?_) (fun aO X=>?_))))))
   ·refine sr (fl S5 u a4l m0 i u (mv u ?_))
    obtain⟨ak,aP,aQ⟩:=ob X
    refine li underlying27 F7 (I.mono G) aP fun aR aS bm aT aU=>?_
    obtain⟨Y,aa,ab,ac,ad,ae,rfl,aV,aW,aX⟩:=aT
    have aY:E9 _ aR aS [V6 ak.Id,V3 Y aa ab,V3 ac ad ae]:=aU
    refine lv (F5 F7 u i aY u) (lw [V6 ak.Id,V3 Y aa ab,V3 ac ad ae] F7 i.f1 fun bn am=>(nq (l3 (j6 (g8 (g8 ?_))))))
    cases oi aQ
    cases ag _ u
    refine j6 (g8 ?_)
    cases oi af
    refine g8 ?_
    cases oi H
    exact ez results127 F7 am m0 ⟨Y,aa,ab,ac,ad,ae,f,u,am.s,aV,aW,aX⟩
   refine j5 (x9 (l4 (j3 (mv u (lv (y4 u u) (av u (i8 ?_)))))))
   cases oi X
   exact qd ⟨_,u,q,s,x,y,C,D,f,u,i,G,(s6 _),ah,ai,aj⟩
  refine w8 (g6 (g6 ?_))
  cases oi W
  cases ag _ u
  refine l5 ?_
  cases oi af
  exact qd ⟨_,q,s,x,y,C,D,f,u,u,i.s,G,ah,ai,aj⟩
 rintro _ bo ⟨l,O,R,S,T,U,V,m,rfl,rfl,aZ,bp,bq,br,bs⟩
 have H:=F6 H
 refine qr (lv (D3 (cs:=#[V6 0,V3 none 0 0,V3 none 0 0]) b5Z F7 u (by kernel_rfl)) (lw [V6 0,V3 none 0 0,V3 none 0 0] F7 aZ fun bu an=>(nq (l3 ?_))))
 cases oi H
 exact ez results127 F7 an m0 ⟨none,0,0,none,0,0,m,u,an.s,M1,(b7.nil _ _),(b7.nil _ _)⟩
end Go.Proofs.YtepcfgnicnibnaaGreatDoor
