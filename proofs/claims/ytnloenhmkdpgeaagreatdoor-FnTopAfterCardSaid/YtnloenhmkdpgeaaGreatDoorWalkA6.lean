/-
 Walks of the functions. Printed by gen.py.
-/
import Derived.Test.YtnloenhmkdpgeaaGreatDoorWalkA1
set_option linter.unusedVariables false
set_option linter.unusedSectionVars false
set_option maxRecDepth 100000
namespace Go.Proofs.YtnloenhmkdpgeaaGreatDoor
set_option maxHeartbeats 4000000
open Go Go.Fk Go.RowKit Tryz
variable (F:Nat){w:World}{K:F9}{Z:List Nat}{g1 g2 g3:Nat}{A B C D G H I J O R S T:Option Addr}{a b c d f i k l m n o p q s v x y aa ab ac ad ae af ag:Nat}
variable [dr:Dr]

theorem b2E (F:Nat): ∀{w:World} {K:F9} {b:Option Addr} {c d:Nat} {f:Option Addr} {i k:Nat} {q0:q7} {q1:Int} {r:Bool} (hS:SH w K [] w K []) (I:i7 q0.Kind) (J:q0.Field.length≤maxLen) (O:b7 D9 K b c d q0.Words) (R:i7 q0.From) (S:i7 q0.To) (o:b7 F4 K f i k q0.Kids) (ac:i7 q1) (hm:N8 F q0 q1=some r),
  Calls prog 129 #[.agg #[V6 q0.Kind,sv q0.Field,V3 b c d,V6 q0.From,V6 q0.To,V3 f i k],V6 q1] w (R_b w K r):=by
 induction F with
 | zero=>intros;rename_i hm;rw [N8] at hm;cases hm
 | succ F ih=>
  intro w K b c d f i k q0 q1 r hS I J O R S o ac hm
  rw [N8] at hm
  refine ci func129 u ntmps129 (sr (bx u hS fun m aT ad=>?_))
  have q:SH _ _ _ _ _ [s7 m [V6 q0.Kind,sv q0.Field,V3 b c d,V6 q0.From,V6 q0.To,V3 f i k] 35]:=ad
  refine lv (O6 u) (ns (o4 ?_))
  obtain⟨ae,af,ag⟩:=ob hm
  refine l4 (IV w K [] K [(1,V6 q1),(2,pt m),(12,.bool ae)] [s7 m [V6 q0.Kind,sv q0.Field,V3 b c d,V6 q0.From,V6 q0.To,V3 f i k] 35]) ?_ ?_
  ·refine j5 (mv u (lv (A9 u u) (mv u (bt af (fun a B=>?_) (fun a B=>?_)))))
   ·refine lu a (lu a (lu a (lv (J6 u a u) (i8 ?_))))
    cases oi B
    exact qd ⟨K,u,q,kr⟩
   refine lg a (j6 (ds:=[V6 q0.Kind,sv q0.Field,V3 b c d,V6 q0.From,V6 q0.To,V3 f i k]) B1 u m0 q u u) ?_
   obtain⟨aU,ah,ai⟩:=ob B
   refine A3 (wg u u a) u (A2 (vs:=[.agg #[V6 q0.Kind,sv q0.Field,V3 b c d,V6 q0.From,V6 q0.To,V3 f i k]]) c54 u) (b3P F q.enter0 I J O R S o ah) ?_
   rintro aV aW ⟨aj,rfl,T⟩
   refine⟨_,u,?_⟩
   have ak:=(q.c0 T).t1
   refine lg a (A4 u) (lv (l9 u a u) (i8 ?_))
   cases oi ai
   exact qd ⟨aj,u,ak,T.le⟩
  rintro _ aX ⟨s,rfl,U,V⟩
  refine l5 (D5 ag u (fun al C=>?_) (fun al C=>?_))
  ·refine sr (lv (O6 u) (nq (rr ?_)))
   cases oi C
   exact ey results129 ⟨s,u,U.s⟩
  refine j3 (qs (sr (lv (N2 u) (nq ?_))))
  obtain⟨am,an,x⟩:=ob C
  refine l4 (IE am w K [] s [] []) ?_ ?_
  ·refine j7 ?_
   obtain⟨aY,ao,W⟩:=ob an
   refine qw (fun (D:Int)=>IW w K [] s [(1,V6 q1),(2,pt m),(5,V6 D)] [s7 m [V6 q0.Kind,sv q0.Field,V3 b c d,V6 q0.From,V6 q0.To,V3 f i k] 35] (i7 D)) ao ⟨s,u,U,kr,I5⟩ ?_
   rintro D _ aZ ba ap X ⟨aq,rfl,l,y,bb⟩
   refine o4 (sr (mv u (fl W9 u a5u m0 l u (lv (q9 underlying33 u (o.mono (V.trans y))) (lv (u7 u u) (nq (D5 ap u (fun ar G=>?_) (fun ar G=>?_))))))))
   ·refine j3 (qs (j7 (sr (fl W9 u a5u m0 l u (mv u ?_)))))
    obtain⟨A,au,aw⟩:=ob G
    refine li underlying33 B1 (o.mono (V.trans y)) au fun ax ay bc az aA=>?_
    obtain⟨aB,aC,aD,aE,aF,aG,rfl,aH,aI,aJ,aK,aL,aM⟩:=S9 az
    have aN:F1 _ ax ay [V6 A.Kind,sv A.Field,V3 aB aC aD,V6 A.From,V6 A.To,V3 aE aF aG]:=aA
    refine lv (F3 B1 u l aN u) (mv u (lv (I6 u u) ?_))
    obtain⟨bd,aO,aP⟩:=ob aw
    refine lk c3S (ih l.enter0 aH aI aJ aK aL aM (u0 _) aO) ?_
    rintro be bf ⟨Y,rfl,aa⟩
    have ab:=(l.c0 aa).t1
    refine lv (A4 u) (nq (D5 aP u (fun aQ H=>?_) (fun aQ H=>?_)))
    ·refine sr (lv (O6 u) (nq (j9 (i9 (c9 (c9 ?_))))))
     cases oi H
     cases X _ u
     refine i9 (c9 ?_)
     cases oi W
     refine c9 ?_
     cases oi x
     exact ey results129 ⟨Y,u,ab.s⟩
    refine j3 (x8 (l5 (j5 (mv u (lv (y7 u u) (av u (i8 ?_)))))))
    cases oi H
    exact qd ⟨_,u,Y,u,ab,(y.trans aa.le),(u0 _)⟩
   refine y4 (g8 (g8 ?_))
   cases oi G
   cases X _ u
   refine l6 ?_
   cases oi W
   exact L6 ⟨_,aq,u,u,l.s,y⟩ trivial
  rintro _ bg ⟨bh,aR,rfl,rfl,aS,bi⟩
  have x:=E9 x
  refine qr (lv (r_t u) (nq (j9 ?_)))
  cases oi x
  exact ey results129 ⟨aR,u,aS⟩

theorem a6E {q0:q7}{r:Bool}(hS:SH w K [] w K [])(i:i7 q0.Kind)(k:q0.Field.length≤maxLen)(l:b7 D9 K A a b q0.Words)(m:i7 q0.From)(o:i7 q0.To)(q:b7 F4 K B c d q0.Kids)(hm:Z1 F q0=some r):
  Calls prog 71 #[.agg #[V6 q0.Kind,sv q0.Field,V3 A a b,V6 q0.From,V6 q0.To,V3 B c d]] w (R_b w K r):=by
 rw [Z1] at hm
 refine ci func71 u ntmps71 (sr (bx u hS fun s I x=>?_))
 have f:SH _ _ _ _ _ [s7 s [V6 q0.Kind,sv q0.Field,V3 A a b,V6 q0.From,V6 q0.To,V3 B c d] 35]:=x
 refine lv (O6 u) (nr (lv (j6 (ds:=[V6 q0.Kind,sv q0.Field,V3 A a b,V6 q0.From,V6 q0.To,V3 B c d]) B1 u m0 f u u) ?_))
 obtain⟨J,y,C⟩:=ob hm
 refine lk c3S (b2E F f.enter0 i k l m o q (by decide :i7 4) y) ?_
 rintro O R ⟨D,rfl,G⟩
 have H:=(f.c0 G).t1
 refine av u (nq (j9 ?_))
 cases oi C
 exact ey results71 ⟨D,u,H.s⟩
end Go.Proofs.YtnloenhmkdpgeaaGreatDoor
