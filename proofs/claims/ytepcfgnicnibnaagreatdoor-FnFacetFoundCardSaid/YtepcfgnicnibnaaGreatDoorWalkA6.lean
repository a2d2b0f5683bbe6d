/-
 Walks of the functions. Printed by gen.py.
-/
import Derived.Test.YtepcfgnicnibnaaGreatDoorWalkA1
set_option linter.unusedVariables false
set_option linter.unusedSectionVars false
set_option maxRecDepth 100000
namespace Go.Proofs.YtepcfgnicnibnaaGreatDoor
set_option maxHeartbeats 4000000
open Go Go.Fk Go.RowKit Tryz
variable (F:Nat){w:World}{K:F0}{Z:List Nat}{g1 g2 g3:Nat}{A B C D G H I J O R S T:Option Addr}{a b c d f i k l m n o p q s v x y aa ab ac ad ae af ag:Nat}
variable [dr:Dr]

theorem b14 (F:Nat): ∀{w:World} {K:F0} {b:Option Addr} {c d:Nat} {f:Option Addr} {i k:Nat} {q0:r5} {q1:Int} {r:Bool} (hS:SH w K [] w K []) (I:i7 q0.Kind) (J:q0.Field.length≤maxLen) (O:b7 D8 K b c d q0.Words) (R:i7 q0.From) (S:i7 q0.To) (o:b7 F3 K f i k q0.Kids) (ac:i7 q1) (hm:L7 F q0 q1=some r),
  Calls prog 109 #[.agg #[V6 q0.Kind,sv q0.Field,V3 b c d,V6 q0.From,V6 q0.To,V3 f i k],V6 q1] w (R_b w K r):=by
 induction F with
 | zero=>intros;rename_i hm;rw [L7] at hm;cases hm
 | succ F ih=>
  intro w K b c d f i k q0 q1 r hS I J O R S o ac hm
  rw [L7] at hm
  refine ci func109 u ntmps109 (sr (bx u hS fun m aT ad=>?_))
  have q:SH _ _ _ _ _ [u9 m [V6 q0.Kind,sv q0.Field,V3 b c d,V6 q0.From,V6 q0.To,V3 f i k] 33]:=ad
  refine lv (P2 u) (ns (p9 ?_))
  obtain⟨ae,af,ag⟩:=ob hm
  refine l6 (IV w K [] K [(1,V6 q1),(2,pt m),(12,.bool ae)] [u9 m [V6 q0.Kind,sv q0.Field,V3 b c d,V6 q0.From,V6 q0.To,V3 f i k] 33]) ?_ ?_
  ·refine j3 (mv u (lv (A6 u u) (mv u (bt af (fun a B=>?_) (fun a B=>?_)))))
   ·refine lu a (lu a (lu a (lv (L8 u a u) (i8 ?_))))
    cases oi B
    exact qd ⟨K,u,q,kr⟩
   refine lg a (n8 (ds:=[V6 q0.Kind,sv q0.Field,V3 b c d,V6 q0.From,V6 q0.To,V3 f i k]) C6 u m0 q u u) ?_
   obtain⟨aU,ah,ai⟩:=ob B
   refine A0 (wg u u a) u (z7 (vs:=[.agg #[V6 q0.Kind,sv q0.Field,V3 b c d,V6 q0.From,V6 q0.To,V3 f i k]]) c6j u) (b3h F q.enter0 I J O R S o ah) ?_
   rintro aV aW ⟨aj,rfl,T⟩
   refine⟨_,u,?_⟩
   have ak:=(q.c0 T).t1
   refine lg a (A4 u) (lv (o4 u a u) (i8 ?_))
   cases oi ai
   exact qd ⟨aj,u,ak,T.le⟩
  rintro _ aX ⟨s,rfl,U,V⟩
  refine l4 (D4 ag u (fun al C=>?_) (fun al C=>?_))
  ·refine sr (lv (P2 u) (nq (rr ?_)))
   cases oi C
   exact ey results109 ⟨s,u,U.s⟩
  refine j5 (qs (sr (lv (N4 u) (nq ?_))))
  obtain⟨am,an,x⟩:=ob C
  refine l6 (IE am w K [] s [] []) ?_ ?_
  ·refine j7 ?_
   obtain⟨aY,ao,W⟩:=ob an
   refine qw (fun (D:Int)=>IW w K [] s [(1,V6 q1),(2,pt m),(5,V6 D)] [u9 m [V6 q0.Kind,sv q0.Field,V3 b c d,V6 q0.From,V6 q0.To,V3 f i k] 33] (i7 D)) ao ⟨s,u,U,kr,M1⟩ ?_
   rintro D _ aZ ba ap X ⟨aq,rfl,l,y,bb⟩
   refine p9 (sr (mv u (fl T6 u a4H m0 l u (lv (q7 underlying31 u (o.mono (V.trans y))) (lv (s7 u u) (nq (D4 ap u (fun ar G=>?_) (fun ar G=>?_))))))))
   ·refine j5 (qs (j7 (sr (fl T6 u a4H m0 l u (mv u ?_)))))
    obtain⟨A,au,aw⟩:=ob G
    refine li underlying31 C6 (o.mono (V.trans y)) au fun ax ay bc az aA=>?_
    obtain⟨aB,aC,aD,aE,aF,aG,rfl,aH,aI,aJ,aK,aL,aM⟩:=Q6 az
    have aN:E9 _ ax ay [V6 A.Kind,sv A.Field,V3 aB aC aD,V6 A.From,V6 A.To,V3 aE aF aG]:=aA
    refine lv (F5 C6 u l aN u) (mv u (lv (H2 u u) ?_))
    obtain⟨bd,aO,aP⟩:=ob aw
    refine lk c35 (ih l.enter0 aH aI aJ aK aL aM (s6 _) aO) ?_
    rintro be bf ⟨Y,rfl,aa⟩
    have ab:=(l.c0 aa).t1
    refine lv (A4 u) (nq (D4 aP u (fun aQ H=>?_) (fun aQ H=>?_)))
    ·refine sr (lv (P2 u) (nq (l3 (j6 (g8 (g8 ?_))))))
     cases oi H
     cases X _ u
     refine j6 (g8 ?_)
     cases oi W
     refine g8 ?_
     cases oi x
     exact ey results109 ⟨Y,u,ab.s⟩
    refine j5 (x9 (l4 (j3 (mv u (lv (y4 u u) (av u (i8 ?_)))))))
    cases oi H
    exact qd ⟨_,u,Y,u,ab,(y.trans aa.le),(s6 _)⟩
   refine w8 (g6 (g6 ?_))
   cases oi G
   cases X _ u
   refine l5 ?_
   cases oi W
   exact H9 ⟨_,aq,u,u,l.s,y⟩ trivial
  rintro _ bg ⟨bh,aR,rfl,rfl,aS,bi⟩
  have x:=F6 x
  refine qr (lv (r_t u) (nq (l3 ?_)))
  cases oi x
  exact ey results109 ⟨aR,u,aS⟩

theorem a59 {q0:r5}{r:Bool}(hS:SH w K [] w K [])(i:i7 q0.Kind)(k:q0.Field.length≤maxLen)(l:b7 D8 K A a b q0.Words)(m:i7 q0.From)(o:i7 q0.To)(q:b7 F3 K B c d q0.Kids)(hm:V9 F q0=some r):
  Calls prog 48 #[.agg #[V6 q0.Kind,sv q0.Field,V3 A a b,V6 q0.From,V6 q0.To,V3 B c d]] w (R_b w K r):=by
 rw [V9] at hm
 refine ci func48 u ntmps48 (sr (bx u hS fun s I x=>?_))
 have f:SH _ _ _ _ _ [u9 s [V6 q0.Kind,sv q0.Field,V3 A a b,V6 q0.From,V6 q0.To,V3 B c d] 33]:=x
 refine lv (P2 u) (nr (lv (n8 (ds:=[V6 q0.Kind,sv q0.Field,V3 A a b,V6 q0.From,V6 q0.To,V3 B c d]) C6 u m0 f u u) ?_))
 obtain⟨J,y,C⟩:=ob hm
 refine lk c35 (b14 F f.enter0 i k l m o q (by decide :i7 4) y) ?_
 rintro O R ⟨D,rfl,G⟩
 have H:=(f.c0 G).t1
 refine av u (nq (l3 ?_))
 cases oi C
 exact ey results48 ⟨D,u,H.s⟩
end Go.Proofs.YtepcfgnicnibnaaGreatDoor
