/-
 Walks of the functions. Printed by gen.py.
-/
import Derived.Test.YtnloenhmkdpgeaaGreatDoorWalkA0
import Derived.Test.YtnloenhmkdpgeaaGreatDoorWalkA1
set_option linter.unusedVariables false
set_option linter.unusedSectionVars false
set_option maxRecDepth 100000
namespace Go.Proofs.YtnloenhmkdpgeaaGreatDoor
set_option maxHeartbeats 4000000
open Go Go.Fk Go.RowKit Tryz
variable (F:Nat){w:World}{K:F9}{Z:List Nat}{g1 g2 g3:Nat}{A B C D G H I J O R S T:Option Addr}{a b c d f i k l m n o p q s v x y aa ab ac ad ae af ag:Nat}
variable [dr:Dr]

theorem a8x {q0:u6}{q1:r4}{r:r4}(hS:SH w K [] w K [])(C:b7 D9 K A a b q0.Stops)(D:b7 L0 K B c d q0.Syns)(G:q1.length≤maxLen)(hm:a3I F q0 q1=some r):
  Calls prog 88 #[.agg #[V3 A a b,V3 B c d],sv q1] w fun e w'=>∃K',e= .returned (sv r)∧SH w K [] w' K' []∧r.length≤maxLen:=by
 rw [a3I] at hm
 refine ci func88 u ntmps88 (sr (bx u hS fun k au S=>?_))
 have l:SH _ _ _ _ _ [s7 k [V3 A a b,V3 B c d] 26]:=S
 refine lv (r_s u) (ns (o4 ?_))
 obtain⟨T,U,V⟩:=ob hm
 refine l4 (IV w K [] K [(1,sv q1),(2,pt k),(13,.bool T)] [s7 k [V3 A a b,V3 B c d] 26]) ?_ ?_
 ·refine j5 (lv (j6 (ds:=[V3 A a b,V3 B c d]) B9 u m0 l u u) ?_)
  obtain⟨aw,W,X⟩:=ob U
  refine lk c3P (b0N F l.enter0 C D W) ?_
  rintro ax ay ⟨Y,rfl,m⟩
  have o:=(l.c0 m).t1
  refine lv (A4 u) (mv u (bt X (fun f q=>?_) (fun f q=>?_)))
  ·refine lu f (lu f (lu f (lv (J6 u f u) (i8 ?_))))
   cases oi q
   exact qd ⟨Y,u,o,m.le⟩
  refine lg f (i5 u) ?_
  obtain⟨az,aa,ab⟩:=ob q
  refine A3 (wg u u f) u (A2 (vs:=[sv q1]) b0m u) (H9 F o.enter0 G aa) ?_
  rintro aA aB ⟨ac,rfl,H⟩
  refine⟨_,u,?_⟩
  have ad:=(o.c0 H).t1
  refine lg f (A4 u) (lv (l9 u f u) (i8 ?_))
  cases oi ab
  exact qd ⟨ac,u,ad,(m.le.trans H.le)⟩
 rintro _ aC ⟨ae,rfl,i,I⟩
 refine l5 (D5 V u (fun af s=>?_) (fun af s=>?_))
 ·refine sr (lv (r_s u) (nq (rr ?_)))
  cases oi s
  exact ey results88 ⟨ae,u,i.s,(by decide :([]:r4).length≤maxLen)⟩
 refine j3 (qr (lv (j6 (ds:=[V3 A a b,V3 B c d]) B9 u m0 i u u) (mv u ?_)))
 obtain⟨aD,ag,ah⟩:=ob s
 refine lk b6s (a2j F i.enter0 (C.mono I) (D.mono I) G ag) ?_
 rintro aE aF ⟨aG,aH,aI,J,rfl,ai,O⟩
 have x:=(i.c0 ai).t2
 refine av u (O7 (mv u (lv (q9 underlying104 u O) (lv (A9 u u) (nq (D5 ah u (fun aj y=>?_) (fun aj y=>?_)))))))
 ·refine sr (lv (r_s u) (nq (rr ?_)))
  cases oi y
  exact ey results88 ⟨J,u,x.s,(by decide :([]:r4).length≤maxLen)⟩
 refine j3 (qr (mv u ?_))
 obtain⟨R,ak,al⟩:=ob y
 refine li underlying104 M3 O ak fun am an aJ ao ap=>?_
 obtain⟨rfl,aq,aK⟩:=ao
 have ar:F1 _ am an [sv R.Text,V6 R.At]:=ap
 refine fa a3Z u (lv (y9 G7 u x (ar 0 _ u)) (av u (nq (j9 ?_))))
 cases oi al
 exact ey results88 ⟨J,u,x.s,aq⟩
end Go.Proofs.YtnloenhmkdpgeaaGreatDoor
