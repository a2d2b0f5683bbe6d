/-
 Walks of the functions. Printed by gen.py.
-/
import Derived.Test.YtmkhlppjphodfaaGreatDoorFacts
set_option linter.unusedVariables false
set_option linter.unusedSectionVars false
set_option maxRecDepth 100000
namespace Go.Proofs.YtmkhlppjphodfaaGreatDoor
set_option maxHeartbeats 4000000
open Go Go.Fk Go.RowKit Tryz
variable (F : Nat) {w : World} {K : C5} {Z : List Nat} {g1 g2 g3 : Nat} {A B C D G H I J O R S T : Option Addr} {a b c d f i k l m n o p q s v x y aa ab ac ad ae af ag : Nat}
variable [dr : Dr]

theorem a5E {q0 : List k6} {q1 : k6} {r : (List k6)} (hS : SH w K Z w K [tail (V3 A a b) 9 1]) (f : b7 B8 K A a b q0) (T : q1.length ≤ maxLen) (hm : S9 F q0 q1 = some r) :
  Calls prog 221 #[V3 A a b, sv q1] w fun e w' => ∃ a_1 n_2 c_3 K', e = .returned (V3 a_1 n_2 c_3) ∧ SH w K Z w' K' [tail (V3 a_1 n_2 c_3) 9 1] ∧ b7 B8 K' a_1 n_2 c_3 r := by
 rw [S9] at hm
 refine ci func221 rfl ntmps221 (sr (lv (r_n rfl) (nr (lv (L3 rfl) (ns ?_)))))
 obtain ⟨m, U, V⟩ := ob hm
 refine j4 (IW w K Z K [(0, V3 A a b), (1, sv q1), (5, V6 m)] [tail (V3 A a b) 9 1] (d9 m)) ?_ ?_
 ·refine i5 ?_
  obtain ⟨bg, W, X⟩ := ob U
  refine qw (fun (k : Int) => IW w K Z K [(0, V3 A a b), (1, sv q1), (5, V6 k)] [tail (V3 A a b) 9 1] (d9 k)) W ⟨K, rfl, hS, kr, I0⟩ ?_
  rintro k _ bh bi Y aa ⟨o, rfl, q, l, ab⟩
  refine k8 (k8 ?_)
  obtain ⟨ac, ad, ae⟩ := ob Y
  refine j4 (IV w K Z o [(0, V3 A a b), (1, sv q1), (5, V6 k), (18, .bool ac)] [tail (V3 A a b) 9 1]) ?_ ?_
  ·refine i7 (mv rfl (mv rfl (lv (k9 underlying23 rfl (f.mono l)) (lv (n8 rfl rfl) (mv rfl (bt ad (fun c s => ?_) (fun c s => ?_)))))))
   ·refine lg c (d6 rfl) (lg c (d6 rfl) ?_)
    obtain ⟨af, ag, ah⟩ := ob s
    refine H1 (t := B8) (wg rfl rfl c) rfl underlying23 D9 rfl rfl (f.mono l) ag fun ai aj bj ak al => ?_
    obtain ⟨rfl, bk⟩ := ak
    have am : D0 _ ai aj [sv af] := al
    refine lg c (u0 D9 rfl q (am 0 _ rfl)) (lg c (d6 rfl) (lg c (b3R rfl rfl) (lv (j3 rfl c rfl) (d7 ?_))))
    cases oi ah
    exact qd ⟨o, rfl, q, kr⟩
   iterate 6 refine lu c ?_
   refine lv (F7 rfl c rfl) (d7 ?_)
   cases oi s
   exact qd ⟨o, rfl, q, kr⟩
  rintro _ bl ⟨H, rfl, I, J⟩
  refine j6 (B5 ae rfl (fun an x => ?_) (fun an x => ?_))
  ·refine i6 (j6 (i5 (i7 (mv rfl (lv (s6 rfl rfl) (av rfl (nb ?_)))))))
   cases oi x
   exact qd ⟨_, rfl, H, rfl, I, (l.trans J), (l9 _)⟩
  refine q7 (d4 (d4 ?_))
  cases oi x
  cases aa _ rfl
  refine j5 ?_
  cases oi X
  exact qd ⟨H, rfl, I, (l.trans J), ab⟩
 rintro _ bm ⟨y, rfl, B, i, bn⟩
 refine qs (k8 ?_)
 obtain ⟨ao, ap, aq⟩ := ob V
 refine j4 (IV w K Z y [(0, V3 A a b), (1, sv q1), (5, V6 m), (32, .bool ao)] [tail (V3 A a b) 9 1]) ?_ ?_
 ·refine i7 (mv rfl (mv rfl (lv (k9 underlying23 rfl (f.mono i)) (lv (n8 rfl rfl) (mv rfl (bt ap (fun d C => ?_) (fun d C => ?_)))))))
  ·refine lg d (d6 rfl) (lg d (d6 rfl) ?_)
   obtain ⟨ar, au, aw⟩ := ob C
   refine H1 (t := B8) (wg rfl rfl d) rfl underlying23 D9 rfl rfl (f.mono i) au fun ax ay bo az aA => ?_
   obtain ⟨rfl, bp⟩ := az
   have aB : D0 _ ax ay [sv ar] := aA
   refine lg d (u0 D9 rfl B (aB 0 _ rfl)) (lg d (d6 rfl) (lg d (H0 rfl rfl) (lv (j3 rfl d rfl) (d7 ?_))))
   cases oi aw
   exact qd ⟨y, rfl, B, kr⟩
  iterate 6 refine lu d ?_
  refine lv (F7 rfl d rfl) (d7 ?_)
  cases oi C
  exact qd ⟨y, rfl, B, kr⟩
 rintro _ bq ⟨aC, rfl, O, D⟩
 refine j6 (B5 aq rfl (fun aD G => ?_) (fun aD G => ?_))
 ·refine sr (mv rfl (av rfl (nq (rr ?_))))
  cases oi G
  exact ey results221 ⟨A, a, b, aC, rfl, O, (f.mono (i.trans D))⟩
 refine i6 (qr (b0 B8 underlying23 D9 O fun br bs bu R aE aF => (mv rfl (mv rfl ?_))))
 obtain ⟨bv, aG, aH⟩ := ob G
 refine b1k (t := B8) wn rfl underlying23 D9 rfl rfl (f.mono ((i.trans D).trans R)) aG fun bx bz bA aI => ?_
 obtain ⟨bB, aJ, aK⟩ := ob aH
 refine lp underlying23 D9 aE aI aJ aF fun bC bD bE bF bG aL aM aN => (av rfl (nr (mv rfl (mv rfl (lb B8 (sv q1) [sv q1] q1 underlying23 D9 ⟨rfl, T⟩ aN fun bH bI bJ S aO aP => ?_)))))
 obtain ⟨bK, aQ, aR⟩ := ob aK
 refine lp underlying23 D9 (aM.mono S) aO aQ aP.f1 fun bL bM bN bO bP aS aT aU => (av rfl (nr (mv rfl (mv rfl (mv rfl ?_)))))
 obtain ⟨bQ, aV, aW⟩ := ob aR
 refine a6M (t := B8) wn rfl underlying23 D9 rfl rfl (b7.mono (((((i.trans D).trans R).trans aL).trans S).trans aS) f) aV fun bR bS bT aX => ?_
 obtain ⟨bU, aY, aZ⟩ := ob aW
 refine lp underlying23 D9 aT aX aY aU fun ba bb bc bV bd bW be bf => (av rfl (nq (i9 ?_)))
 cases oi aZ
 exact ey results221 ⟨ba, bb, bc, bd, rfl, bf.s, be⟩

theorem a8o {q0 : List s7} {r : (List k6)} (hS : SH w K [] w K []) (S : b7 E1 K A a b q0) (hm : a0G F q0 = some r) :
  Calls prog 173 #[V3 A a b] w fun e w' => ∃ a_1 n_2 c_3 K', e = .returned (V3 a_1 n_2 c_3) ∧ SH w K [] w' K' [tail (V3 a_1 n_2 c_3) 9 1] ∧ b7 B8 K' a_1 n_2 c_3 r := by
 rw [a0G] at hm
 refine ci func173 rfl ntmps173 (sr (lv (r_n rfl) (nr (b0 B8 underlying23 D9 hS fun a5 w6 T U ae af => (av rfl (P6 (lv (L3 rfl) (nq ?_))))))))
 obtain ⟨ag, ah, ai⟩ := ob hm
 refine j4 (fun E' w' => ∃ m o q s, E' = [(3, V3 m o q)] ∧ SH w K [] w' s [tail (V3 m o q) 9 1] ∧ H6 T s ∧ b7 B8 s m o q ag) ?_ ?_
 ·refine i5 ?_
  obtain ⟨bC, aj, ak⟩ := ob ah
  refine qw (fun (d : (List k6) × Int) E' w' => ∃ f i k c, E' = [(0, V3 A a b), (3, V3 f i k), (4, V6 d.2)] ∧ SH w K [] w' c [tail (V3 f i k) 9 1] ∧ H6 T c ∧ b7 B8 c f i k d.1 ∧ d9 d.2) aj ⟨a5, 0, 0, T, rfl, af, kr, ae, I0⟩ ?_
  rintro d _ bD bE al am ⟨f, i, k, c, rfl, X, x, Y, bF⟩
  refine k8 (sr (mv rfl (mv rfl (lv (k9 underlying35 rfl (S.mono (U.trans x))) (lv (n8 rfl rfl) (nq (B5 al rfl (fun an V => ?_) (fun an V => ?_))))))))
  ·refine i6 (qs (i5 (sr (lv (L3 rfl) (nq ?_)))))
   obtain ⟨ao, ap, aq⟩ := ob V
   refine j4 (fun E' w' => ∃ y B C D, E' = [(0, V3 A a b), (3, V3 y B C), (4, V6 d.2)] ∧ SH w K [] w' D [tail (V3 y B C) 9 1] ∧ H6 c D ∧ b7 B8 D y B C ao) ?_ ?_
   ·refine i5 ?_
    obtain ⟨bG, ar, au⟩ := ob ap
    refine qw (fun (O : (List k6) × Int) E' w' => ∃ G H I J, E' = [(0, V3 A a b), (3, V3 G H I), (4, V6 d.2), (5, V6 O.2)] ∧ SH w K [] w' J [tail (V3 G H I) 9 1] ∧ H6 c J ∧ b7 B8 J G H I O.1 ∧ d9 O.2) ar ⟨f, i, k, c, rfl, X, kr, Y, I0⟩ ?_
    rintro O _ bH bI aw ax ⟨G, H, I, J, rfl, l, R, aa, bJ⟩
    refine k8 (sr (mv rfl (mv rfl (mv rfl ?_))))
    obtain ⟨ay, az, aA⟩ := ob aw
    refine li underlying35 C0 (S.mono ((U.trans x).trans R)) az fun aB aC bK aD aE => ?_
    obtain ⟨aF, aG, aH, aI, aJ, aK, rfl, bL, aL, bM⟩ := aD
    have aM : D0 _ aB aC [V6 ay.Id, V3 aF aG aH, V3 aI aJ aK] := aE
    refine fa W0 rfl (lv (u0 a3Y rfl l (aM 1 _ rfl)) (lv (k9 underlying51 rfl aL) (lv (n8 rfl rfl) (nq (B5 aA rfl (fun aN W => ?_) (fun aN W => ?_))))))
    ·refine i6 (qs (i5 (i7 (mv rfl (mv rfl (mv rfl ?_))))))
     obtain ⟨aO, aP, aQ⟩ := ob W
     refine li underlying35 C0 (S.mono ((U.trans x).trans R)) aP fun aR aS bN aT aU => ?_
     obtain ⟨aV, aW, aX, aY, aZ, ba, rfl, bO, bb, bP⟩ := aT
     have bc : D0 _ aR aS [V6 aO.Id, V3 aV aW aX, V3 aY aZ ba] := aU
     refine fa W0 rfl (lv (u0 a3Y rfl l (bc 1 _ rfl)) (mv rfl ?_))
     obtain ⟨ab, bd, be⟩ := ob aQ
     refine li underlying51 M9 bb bd fun bf bg bQ bh bi => ?_
     obtain ⟨rfl, bj, bR⟩ := bh
     have bk : D0 _ bf bg [sv ab.Name, sv ab.Text] := bi
     refine fa a2l rfl (lv (u0 D9 rfl l (bk 0 _ rfl)) ?_)
     obtain ⟨bS, bl, bm⟩ := ob be
     refine lk b7z (a5E F l.e1 aa bj bl) ?_
     rintro bT bU ⟨bn, bo, bp, bq, rfl, ac, br⟩
     have bs := (l.c1 ac).t1
     refine av rfl (nb (j6 (i7 (mv rfl (lv (s6 rfl rfl) (av rfl (d7 ?_)))))))
     cases oi bm
     exact qd ⟨_, rfl, bn, bo, bp, bq, rfl, bs, (R.trans ac.le), br, (l9 _)⟩
    refine q7 (d4 (d4 ?_))
    cases oi W
    cases ax _ rfl
    refine j5 ?_
    cases oi au
    exact qd ⟨G, H, I, J, rfl, l, R, aa⟩
   rintro _ bV ⟨y, B, C, D, rfl, bu, bv, bx⟩
   refine o0 (j6 (i7 (mv rfl (lv (s6 rfl rfl) (av rfl (d7 ?_))))))
   cases oi aq
   exact qd ⟨_, rfl, y, B, C, D, rfl, bu, (x.trans bv), bx, (l9 _)⟩
  refine q7 (d4 (d4 ?_))
  cases oi V
  cases am _ rfl
  refine j5 ?_
  cases oi ak
  exact qd ⟨f, i, k, c, rfl, X, x, Y⟩
 rintro _ bW ⟨m, o, q, s, rfl, bz, bX, bA⟩
 refine qr (mv rfl (av rfl (nq (i9 ?_))))
 cases oi ai
 exact ey results173 ⟨m, o, q, s, rfl, bz, bA⟩

theorem a6u {q0 : s7} {r : s7} (hS : SH w K [] w K []) (G : d9 q0.Id) (H : b7 F3 K A a b q0.Fields) (I : b7 G5 K B c d q0.Nums) (hm : a0V F q0 = some r) :
  Calls prog 176 #[.agg #[V6 q0.Id, V3 A a b, V3 B c d]] w fun e w' => ∃ a_2 n_3 c_4 a_6 n_7 c_8 K', e = .returned (.agg #[V6 r.Id, V3 a_2 n_3 c_4, V3 a_6 n_7 c_8]) ∧ SH w K [] w' K' [tail (V3 a_2 n_3 c_4) 158 2, tail (V3 a_6 n_7 c_8) 197 2] ∧ d9 r.Id ∧ b7 F3 K' a_2 n_3 c_4 r.Fields ∧ b7 G5 K' a_6 n_7 c_8 r.Nums := by
 rw [a0V] at hm
 refine ci func176 rfl ntmps176 (sr (bx rfl hS fun aC aX aE => ?_))
 have aF : SH _ _ _ _ _ [q8 aC [V6 q0.Id, V3 A a b, V3 B c d] 54] := aE
 refine al C0 aF fun aG aY aH => ?_
 have aI : SH _ _ _ _ _ [q8 aG [V6 0, V3 none 0 0, V3 none 0 0] 54, _] := aH
 refine ns ?_
 obtain ⟨aZ, J, aJ⟩ := ob hm
 obtain ⟨ba, O, R⟩ := ob aJ
 have v := aI.drew
 refine j_0 (fun w' => E7 K w' ∧ y7 aC [V6 q0.Id, V3 A a b, V3 B c d] w') 12 [] mixed ⟨v.hasK kr, v.hasObj m1⟩ (jv 0 rfl (b8 X7 rfl) (jh 1 rfl (fun _ h => y2 D8 rfl rfl h.2) (jv 3 rfl (b8 W0 rfl) (jh 4 rfl (fun _ h => y2 a3Y rfl rfl h.2) (jv 7 rfl (b8 X8 rfl) (jh 8 rfl (fun _ h => y2 a4e rfl rfl h.2) (j2 2 6 rfl rfl ?_ ?_)))))))
 ·refine b0 F3 underlying51 M9 v fun bb bc bd f aD x => (W2 ⟨x.hasK f, x.hasObj m2⟩ (j2 5 6 rfl rfl ?_ ?_))
  ·refine lp underlying51 M9 aD (H.mono f) J x fun S T U be bf m aK V => (W2 ⟨V.hasK (f.trans m), V.hasObj m2⟩ (j1 6 rfl (b0 G5 underlying52 P9 V fun bg bh bi o aL W => (W2 ⟨W.hasK ((f.trans m).trans o), W.hasObj m3⟩ (j1 9 rfl (lp underlying52 P9 aL (I.mono ((f.trans m).trans o)) O W fun X Y aa bj aM ab aN ac => (W2 ⟨ac.hasK (((f.trans m).trans o).trans ab), ac.hasObj m3⟩ (jv 10 rfl (A5 (cs := #[V6 q0.Id, V3 S T U, V3 X Y aa]) a93 C0 rfl (by kernel_rfl)) (j1 11 rfl ?_)))))))))
   refine lw [V6 q0.Id, V3 S T U, V3 X Y aa] C0 ac.f2 fun bk y => (W2 ⟨y.hasK (((f.trans m).trans o).trans ab), y.hasObj m3⟩ (jd (j6 (i9 ?_))))
   cases oi R
   exact ez results176 C0 y m0 ⟨S, T, U, X, Y, aa, aM, rfl, y.f1.f2.s, G, (aK.mono (o.trans ab)), aN⟩
  refine b0 G5 underlying52 P9 x fun bl bm bn i aO ad => (W2 ⟨ad.hasK (f.trans i), ad.hasObj m3⟩ (j1 5 rfl (lp underlying51 M9 (aD.mono i) (H.mono (f.trans i)) J ad.f1 fun ae af ag bo bp q aP ah => (W2 ⟨ah.hasK ((f.trans i).trans q), ah.hasObj m3⟩ (j1 9 rfl (lp underlying52 P9 (aO.mono q) (I.mono ((f.trans i).trans q)) O ah.f1 fun ai aj ak bq aQ am aR an => (W2 ⟨an.hasK (((f.trans i).trans q).trans am), an.hasObj m3⟩ (jv 10 rfl (A5 (cs := #[V6 q0.Id, V3 ae af ag, V3 ai aj ak]) a93 C0 rfl (by kernel_rfl)) (j1 11 rfl ?_)))))))))
  refine lw [V6 q0.Id, V3 ae af ag, V3 ai aj ak] C0 an.f2 fun br C => (W2 ⟨C.hasK (((f.trans i).trans q).trans am), C.hasObj m3⟩ (jd (j6 (i9 ?_))))
  cases oi R
  exact ez results176 C0 C m0 ⟨ae, af, ag, ai, aj, ak, aQ, rfl, C.f1.f2.s, G, (aP.mono am), aR⟩
 refine b0 G5 underlying52 P9 v fun bs bu bv k aS ao => (W2 ⟨ao.hasK k, ao.hasObj m2⟩ (j1 2 rfl (b0 F3 underlying51 M9 ao fun bz bA bB l aT ap => (W2 ⟨ap.hasK (k.trans l), ap.hasObj m3⟩ (j1 5 rfl (lp underlying51 M9 aT (H.mono (k.trans l)) J ap fun aq ar au bC bD s aU aw => (W2 ⟨aw.hasK ((k.trans l).trans s), aw.hasObj m3⟩ (j1 9 rfl (lp underlying52 P9 (aS.mono (l.trans s)) (I.mono ((k.trans l).trans s)) O aw.f1 fun ax ay az bE aV aA aW aB => ?_)))))))))
 refine W2 ⟨aB.hasK (((k.trans l).trans s).trans aA), aB.hasObj m3⟩ (jv 10 rfl (A5 (cs := #[V6 q0.Id, V3 aq ar au, V3 ax ay az]) a93 C0 rfl (by kernel_rfl)) (j1 11 rfl (lw [V6 q0.Id, V3 aq ar au, V3 ax ay az] C0 aB.f2 fun bF D => (W2 ⟨D.hasK (((k.trans l).trans s).trans aA), D.hasObj m3⟩ (jd (j6 (i9 ?_)))))))
 cases oi R
 exact ez results176 C0 D m0 ⟨aq, ar, au, ax, ay, az, aV, rfl, D.f1.f2.s, G, (aU.mono aA), aW⟩

theorem a6o {q0 : u9} {q1 : k6} {q2 : y9} {r : Bool} (hS : SH w K Z w K [q8 c [sv q1] 9, q8 d [sv q2.Text, V6 q2.At] 117]) (o : q0.Field.length ≤ maxLen) (q : q0.Term.length ≤ maxLen) (s : b7 S1 K A a b q0.Posts) (x : q1.length ≤ maxLen) (y : q2.Text.length ≤ maxLen) (B : d9 q2.At) (hm : a0T F q0 q1 q2 = some r) :
  Calls prog 166 #[.agg #[sv q0.Field, sv q0.Term, V3 A a b], .pointer (some ⟨c, 0, none⟩), .pointer (some ⟨d, 0, none⟩)] w fun e w' => ∃ K', e = .returned (.bool r) ∧ SH w K Z w' K' [q8 c [sv q1] 9, q8 d [sv q2.Text, V6 q2.At] 117] := by
 rw [a0T] at hm
 refine ci func166 rfl ntmps166 (sr (bx rfl hS fun l C m => ?_))
 have i : SH _ _ _ _ _ [q8 l [sv q0.Field, sv q0.Term, V3 A a b] 112, _, _] := m
 refine lv (M7 rfl) (nr (fl a0l rfl D9 m0 i rfl (lv (l8 D9 rfl m1 i rfl) (lv (H0 rfl rfl) (mv rfl (bt hm (fun f k => ?_) (fun f k => ?_)))))))
 ·refine lg f (b8 X5 rfl) (lg f (l8 D9 rfl m0 i rfl) (lg f (b8 a1q rfl) (lg f (l8 D9 rfl m2 i rfl) (lg f (H0 rfl rfl) (lv (j3 rfl f rfl) (av rfl (nq (i9 ?_))))))))
  cases oi k
  exact ey results166 ⟨K, rfl, i.s⟩
 iterate 5 refine lu f ?_
 refine lv (F7 rfl f rfl) (av rfl (nq (i9 ?_)))
 cases oi k
 exact ey results166 ⟨K, rfl, i.s⟩

theorem Z4 {q0 : List u9} {q1c0 : k6} {q1c1 : y9} {r : Int} (hS : SH w K Z w K [q8 c [sv q1c0] 9, q8 d [sv q1c1.Text, V6 q1c1.At] 117]) (f : b7 z6 K A a b q0) (O : q1c0.length ≤ maxLen) (R : q1c1.Text.length ≤ maxLen) (S : d9 q1c1.At) (hm : C7 F q0 q1c0 q1c1 = some r) :
  Calls prog 165 #[V3 A a b, .func (.func 166) #[] #[.pointer (some ⟨c, 0, none⟩), .pointer (some ⟨d, 0, none⟩)]] w fun e w' => ∃ K', e = .returned (V6 r) ∧ SH w K Z w' K' [q8 c [sv q1c0] 9, q8 d [sv q1c1.Text, V6 q1c1.At] 117] ∧ d9 r := by
 rw [C7] at hm
 refine ci func165 rfl ntmps165 (sr (lv (L3 rfl) (P6 (mv rfl (lv (k9 underlying44 rfl f) (lv (r_m rfl) (nq ?_)))))))
 obtain ⟨T, U, i⟩ := ob hm
 refine j4 (IE T w K Z K [] [q8 c [sv q1c0] 9, q8 d [sv q1c1.Text, V6 q1c1.At] 117]) ?_ ?_
 ·refine i5 ?_
  obtain ⟨aq, V, q⟩ := ob U
  refine qf (fun (s : Nat) (x : Unit) => IV w K Z K [(0, V3 A a b), (1, .func (.func 166) #[] #[pt c, pt d]), (7, V6 (q0.length : Int)), (8, V6 ((s : Nat) : Int))] [q8 c [sv q1c0] 9, q8 d [sv q1c1.Text, V6 q1c1.At] 117]) V ⟨K, rfl, hS, kr⟩ ?_ ?_
  ·rintro s x _ W ar hi28 X Y ⟨y, rfl, k, l⟩
   refine sr (lv (n8 rfl rfl) (ns (A3 rfl (c7 (by omega)) (i6 (j6 (k8 (i5 (sr (mv rfl (av rfl (nr (mv rfl ?_))))))))))))
   refine mv rfl (mv rfl ?_)
   obtain ⟨m, aa, ab⟩ := ob X
   refine li underlying44 E3 (f.mono l) aa fun ac ad au ae af => ?_
   obtain ⟨B, C, D, rfl, ag, ah, ai⟩ := ae
   have aj : D0 _ ac ad [sv m.Field, sv m.Term, V3 B C D] := af
   refine lv (D4 E3 rfl k aj rfl) ?_
   obtain ⟨aw, ak, al⟩ := ob ab
   have G := k.f1.f1
   refine x9 wn rfl (a9t (vs := [.agg #[sv m.Field, sv m.Term, V3 B C D]]) (cap := #[pt c, pt d]) b85 rfl rfl) (a6o F G.e2 ag ah ai O R S ak) ?_
   rintro ax ay ⟨H, rfl, I⟩
   refine ⟨_, rfl, ?_⟩
   have J := (G.c2 I).t2
   refine nq (B5 al rfl (fun am o => ?_) (fun am o => ?_))
   ·refine sr (mv rfl (av rfl (nq (i9 (d8 (c9 (c9 ?_)))))))
    cases oi o
    cases Y _ rfl
    refine d8 (c9 ?_)
    cases oi q
    refine c9 ?_
    cases oi i
    exact ey results165 ⟨H, rfl, J, (b05 hi28 (b7.max f))⟩
   refine i6 (o0 (qg (lv (y3 rfl rfl (A0 hi28 (b7.max f))) (mv rfl (d7 ?_)))))
   cases oi o
   exact qd ⟨_, rfl, H, rfl, J, (l.trans I.le)⟩
  rintro x _ W an ⟨y, rfl, k, l⟩
  subst an
  refine sr (lv (n8 rfl rfl) (ns (A2 rfl (c6 (by omega)) (q7 (d4 (d4 (j5 ?_)))))))
  cases oi q
  exact H9 ⟨_, y, rfl, rfl, k, l⟩ trivial
 rintro _ az ⟨aA, ao, rfl, rfl, ap, aB⟩
 have i := C8 i
 refine qr (lv (r9 (v := V6 (-1)) rfl) (nq (i9 ?_)))
 cases oi i
 exact ey results165 ⟨ao, rfl, ap, (by decide : d9 (-1))⟩

theorem a78 {g : Nat} {a : Option Addr} {n : Nat} {c : Nat} {lay : List F6} {q0 : z2} {q1 : k6} {q2 : y9} {q3 : Int} {r : z2} (aJ : SH w K (List.flatMap B6.gs [q8 g [V3 A b d, V3 a n c] 46, a4Z (L0 112 71 3 a n c lay)]) w K [q8 g [V3 A b d, V3 a n c] 46, a4Z (L0 112 71 3 a n c lay)]) (aK : b7 E1 K A b d q0.Docs) (U : a4g lay q0.Entries) (ap : q1.length ≤ maxLen) (aq : q2.Text.length ≤ maxLen) (ag : d9 q2.At) (aL : d9 q3) (hm : a0s F q0 q1 q2 q3 = some r) :
  Calls prog 116 #[.pointer (some ⟨g, 0, none⟩), sv q1, .agg #[sv q2.Text, V6 q2.At], V6 q3] w fun e w' => ∃ a_1 n_2 c_3 a_4 n_5 c_6 lay_7 K', e = .returned (.tuple #[]) ∧ SH w K (List.flatMap B6.gs [q8 g [V3 A b d, V3 a n c] 46, a4Z (L0 112 71 3 a n c lay)]) w' K' [q8 g [V3 a_1 n_2 c_3, V3 a_4 n_5 c_6] 46, a4Z (L0 112 71 3 a_4 n_5 c_6 lay_7)] ∧ b7 E1 K' a_1 n_2 c_3 r.Docs ∧ a4g lay_7 r.Entries := by
 rw [a0s] at hm
 obtain ⟨k, aM, h1⟩ := ob hm
 obtain ⟨es, B, h2⟩ := ob h1
 obtain ⟨en, ar, h3⟩ := ob h2
 obtain ⟨ps, C, h4⟩ := ob h3
 obtain ⟨p, ah, h5⟩ := ob h4
 obtain ⟨at_, V, h6⟩ := ob h5
 cases oi h6
 have aT : SH w K (List.flatMap B6.gs [q8 g [V3 A b d, V3 a n c] 46, a4Z (L0 112 71 3 a n c lay)]) w K (Y2 112 a n c lay :: ((lay).flatMap (F6.items 71 3) ++ [q8 g [V3 A b d, V3 a n c] 46])) := (aJ.perm (List.Perm.swap _ _ _)).unpack
 have aU : SH w K (List.flatMap B6.gs [q8 g [V3 A b d, V3 a n c] 46, a4Z (L0 112 71 3 a n c lay)]) w K (q8 g [V3 A b d, V3 a n c] 46 :: Y2 112 a n c lay :: (lay).flatMap (F6.items 71 3)) := aT.perm (by rw [← List.cons_append]; exact List.perm_append_singleton _ _ |>.symm)
 generalize hMM : (List.flatMap B6.gs [q8 g [V3 A b d, V3 a n c] 46, a4Z (L0 112 71 3 a n c lay)]) = MM at *
 refine ci func116 rfl ntmps116 (sr (bx rfl aU fun i w5 hS3' => ?_))
 have aW : SH w K MM w5 K (q8 i [sv q1] 9 :: q8 g [V3 A b d, V3 a n c] 46 :: Y2 112 a n c lay :: (lay).flatMap (F6.items 71 3)) := hS3'
 refine bx rfl aW fun f w6 hS4' => ?_
 have au : SH w K MM w6 K (q8 f [sv q2.Text, V6 q2.At] 117 :: q8 i [sv q1] 9 :: q8 g [V3 A b d, V3 a n c] 46 :: Y2 112 a n c lay :: (lay).flatMap (F6.items 71 3)) := hS4'
 refine nr (mv rfl (lv (v8 rfl) (fl G3 rfl tf44 m2 au rfl (lv (b18 (vs := [pt i, pt f]) rfl) ?_))))
 obtain ⟨gs, hgs⟩ : ∃ gs, gs = (Y2 112 a n c lay :: (lay).flatMap (F6.items 71 3)).flatMap B6.gs := ⟨_, rfl⟩
 have s : SH w K MM w6 K ([q8 i [sv q1] 9, q8 f [sv q2.Text, V6 q2.At] 117] ++ (q8 g [V3 A b d, V3 a n c] 46 :: Y2 112 a n c lay :: (lay).flatMap (F6.items 71 3))) := au.perm (List.Perm.swap _ _ _)
 have hnd := s.nodup
 rw [List.flatMap_append, List.nodup_append, List.flatMap_cons] at hnd
 have hg56 : i ∉ gs ∧ f ∉ gs := by
  rw [hgs]
  exact ⟨fun hb => hnd.2.2 i (by simp [q8, Go.Fk.one]) i (List.mem_append_right _ hb) rfl, fun hb => hnd.2.2 f (by simp [q8, Go.Fk.one]) f (List.mem_append_right _ hb) rfl⟩
 have hseg := b51 (TE := 112) (TP := 71) (TI := 3) (gs := gs) s (fun it hi => List.mem_append_right _ (List.mem_cons_of_mem _ hi)) (fun it hi b hb => by rw [hgs]; exact List.mem_flatMap.2 ⟨it, hi, hb⟩) U
 have hlnd := s.lend (Kin := a7i K w6 gs) (b0t s.holds) (fun it hi => by
  rcases List.mem_cons.1 hi with rfl | hi
  ·exact b3y (s.items _ (List.mem_cons_self ..)) hg56.1
  rcases List.mem_singleton.1 hi with rfl
  exact b3y (s.items _ (List.mem_cons_of_mem _ (List.mem_cons_self ..))) hg56.2)
 refine lk b84 (Z4 F hlnd hseg.1 ap aq ag aM) ?_
 rintro e7 w7 ⟨K7, rfl, hS7', bz⟩
 have aX : SH w K MM w7 K ([q8 i [sv q1] 9, q8 f [sv q2.Text, V6 q2.At] 117] ++ (q8 g [V3 A b d, V3 a n c] 46 :: Y2 112 a n c lay :: (lay).flatMap (F6.items 71 3))) := s.lent (a9w s.holds) hS7' rfl (fun it hi => by
  rcases List.mem_cons.1 hi with rfl | hi
  ·exact b5N (hS7'.items _ (List.mem_cons_self ..)) ((a9w s.holds).trans hS7'.le)
  rcases List.mem_singleton.1 hi with rfl
  exact b5N (hS7'.items _ (List.mem_cons_of_mem _ (List.mem_cons_self ..))) ((a9w s.holds).trans hS7'.le))
 have aj : SH w K MM w7 K (q8 f [sv q2.Text, V6 q2.At] 117 :: q8 i [sv q1] 9 :: q8 g [V3 A b d, V3 a n c] 46 :: Y2 112 a n c lay :: (lay).flatMap (F6.items 71 3)) := aX.perm (List.Perm.swap _ _ _)
 refine av rfl (P6 (mv rfl (lv (n8 rfl rfl) (nq (j4 (fun E' w' => ∃ a2 l m lay2 D, E' = [(0, pt g), (3, V6 q3), (6, pt f), (8, V6 (cond (decide (k < 0)) (q0.Entries.length : Int) k))] ∧ SH w K MM w' D (q8 f [sv q2.Text, V6 q2.At] 117 :: q8 i [sv q1] 9 :: q8 g [V3 A b d, V3 a2 l m] 46 :: Y2 112 a2 l m lay2 :: (lay2).flatMap (F6.items 71 3)) ∧ H6 K D ∧ a4g lay2 es) ?_ ?_)))))
 ·refine S3 rfl (fun hb => ?_) (fun hb => ?_)
  ·rw [hb] at B ⊢
   simp only [i4] at B ⊢
   refine sr (mv rfl (lv (v8 rfl) (fl G3 rfl tf44 m2 aj rfl (lv (a3V underlying44 rfl hseg.2) (av rfl (nq ?_))))))
   have G := aj.drew
   refine wh1 (fun w' => E7 K w' ∧ y7 i [sv q1] w' ∧ y7 f [sv q2.Text, V6 q2.At] w') (fun w' => y7 g [V3 A b d, V3 a n c] w') 13 [(4, 10), (10, 13)] mixed ⟨G.hasK kr, G.hasObj m1, G.hasObj m0⟩ (fun _ => G.hasObj (.tail _ (.tail _ (.head _)))) (gt (d6 rfl) (gt (d6 rfl) (gt (v8 rfl) (gt (b8 G3 rfl) (gf (fun _ h => y2 tf44 rfl rfl h) (gh (fun _ h => y2 D9 rfl rfl h.2.1) (gt (b8 a1q rfl) (gh (fun _ h => y2 D9 rfl rfl h.2.2) (gt (A5 (cs := #[sv q1, sv q2.Text, V3 none 0 0]) b7K E3 rfl (by kernel_rfl)) ?_)))))))))
   refine gn (J1 (t := b4Z 3) (n := 1) (pv := [(0, .agg #[sv q1, sv q2.Text, V3 none 0 0])]) (cs := [sv q1, sv q2.Text, V3 none 0 0]) (xs := [([sv q1, sv q2.Text, V3 none 0 0] : List Value)]) wn rfl underlying44 E3 rfl rfl rfl (by kernel_rfl) rfl rfl (M1 (t := b4Z 3) (u := .agg #[sv q1, sv q2.Text, V3 none 0 0]) (z := ([sv q1, sv q2.Text, V3 none 0 0] : List Value)) ⟨rfl, rfl, by simp [Value.oneCell', sv]⟩ a2n) G fun a9 w9 K9 W ay hS9' => ?_)
   obtain ⟨b9, o9, rfl⟩ := b13 ay
   have aZ := b3J ay
   have H := hS9'.drop
   refine d7 (qh ⟨H.hasK W, H.hasObj m1, H.hasObj m0⟩ (fun _ => H.hasObj (.tail _ (.tail _ (.head _)))) ?_)
   unfold L8 at B
   split at B
   case isFalse => cases B
   rename_i hbd
   cases B
   have hnl : n = q0.Entries.length := hseg.2
   have hS9t : SH w K MM w9 K9 (Q3 (V3 a n c) (lay.flatMap F6.cells) 112 3 :: (q8 f [sv q2.Text, V6 q2.At] 117 :: q8 i [sv q1] 9 :: q8 g [V3 A b d, V3 a n c] 46 :: (lay).flatMap (F6.items 71 3))) := H.perm (List.perm_middle (l₁ := [_, _, _])).symm
   refine gn ?_
   have hcl9 : (lay.flatMap F6.cells).length = n * 3 := by rw [a2h, ← a9A hS9t (List.mem_cons_self ..)]
   refine a5X wn rfl underlying44 E3 rfl rfl rfl (by decide) rfl aZ (by simp [Value.oneCell', sv]) hcl9 (by simp at hbd; omega) (by simp at hbd; omega) hS9t fun X Y bD I => (d7 (qh ⟨I.hasK W, I.hasObj m2, I.hasObj m1⟩ (fun _ => I.hasObj (.tail _ (.tail _ (.tail _ (.head _))))) (gt (v8 rfl) (gt (b8 G3 rfl) (gn (ls [V3 A b d, V3 (some ⟨X, 0, none⟩) (n + 1) Y] (V3 (some ⟨X, 0, none⟩) (n + 1) Y) tf44 I.f3 fun ba aa => (d7 (qh ⟨aa.hasK W, aa.hasObj m3, aa.hasObj m2⟩ (fun h => nomatch h) (gd' ?_)))))))))
   have bb := SH.rowNil aa 71 2
   have bc : SH w K MM ba K9 (q8 f [sv q2.Text, V6 q2.At] 117 :: q8 i [sv q1] 9 :: q8 g [V3 A b d, V3 (some ⟨X, 0, none⟩) (n + 1) Y] 46 :: Y2 112 (some ⟨X, 0, none⟩) (n + 1) Y (lay ++ [F6.mk q1 q2.Text [] none 0 0]) :: ((lay ++ [F6.mk q1 q2.Text [] none 0 0])).flatMap (F6.items 71 3)) := by
    have e1 : (lay ++ [F6.mk q1 q2.Text [] none 0 0]).flatMap F6.cells = lay.flatMap F6.cells ++ [sv q1, sv q2.Text, V3 none 0 0] := by rw [List.flatMap_append]; rfl
    have e2 : ((lay ++ [F6.mk q1 q2.Text [] none 0 0])).flatMap (F6.items 71 3) = (lay).flatMap (F6.items 71 3) ++ [Q3 (V3 none 0 0) [] 71 2] := by rw [List.flatMap_append]; rfl
    unfold Y2
    rw [e1, e2]
    exact bb.perm ((show List.Perm ((_ :: _ :: _ :: _ :: (lay).flatMap (F6.items 71 3)) ++ [_]) _ from List.perm_append_singleton _ _).trans (.cons _ (List.Perm.append_right ((lay).flatMap (F6.items 71 3)) (List.perm_append_comm (l₁ := [_, _]) (l₂ := [_, _])))))
   refine H9 ⟨_, _, _, _, K9, rfl, bc, W, fun x hx => ?_, ?_⟩ ⟨rfl, rfl, rfl, rfl, trivial⟩
   ·rcases List.mem_append.1 hx with hx | hx
    ·exact U.1 x hx
    rcases List.mem_singleton.1 hx with rfl
    exact ⟨ap, aq, by simp⟩
   rw [List.map_append, U.2]; rfl
  rw [hb] at B ⊢
  simp only [g8] at B ⊢
  cases oi B
  exact i6 (qd ⟨a, n, c, lay, K, rfl, aj, .refl _, U⟩)
 rintro _ az ⟨a2, l, m, lay2, D, rfl, am, aA, hlay2⟩
 generalize hkk : (cond (decide (k < 0)) (q0.Entries.length : Int) k) = kk at *
 obtain ⟨hok2, hes⟩ := hlay2
 obtain ⟨el, aB, hel⟩ := b2a (hes ▸ ar : n5 (lay2.map F6.x) kk = some en)
 obtain ⟨pre, post, hsplit, hpre, bE⟩ := b52 aB
 have hn2 := a9A am m3
 have hn2e : l = es.length := by rw [← hes, List.length_map]; exact hn2
 obtain ⟨gE, rfl⟩ := SH.rowI_at am m3 hn2 aB
 obtain ⟨R, hR⟩ : ∃ R, R = ((pre).flatMap (F6.items 71 3) ++ (post).flatMap (F6.items 71 3)) := ⟨_, rfl⟩
 have y : SH w K MM az D (q8 f [sv q2.Text, V6 q2.At] 117 :: q8 i [sv q1] 9 :: q8 g [V3 A b d, V3 (some ⟨gE, 0, none⟩) l m] 46 :: Y2 112 (some ⟨gE, 0, none⟩) l m (pre ++ el :: post) :: F6.row 71 el :: (el.posts.map (P8.item 3) ++ R)) := by
  rw [hR]
  have J := am
  rw [hsplit] at J
  exact J.perm ((List.Perm.append_left [_, _, _] (b0u (TE := 112) (TP := 71) (TI := 3))).symm)
 have helok : el.ok := hok2 el (by rw [hsplit]; simp)
 have hnP : el.n = el.posts.length := a9z y m4
 have hhead := a9x (pre := pre) (post := post) (e := el) (o := kk.toNat * 3 + 2) (by rw [hpre])
 have hpl : el.posts.length ≤ maxLen := b15 y m4 hnP
 have henp : en.Posts = el.posts.map P8.x := by rw [← hel]; rfl
 refine qr (mv rfl (lv (v8 rfl) (fl G3 rfl tf44 m2 y rfl (mv rfl (lv (a2T (t := z6) underlying44 E3 rfl rfl rfl hn2e ar) (av rfl (nr (mv rfl (lv (v8 rfl) ?_)))))))))
 refine fa L1 rfl (lv (a2b a2Q rfl rfl hhead rfl (y.hasRow (.tail _ (.tail _ (.tail _ (.head _)))))) (lv (a3V underlying57 rfl hnP) (lv (F2 rfl rfl) (av rfl (ns (k8 (j4 (fun E' w' => E' = [(3, V6 q3), (6, pt f), (9, .pointer (some ⟨gE, kk.toNat * z6.size, none⟩)), (10, V6 (u6 ((el.posts.length : Int) - 1))), (62, .bool (I8 en.Posts q3))] ∧ w' = az) ?_ ?_)))))))
 ·refine i7 (mv rfl (lv (n8 rfl rfl) (mv rfl ?_)))
  rcases List.eq_nil_or_concat el.posts with hnil | ⟨ps0, p0, hcat⟩
  ·have hb : decide (u6 ((el.posts.length : Int) - 1) < 0) = true := by rw [a8L hpl, hnil]; rfl
   have hnp : I8 en.Posts q3 = true := by rw [henp, hnil]; rfl
   rw [hnp]
   iterate 10 refine lu hb ?_
   refine lv (K5 rfl hb rfl) (d7 ?_)
   exact qd ⟨rfl, rfl⟩
  rw [List.concat_eq_append] at hcat
  have hlp : el.posts.length = ps0.length + 1 := by rw [hcat]; simp
  have hw : u6 ((el.posts.length : Int) - 1) = (ps0.length : Int) := by rw [a8L hpl, hlp]; omega
  have hb : decide (u6 ((el.posts.length : Int) - 1) < 0) = false := by rw [hw]; exact c6 (by omega)
  have hnp : I8 en.Posts q3 = !(p0.doc == q3) := by rw [henp, hcat, List.map_append]; simp [I8, P8.x]
  rw [hnp]
  have hzp : n5 en.Posts (u6 ((el.posts.length : Int) - 1)) = some p0.x := by rw [henp, hcat, List.map_append]; exact b09 (by rw [← hcat, hw]; simp)
  have hnPe : el.n = en.Posts.length := by rw [henp, List.length_map]; exact hnP
  obtain ⟨gP, hgP⟩ := SH.rowI_at y m4 hnPe hzp
  have hdoc : (el.posts.flatMap P8.cells)[(u6 ((el.posts.length : Int) - 1)).toNat * 2 + 0]? = some (V6 p0.doc) := by rw [hcat]; exact a9y (k := 0) (by rw [← hcat, hw]; simp)
  refine lg hb (d6 rfl) (lg hb (v8 rfl) (lg hb (b8 L1 rfl) (lg hb (a2b a2Q rfl rfl hhead rfl (y.hasRow (.tail _ (.tail _ (.tail _ (.head _)))))) (lg hb (d6 rfl) (lg hb (a2T (t := S1) underlying57 a1m rfl rfl hgP hnPe hzp) (lg hb (b8 a4E rfl) (lg hb (a2b D8 rfl rfl hdoc hgP (y.hasRow (.tail _ (.tail _ (.tail _ (.tail _ (.head _))))))) (lg hb (d6 rfl) (lg hb (W3 rfl rfl) ?_)))))))))
  refine lv (j9 rfl hb rfl) (d7 ?_)
  exact qd ⟨rfl, rfl⟩
 rintro _ _ ⟨rfl, rfl⟩
 refine j6 (j4 (fun E' w' => ∃ el2 ps0 pl K3, E' = [(6, pt f), (9, .pointer (some ⟨gE, kk.toNat * z6.size, none⟩)), (10, V6 (ps0.length : Int))] ∧ SH w K MM w' K3 (q8 f [sv q2.Text, V6 q2.At] 117 :: q8 i [sv q1] 9 :: q8 g [V3 A b d, V3 (some ⟨gE, 0, none⟩) l m] 46 :: Y2 112 (some ⟨gE, 0, none⟩) l m (pre ++ el2 :: post) :: F6.row 71 el2 :: (pl.item 3 :: (ps0.map (P8.item 3) ++ R))) ∧ H6 K K3 ∧ el2.ok ∧ el2.field = el.field ∧ el2.term = el.term ∧ el2.posts = ps0 ++ [pl] ∧ ps = el2.posts.map P8.x) ?_ ?_)
 ·refine S3 rfl (fun hb => ?_) (fun hb => ?_)
  ·rw [hb] at C
   simp only [i4] at C
   refine sr (mv rfl (mv rfl (lv (v8 rfl) (fa L1 rfl (lv (a2b a2Q rfl rfl hhead rfl (y.hasRow (.tail _ (.tail _ (.tail _ (.head _)))))) (mv rfl (lv (A5 (cs := #[V6 q3, V3 none 0 0]) b9S a1m rfl (by kernel_rfl)) (J1 (t := b4Z 2) (n := 1) (pv := [(0, .agg #[V6 q3, V3 none 0 0])]) (cs := [V6 q3, V3 none 0 0]) (xs := [([V6 q3, V3 none 0 0] : List Value)]) wn rfl underlying57 a1m rfl rfl rfl (by kernel_rfl) rfl rfl (M1 (t := b4Z 2) (u := .agg #[V6 q3, V3 none 0 0]) (z := ([V6 q3, V3 none 0 0] : List Value)) ⟨rfl, rfl, by simp [Value.oneCell']⟩ a2n) y fun bF bG aC bd aD hS22' => ?_))))))))
   obtain ⟨bH, bI, rfl⟩ := b13 aD
   have be := b3J aD
   have bf := hS22'.drop
   unfold L8 at C
   split at C
   case isFalse => cases C
   rename_i hbd
   cases C
   have hbd2 : (el.n + 1) * 32 ≤ 140737488355328 := by rw [henp] at hbd; simp at hbd; rw [hnP]; exact hbd
   refine a5X wn rfl underlying57 a1m rfl rfl rfl (by decide) rfl be (by simp [Value.oneCell']) (by rw [a2g, hnP]) (by omega) hbd2 bf.f4 fun aE c24 bJ bg => (lv (v8 rfl) (fa L1 rfl (b0B wn a2Q rfl rfl rfl bg.f4 (by have := (d5.1 hhead).1; exact this) ?_)))
   intro bh bi
   refine nq (i7 (mv rfl (lv (s6 rfl rfl) (lv (b3O rfl (congrArg (Value.int .i64) (b7a hpl))) (d7 ?_)))))
   obtain ⟨el2, hel2⟩ : ∃ el2 : F6, el2 = ⟨el.field, el.term, el.posts ++ [⟨q3, [], none, 0, 0⟩], some ⟨aE, 0, none⟩, el.n + 1, c24⟩ := ⟨_, rfl⟩
   have hset := b2b (pre := pre) (post := post) (e := el) (e' := el2) (o := kk.toNat * 3 + 2) (by rw [hpre]) (by rw [hel2]) (by rw [hel2])
   have bj : SH w K MM bh aC (Q3 (V3 (some ⟨gE, 0, none⟩) l m) ((pre ++ el2 :: post).flatMap F6.cells) 112 3 :: F6.row 71 el2 :: q8 f [sv q2.Text, V6 q2.At] 117 :: q8 i [sv q1] 9 :: q8 g [V3 A b d, V3 (some ⟨gE, 0, none⟩) l m] 46 :: (el.posts.map (P8.item 3) ++ R)) := by
    have e1 : el2.posts.flatMap P8.cells = el.posts.flatMap P8.cells ++ [V6 q3, V3 none 0 0] := by rw [hel2, List.flatMap_append]; rfl
    have e2 : el2.a = some ⟨aE, 0, none⟩ := by rw [hel2]
    have e3 : el2.n = el.n + 1 := by rw [hel2]
    have e4 : el2.c = c24 := by rw [hel2]
    rw [← hset]
    unfold F6.row
    rw [e1, e2, e3, e4]
    exact bi
   have bk := SH.rowNil bj 3 1
   refine H9 ⟨el2, el.posts, ⟨q3, [], none, 0, 0⟩, aC, rfl, bk.perm ?_, aA.trans bd, ?_, by rw [hel2], by rw [hel2], by rw [hel2], ?_⟩ ⟨rfl, rfl, rfl, trivial⟩
   ·exact (List.Perm.append_left [_, _, _, _, _] (List.Perm.refl _)).trans ((List.perm_middle (l₁ := [_, _, _, _, _])).trans (.cons _ (List.Perm.append_right _ (List.perm_append_comm (l₁ := [_, _, _]) (l₂ := [_, _])))))
   ·rw [hel2]
    refine ⟨helok.1, helok.2.1, fun q hq => ?_⟩
    rcases List.mem_append.1 hq with hq | hq
    ·exact helok.2.2 q hq
    rcases List.mem_singleton.1 hq with rfl
    exact ⟨aL, by simp⟩
   rw [hel2, henp, List.map_append]; rfl
  rw [hb] at C
  simp only [g8] at C
  cases oi C
  refine i6 ?_
  rcases List.eq_nil_or_concat el.posts with hnil | ⟨ps0, p0, hcat⟩
  ·rw [henp, hnil] at hb; cases hb
  rw [List.concat_eq_append] at hcat
  have hlp : el.posts.length = ps0.length + 1 := by rw [hcat]; simp
  have hw : u6 ((el.posts.length : Int) - 1) = (ps0.length : Int) := by rw [a8L hpl, hlp]; omega
  rw [hw]
  refine H9 ⟨el, ps0, p0, D, rfl, ?_, aA, helok, rfl, rfl, hcat, henp⟩ ⟨rfl, rfl, rfl, trivial⟩
  have J := y
  rw [hcat] at J
  exact J.perm (List.Perm.append_left [_, _, _, _, _] (a9m (TI := 3)).symm)
 rintro _ bK ⟨el2, ps0, pl, K3, rfl, ac, bl, hel2ok, hf2, ht2, hcat2, hps⟩
 refine j6 ?_
 have hpx : p = pl.x := by rw [hps, hcat2, List.map_append] at ah; simp at ah; exact ah.symm
 have hn30 : el2.n = el2.posts.length := a9z ac m4
 have bm : n5 el2.posts (ps0.length : Int) = some pl := by rw [hcat2]; exact b09 rfl
 obtain ⟨gP, hgP⟩ := SH.rowI_at ac m4 hn30 bm
 have hpn : pl.n = pl.at_.length := b2d ac m5
 have hhead2 := a9x (pre := pre) (post := post) (e := el2) (o := kk.toNat * 3 + 2) (by rw [hpre])
 have aF : n5 (el2.posts.map P8.x) (ps0.length : Int) = some pl.x := by rw [hcat2, List.map_append]; exact b09 (by simp)
 have hn31 : el2.n = (el2.posts.map P8.x).length := by rw [List.length_map]; exact hn30
 have hat : (el2.posts.flatMap P8.cells)[(ps0.length : Int).toNat * 2 + 1]? = some (V3 pl.a pl.n pl.c) := by rw [hcat2]; exact a9y (k := 1) (by simp)
 have O := ac.drew
 refine wh1 (fun w' => E7 K3 w' ∧ a5K (some ⟨gE, 0, none⟩) ((pre ++ el2 :: post).flatMap F6.cells) w' ∧ y7 f [sv q2.Text, V6 q2.At] w') (fun w' => a5K el2.a (el2.posts.flatMap P8.cells) w') 19 [(12, 16), (16, 19)] mixed ⟨O.hasK kr, O.hasRow m3, O.hasObj m0⟩ (fun _ => O.hasRow (.tail _ (.tail _ (.tail _ (.tail _ (.head _)))))) (gt (d6 rfl) (gt (v8 rfl) (gt (b8 L1 rfl) (gh (fun _ h => a2b a2Q rfl rfl hhead2 rfl h.2.1) (gt (d6 rfl) (gt (d6 rfl) (gt (v8 rfl) (gt (b8 L1 rfl) (gh (fun _ h => a2b a2Q rfl rfl hhead2 rfl h.2.1) ?_)))))))))
 refine gt (d6 rfl) (gt (a2T (t := S1) underlying57 a1m rfl rfl hgP hn31 aF) (gt (b8 a3t rfl) (gf (fun _ h => a2b Y3 rfl rfl hat hgP h) (gt (b8 a1r rfl) (gh (fun _ h => y2 D8 rfl rfl h.2.2) (gn (lb B7 (V6 q2.At) [V6 q2.At] q2.At underlying55 D8 ⟨rfl, ag⟩ O fun bL bM ad ae aG hS35' => ?_)))))))
 obtain ⟨bN, bO, rfl⟩ := b69 aG
 have bn := b6N aG
 have S := hS35'.drop
 refine d7 (qh ⟨S.hasK ae, S.hasRow m3, S.hasObj m0⟩ (fun _ => S.hasRow (.tail _ (.tail _ (.tail _ (.tail _ (.head _)))))) (gn ?_))
 unfold L8 at V
 split at V
 case isFalse => cases V
 rename_i hbd
 cases V
 have hbd2 : (pl.n + 1) * 8 ≤ 140737488355328 := by rw [hpx] at hbd; simp [P8.x] at hbd; rw [hpn]; exact hbd
 refine a5X wn rfl underlying55 D8 rfl rfl rfl (by decide) rfl bn (by simp [Value.oneCell']) (by rw [List.length_map, hpn, Nat.mul_one]) (by omega) hbd2 S.f5 fun aH c37 bP T => (d7 (qh ⟨T.hasK ae, T.hasRow m4, T.hasObj m1⟩ (fun _ => T.hasRow (.tail _ (.tail _ (.tail _ (.tail _ (.tail _ (.head _))))))) (gt (a2T (t := S1) underlying57 a1m rfl rfl hgP hn31 aF) (gt (b8 a3t rfl) (gn ?_)))))
 obtain ⟨fl2, tm2, po2, a2', m2', c2'⟩ := el2
 simp only at hgP hat hcat2 hf2 ht2 hn30
 subst hgP
 refine b0B wn Y3 rfl rfl rfl T.f5 (by have := (d5.1 hat).1; exact this) ?_
 intro ao af
 refine d7 (qh ⟨af.hasK ae, af.hasRow m5, af.hasObj m2⟩ (fun h => nomatch h) (gd' ?_))
 subst hR
 subst hcat2
 obtain ⟨pl2, hpl2⟩ : ∃ pl2 : P8, pl2 = ⟨pl.doc, pl.at_ ++ [q2.At], some ⟨aH, 0, none⟩, pl.n + 1, c37⟩ := ⟨_, rfl⟩
 obtain ⟨el3, hel3⟩ : ∃ el3 : F6, el3 = ⟨fl2, tm2, ps0 ++ [pl2], some ⟨gP, 0, none⟩, m2', c2'⟩ := ⟨_, rfl⟩
 have bo : SH w K MM ao ad (F6.row 71 el3 :: pl2.item 3 :: q8 f [sv q2.Text, V6 q2.At] 117 :: q8 i [sv q1] 9 :: q8 g [V3 A b d, V3 (some ⟨gE, 0, none⟩) l m] 46 :: Y2 112 (some ⟨gE, 0, none⟩) l m (pre ++ el3 :: post) :: (ps0.map (P8.item 3) ++ ((pre).flatMap (F6.items 71 3) ++ (post).flatMap (F6.items 71 3)))) := by
  have e1 := b2f (ps := ps0) (p := pl) (p' := pl2) (o := (ps0.length : Int).toNat * 2 + 1) (by simp) (by rw [hpl2])
  have e2 : pl2.a = some ⟨aH, 0, none⟩ := by rw [hpl2]
  have e3 : pl2.n = pl.n + 1 := by rw [hpl2]
  have e4 : pl2.c = c37 := by rw [hpl2]
  have e5 : pl2.at_.map b0R = pl.at_.map b0R ++ [V6 q2.At] := by rw [hpl2, List.map_append]; rfl
  have e6 : (pre ++ el3 :: post).flatMap F6.cells = (pre ++ ⟨fl2, tm2, ps0 ++ [pl], some ⟨gP, 0, none⟩, m2', c2'⟩ :: post).flatMap F6.cells := by rw [hel3, List.flatMap_append, List.flatMap_append, List.flatMap_cons, List.flatMap_cons]; rfl
  have e7 : F6.row 71 el3 = Q3 (V3 (some ⟨gP, 0, none⟩) m2' c2') ((ps0 ++ [pl2]).flatMap P8.cells) 71 2 := by rw [hel3]; rfl
  rw [e7, ← e1]
  unfold Y2
  rw [e6]
  show SH w K MM ao ad (_ :: Q3 (V3 pl2.a pl2.n pl2.c) (pl2.at_.map b0R) 3 1 :: _)
  rw [e2, e3, e4, e5]
  exact af
 have br := bo.sublist (.cons_cons _ (.cons_cons _ (.cons _ (.cons _ (List.Sublist.refl _)))))
 have hpo3 : el3.posts = ps0 ++ [pl2] := by rw [hel3]
 have bs : SH w K MM ao ad (L0 112 71 3 (some ⟨gE, 0, none⟩) l m (pre ++ el3 :: post) ++ [q8 g [V3 A b d, V3 (some ⟨gE, 0, none⟩) l m] 46]) := by
  refine br.perm ((List.perm_append_singleton _ _).trans ((List.Perm.cons _ (b0u (TE := 112) (TP := 71) (TI := 3))).trans ?_))
  rw [hpo3]
  exact (List.Perm.append_left [_, _, _] (a9m (TI := 3))).trans (List.Perm.append_right _ (List.perm_append_comm (l₁ := [_, _]) (l₂ := [_, _])))
 have bu := bs.packUp.perm (List.Perm.swap _ _ _)
 refine a90 (R8 (vs := []) results116 trivial ⟨A, b, d, some ⟨gE, 0, none⟩, l, m, pre ++ el3 :: post, ad, rfl, bu, aK.mono (bl.trans ae), ?_, ?_⟩)
 ·intro x hx
  rw [hsplit] at hok2
  rcases List.mem_append.1 hx with hx | hx
  ·exact hok2 x (List.mem_append_left _ hx)
  rcases List.mem_cons.1 hx with rfl | hx
  ·rw [hel3, hpl2]
   refine ⟨hel2ok.1, hel2ok.2.1, fun q hq => ?_⟩
   rcases List.mem_append.1 hq with hq | hq
   ·exact hel2ok.2.2 q (List.mem_append_left _ hq)
   rcases List.mem_singleton.1 hq with rfl
   have h8 := hel2ok.2.2 pl (List.mem_append_right _ (List.mem_singleton.2 rfl))
   refine ⟨h8.1, fun z hz => ?_⟩
   rcases List.mem_append.1 hz with hz | hz
   ·exact h8.2 z hz
   rcases List.mem_singleton.1 hz with rfl
   exact ag
  exact hok2 x (List.mem_append_right _ (List.mem_cons_of_mem _ hx))
 show _ = es.set kk.toNat _
 rw [← hes, hsplit, List.map_append, List.map_cons, List.map_append, List.map_cons, List.set_append_right _ _ (by rw [List.length_map, hpre]; exact Nat.le_refl _), List.length_map, hpre, Nat.sub_self, List.set_cons_zero]
 have e1 : el3.x = u9.mk en.Field en.Term (ps.dropLast ++ [D5.mk p.Doc (p.At ++ [q2.At])]) := by
  rw [hel3, hps, hpx, hpl2, ← hel]
  simp [F6.x, P8.x, hf2, ht2]
 rw [e1]

theorem a9T {q0 : List Int} {r : Int} (hS : SH w K [] w K []) (k : b7 B7 K A a b q0) (hm : a1I F q0 = some r) :
  Calls prog 119 #[V3 A a b] w (R_i w K r) := by
 rw [a1I] at hm
 refine ci func119 rfl ntmps119 (sr (lv (L3 rfl) (nr (lv (L3 rfl) (P6 (mv rfl (lv (k9 underlying55 rfl k) (lv (r_m rfl) (nq ?_)))))))))
 obtain ⟨s, x, d⟩ := ob hm
 refine j4 (IE s w K [] K [(3, V6 0)] []) ?_ ?_
 ·refine i5 ?_
  obtain ⟨aa, y, m⟩ := ob x
  refine qf (fun (o : Nat) (q : Unit) => IV w K [] K [(3, V6 0), (6, V3 A a b), (7, V6 (q0.length : Int)), (8, V6 ((o : Nat) : Int))] []) y ⟨K, rfl, hS, kr⟩ ?_ ?_
  ·rintro o q _ B ab hi23 C D ⟨f, rfl, c, i⟩
   refine sr (lv (n8 rfl rfl) (ns (A3 rfl (c7 (by omega)) (i6 (j6 (k8 (i5 (sr ?_))))))))
   obtain ⟨G, H, I⟩ := ob C
   refine li underlying55 D8 (k.mono i) H fun J O ac R S => ?_
   obtain ⟨rfl, T⟩ := R
   have U : D0 _ J O [V6 G] := S
   refine lv (u0 D8 rfl c (U 0 _ rfl)) (av rfl (nr (mv rfl (mv rfl (lv (W3 rfl rfl) (nq (B5 I rfl (fun V l => ?_) (fun V l => ?_))))))))
   ·refine sr (mv rfl (av rfl (nq (i9 (d8 (c9 (c9 ?_)))))))
    cases oi l
    cases D _ rfl
    refine d8 (c9 ?_)
    cases oi m
    refine c9 ?_
    cases oi d
    exact ey results119 ⟨f, rfl, c, T⟩
   refine i6 (o0 (qg (lv (y3 rfl rfl (A0 hi23 (b7.max k))) (mv rfl (d7 ?_)))))
   cases oi l
   exact qd ⟨_, rfl, f, rfl, c, i⟩
  rintro q _ B W ⟨f, rfl, c, i⟩
  subst W
  refine sr (lv (n8 rfl rfl) (ns (A2 rfl (c6 (by omega)) (q7 (d4 (d4 (j5 ?_)))))))
  cases oi m
  exact qd ⟨_, f, rfl, rfl, c, i⟩
 rintro _ ad ⟨s8, X, rfl, rfl, Y, af⟩
 have d := C8 d
 refine qr (mv rfl (av rfl (nq (i9 ?_))))
 cases oi d
 exact ey results119 ⟨X, rfl, Y, I0⟩

theorem a2G {q0 : k6} {r : Bool} (hS : SH w K [] w K []) (a : q0.length ≤ maxLen) (hm : N0 F q0 = some r) :
  Calls prog 168 #[sv q0] w (R_b w K r) := by
 rw [N0] at hm
 refine ci func168 rfl ntmps168 (sr (lv (M7 rfl) (nr (mv rfl (mv rfl (lv (a0o rfl rfl) (av rfl (nq (i9 ?_)))))))))
 cases oi hm
 exact ey results168 ⟨K, rfl, hS⟩

theorem a1Y {q0 : k6} {q1 : k6} {r : Int} (hS : SH w K [] w K []) (m : q0.length ≤ maxLen) (o : q1.length ≤ maxLen) (hm : J8 F q0 q1 = some r) :
  Calls prog 120 #[sv q0, sv q1] w (R_i w K r) := by
 rw [J8] at hm
 refine ci func120 rfl ntmps120 (sr (lv (L3 rfl) (nr (mv rfl ?_))))
 obtain ⟨J, q, s⟩ := ob hm
 refine lk b7v (a2G F hS.enter0 m q) ?_
 rintro O R ⟨S, rfl, x⟩
 have l := (hS.c0 x).t0
 refine av rfl (nr (mv rfl ?_))
 obtain ⟨T, y, A⟩ := ob s
 refine lk b7v (a2G F l.enter0 o y) ?_
 rintro U V ⟨a, rfl, B⟩
 have b := (l.c0 B).t0
 refine av rfl (P6 (mv rfl (nq (B5 A rfl (fun C c => ?_) (fun C c => ?_)))))
 ·refine k8 (sr (mv rfl (nq (B5 c rfl (fun D d => ?_) (fun D d => ?_)))))
  ·refine sr (lv (L3 rfl) (nq (rr (c9 ?_))))
   cases oi d
   exact ey results120 ⟨a, rfl, b, I0⟩
  refine i6 (qr (lv (r9 (v := V6 (-1)) rfl) (nq (rr ?_))))
  cases oi d
  exact ey results120 ⟨a, rfl, b, (by decide : d9 (-1))⟩
 refine i6 (qs (sr (mv rfl (nq (B5 c rfl (fun G f => ?_) (fun G f => ?_))))))
 ·refine sr (lv (r9 (v := V6 1) rfl) (nq (rr ?_)))
  cases oi f
  exact ey results120 ⟨a, rfl, b, (by decide : d9 1)⟩
 refine i6 (qs (sr (mv rfl (mv rfl (lv (b3R rfl rfl) (nq (B5 f rfl (fun H i => ?_) (fun H i => ?_))))))))
 ·refine sr (lv (r9 (v := V6 (-1)) rfl) (nq (rr ?_)))
  cases oi i
  exact ey results120 ⟨a, rfl, b, (by decide : d9 (-1))⟩
 refine i6 (qs (sr (mv rfl (mv rfl (lv (b64 rfl rfl) (nq (B5 i rfl (fun I k => ?_) (fun I k => ?_))))))))
 ·refine sr (lv (r9 (v := V6 1) rfl) (nq (rr ?_)))
  cases oi k
  exact ey results120 ⟨a, rfl, b, (by decide : d9 1)⟩
 refine i6 (qr (lv (L3 rfl) (nq (i9 ?_))))
 cases oi k
 exact ey results120 ⟨a, rfl, b, I0⟩

theorem a73 {q0 : u9} {q1 : u9} {r : Int} (hS : SH w K [] w K []) (H : q0.Field.length ≤ maxLen) (I : q0.Term.length ≤ maxLen) (ah : b7 S1 K A a b q0.Posts) (J : q1.Field.length ≤ maxLen) (O : q1.Term.length ≤ maxLen) (ai : b7 S1 K B c d q1.Posts) (hm : O0 F q0 q1 = some r) :
  Calls prog 118 #[.agg #[sv q0.Field, sv q0.Term, V3 A a b], .agg #[sv q1.Field, sv q1.Term, V3 B c d]] w (R_i w K r) := by
 rw [O0] at hm
 refine ci func118 rfl ntmps118 (sr (bx rfl hS fun y aj R => ?_))
 have S : SH _ _ _ _ _ [q8 y [sv q0.Field, sv q0.Term, V3 A a b] 112] := R
 refine bx rfl S fun C ak T => ?_
 have U : SH _ _ _ _ _ [q8 C [sv q1.Field, sv q1.Term, V3 B c d] 112, _] := T
 refine lv (L3 rfl) (ns ?_)
 have f := U.drew
 refine j_0 (fun w' => E7 K w' ∧ y7 y [sv q0.Field, sv q0.Term, V3 A a b] w' ∧ y7 C [sv q1.Field, sv q1.Term, V3 B c d] w') 13 [] mixed ⟨f.hasK kr, f.hasObj m1, f.hasObj m0⟩ (jv 0 rfl (b8 a0l rfl) (jh 1 rfl (fun _ h => y2 D9 rfl rfl h.2.1) (jv 2 rfl (b8 a0l rfl) (jh 3 rfl (fun _ h => y2 D9 rfl rfl h.2.2) (jv 5 rfl (b8 X5 rfl) (jh 6 rfl (fun _ h => y2 D9 rfl rfl h.2.1) (jv 7 rfl (b8 X5 rfl) (jh 8 rfl (fun _ h => y2 D9 rfl rfl h.2.2) (j1 4 rfl ?_)))))))))
 obtain ⟨i, V, W⟩ := ob hm
 refine lk b7m (a1Y F f.enter0 H J V) ?_
 rintro al am ⟨an, rfl, k, X⟩
 have l := (f.c0 k).t2
 refine W2 ⟨l.hasK k.le, l.hasObj m1, l.hasObj m0⟩ (j1 9 rfl ?_)
 obtain ⟨m, Y, aa⟩ := ob W
 refine lk b7m (a1Y F l.enter0 I O Y) ?_
 rintro ao ap ⟨aq, rfl, q, ab⟩
 have s := (l.c0 q).t2
 refine W2 ⟨s.hasK (k.le.trans q.le), s.hasObj m1, s.hasObj m0⟩ (j1 10 rfl (J1 (t := B7) (n := 2) (pv := [(0, V6 i), (1, V6 m)]) (cs := [V6 i, V6 m]) (xs := [i, m]) wn rfl underlying55 D8 rfl rfl rfl (by kernel_rfl) rfl rfl (M1 (u := V6 i) (z := i) ⟨rfl, X⟩ (M1 (u := V6 m) (z := m) ⟨rfl, ab⟩ a2n)) s fun ar au aw D ac o => (W2 ⟨o.hasK ((k.le.trans q.le).trans D), o.hasObj m2, o.hasObj m1⟩ (j1 11 rfl ?_))))
 obtain ⟨ax, ad, ae⟩ := ob aa
 refine lk b8K (a9T F o.enter0 ac ad) ?_
 rintro ay az ⟨af, rfl, G, ag⟩
 have x := (o.c0 G).t3
 refine W2 ⟨x.hasK (((k.le.trans q.le).trans D).trans G.le), x.hasObj m2, x.hasObj m1⟩ (jv 12 rfl (r9 rfl) (jd (j6 (i9 ?_))))
 cases oi ae
 exact ey results118 ⟨af, rfl, x.s, ag⟩

theorem a5u {q0 : List Int} {q1 : List Int} {r : Bool} (hS : SH w K [] w K []) (i : b7 B7 K A a b q0) (s : b7 B7 K B c d q1) (hm : R3 F q0 q1 = some r) :
  Calls prog 170 #[V3 A a b, V3 B c d] w (R_b w K r) := by
 rw [R3] at hm
 refine ci func170 rfl ntmps170 (sr (lv (M7 rfl) (P6 (mv rfl (lv (k9 underlying55 rfl i) (mv rfl (lv (k9 underlying55 rfl s) (lv (W3 rfl rfl) (nq ?_)))))))))
 refine S3 rfl (fun l => ?_) (fun l => ?_)
 ·have m := a1R l hm
  refine sr (lv (M7 rfl) (nq (rr ?_)))
  cases oi m
  exact ey results170 ⟨K, rfl, hS⟩
 have m := a1Q l hm
 refine i6 (qs (sr (mv rfl (lv (k9 underlying55 rfl i) (lv (r_m rfl) (nq ?_))))))
 obtain ⟨I, J, k⟩ := ob m
 refine j4 (IE I w K [] K [] []) ?_ ?_
 ·refine i5 ?_
  obtain ⟨aq, O, x⟩ := ob J
  refine qf (fun (y : Nat) (C : Unit) => IV w K [] K [(0, V3 A a b), (1, V3 B c d), (12, V6 (q0.length : Int)), (13, V6 ((y : Nat) : Int))] []) O ⟨K, rfl, hS, kr⟩ ?_ ?_
  ·rintro y C _ R ar hi29 S T ⟨D, rfl, o, f⟩
   refine sr (lv (n8 rfl rfl) (ns (A3 rfl (c7 (by omega)) (i6 (j6 (k8 (i5 (sr (mv rfl (av rfl (ns (C2 mixed (by kernel_rfl) o ?_))))))))))))
   refine km rfl (km rfl ?_)
   obtain ⟨U, V, W⟩ := ob S
   refine ki underlying55 D8 (i.mono f) V fun X Y au aa ab => ?_
   obtain ⟨rfl, aw⟩ := aa
   have ac : D0 _ X Y [V6 U] := ab
   refine kh (z8 D8 rfl (ac 0 _ rfl)) (km rfl (km rfl ?_))
   obtain ⟨ad, ae, af⟩ := ob W
   refine ki underlying55 D8 (s.mono f) ae fun ag ah ax ai aj => ?_
   obtain ⟨rfl, ay⟩ := ai
   have ak : D0 _ ag ah [V6 ad] := aj
   refine kh (z8 D8 rfl (ak 0 _ rfl)) (kv (W3 rfl rfl) (z7 ?_))
   rintro az ⟨G, H, al⟩
   refine j6 (B5 af rfl (fun am q => ?_) (fun am q => ?_))
   ·refine sr (lv (M7 rfl) (nq (i9 (d8 (c9 (c9 ?_))))))
    cases oi q
    cases T _ rfl
    refine d8 (c9 ?_)
    cases oi x
    refine c9 ?_
    cases oi k
    exact ey results170 ⟨G, rfl, H⟩
   refine i6 (o0 (qg (lv (y3 rfl rfl (A0 hi29 (b7.max i))) (mv rfl (d7 ?_)))))
   cases oi q
   exact qd ⟨_, rfl, G, rfl, H, (f.trans al)⟩
  rintro C _ R an ⟨D, rfl, o, f⟩
  subst an
  refine sr (lv (n8 rfl rfl) (ns (A2 rfl (c6 (by omega)) (q7 (d4 (d4 (j5 ?_)))))))
  cases oi x
  exact H9 ⟨_, D, rfl, rfl, o, f⟩ trivial
 rintro _ aA ⟨aB, ao, rfl, rfl, ap, aC⟩
 have k := C8 k
 refine qr (lv (r_t rfl) (nq (i9 ?_)))
 cases oi k
 exact ey results170 ⟨ao, rfl, ap⟩

theorem a65 {q0 : D5} {q1 : D5} {r : Bool} (hS : SH w K [] w K []) (J : d9 q0.Doc) (l : b7 B7 K A a b q0.At) (O : d9 q1.Doc) (m : b7 B7 K B c d q1.At) (hm : Y8 F q0 q1 = some r) :
  Calls prog 123 #[.agg #[V6 q0.Doc, V3 A a b], .agg #[V6 q1.Doc, V3 B c d]] w (R_b w K r) := by
 rw [Y8] at hm
 refine ci func123 rfl ntmps123 (sr (bx rfl hS fun o R q => ?_))
 have s : SH _ _ _ _ _ [q8 o [V6 q0.Doc, V3 A a b] 71] := q
 refine bx rfl s fun x S y => ?_
 have i : SH _ _ _ _ _ [q8 x [V6 q1.Doc, V3 B c d] 71, _] := y
 refine lv (M7 rfl) (nr (fl a4E rfl D8 m1 i rfl (fl a4E rfl D8 m0 i rfl (lv (u3 rfl rfl) (mv rfl (bt hm (fun f k => ?_) (fun f k => ?_)))))))
 ·refine lg f (b8 a3t rfl) (lg f (l8 Y3 rfl m1 i rfl) (lg f (b8 a3t rfl) (lg f (l8 Y3 rfl m0 i rfl) ?_)))
  obtain ⟨T, C, D⟩ := ob k
  refine x9 (wg rfl rfl f) rfl (x8 (vs := [V3 A a b, V3 B c d]) b87 rfl) (a5u F i.enter0 l m C) ?_
  rintro U V ⟨G, rfl, H⟩
  refine ⟨_, rfl, ?_⟩
  have I := (i.c0 H).t2
  refine lv (j3 rfl f rfl) (av rfl (nq (i9 ?_)))
  cases oi D
  exact ey results123 ⟨G, rfl, I.s⟩
 iterate 5 refine lu f ?_
 refine lv (F7 rfl f rfl) (av rfl (nq (i9 ?_)))
 cases oi k
 exact ey results123 ⟨K, rfl, i.s⟩

theorem a0q {q0 : List D5} {q1 : List D5} {r : Bool} (hS : SH w K [] w K []) (i : b7 S1 K A a b q0) (O : b7 S1 K B c d q1) (hm : D2 F q0 q1 = some r) :
  Calls prog 122 #[V3 A a b, V3 B c d, .func (.func 123) #[] #[]] w (R_b w K r) := by
 rw [D2] at hm
 refine ci func122 rfl ntmps122 (sr (lv (M7 rfl) (P6 (mv rfl (lv (k9 underlying57 rfl i) (mv rfl (lv (k9 underlying57 rfl O) (lv (W3 rfl rfl) (nq ?_)))))))))
 refine S3 rfl (fun H => ?_) (fun H => ?_)
 ·have I := a1R H hm
  refine sr (lv (M7 rfl) (nq (rr ?_)))
  cases oi I
  exact ey results122 ⟨K, rfl, hS⟩
 have I := a1Q H hm
 refine i6 (qs (sr (mv rfl (lv (k9 underlying57 rfl i) (lv (r_m rfl) (nq ?_))))))
 obtain ⟨aa, ab, k⟩ := ob I
 refine j4 (IE aa w K [] K [] []) ?_ ?_
 ·refine i5 ?_
  obtain ⟨aO, ac, R⟩ := ob ab
  refine qf (fun (S : Nat) (T : Unit) => IV w K [] K [(1, V3 B c d), (2, .func (.func 123) #[] #[]), (15, V3 A a b), (16, V6 (q0.length : Int)), (17, V6 ((S : Nat) : Int))] []) ac ⟨K, rfl, hS, kr⟩ ?_ ?_
  ·rintro S T _ ad aP hi29 ae af ⟨U, rfl, l, f⟩
   refine sr (lv (n8 rfl rfl) (ns (A3 rfl (c7 (by omega)) (i6 (j6 (k8 (i5 (sr (mv rfl ?_)))))))))
   obtain ⟨m, ag, ah⟩ := ob ae
   refine li underlying57 a1m (i.mono f) ag fun ai aj aQ ak am => ?_
   obtain ⟨o, q, s, rfl, an, ao⟩ := ak
   have ap : D0 _ ai aj [V6 m.Doc, V3 o q s] := am
   refine lv (D4 a1m rfl l ap rfl) (al a1m l fun aq aR ar => ?_)
   have au : SH _ _ _ _ _ [q8 aq [V6 0, V3 none 0 0] 71] := ar
   refine av rfl (lw [V6 m.Doc, V3 o q s] a1m au fun aS V => (nr (mv rfl (mv rfl ?_))))
   obtain ⟨x, aw, ax⟩ := ob ah
   refine li underlying57 a1m (O.mono f) aw fun ay az aT aA aB => ?_
   obtain ⟨y, C, D, rfl, aC, aD⟩ := aA
   have aE : D0 _ ay az [V6 x.Doc, V3 y C D] := aB
   refine lv (D4 a1m rfl V aE rfl) (al a1m V fun aF aU aG => ?_)
   have aH : SH _ _ _ _ _ [q8 aF [V6 0, V3 none 0 0] 71, _] := aG
   refine lw [V6 x.Doc, V3 y C D] a1m aH fun aV G => (nr (mv rfl (lv (l3 (ds := [V6 m.Doc, V3 o q s]) a1m rfl m1 G rfl rfl) (lv (l3 (ds := [V6 x.Doc, V3 y C D]) a1m rfl m0 G rfl rfl) ?_))))
   obtain ⟨aW, aI, aJ⟩ := ob ax
   refine x9 wn rfl (a9t (vs := [.agg #[V6 m.Doc, V3 o q s], .agg #[V6 x.Doc, V3 y C D]]) (cap := #[]) b8N rfl rfl) (a65 F G.enter0 an ao aC aD aI) ?_
   rintro aX aY ⟨W, rfl, X⟩
   refine ⟨_, rfl, ?_⟩
   have Y := (G.c0 X).t2
   refine lv (y4 rfl) (nq (B5 aJ rfl (fun aK J => ?_) (fun aK J => ?_)))
   ·refine sr (lv (M7 rfl) (nq (i9 (d8 (c9 (c9 ?_))))))
    cases oi J
    cases af _ rfl
    refine d8 (c9 ?_)
    cases oi R
    refine c9 ?_
    cases oi k
    exact ey results122 ⟨W, rfl, Y.s⟩
   refine i6 (o0 (qg (lv (y3 rfl rfl (A0 hi29 (b7.max i))) (mv rfl (d7 ?_)))))
   cases oi J
   exact qd ⟨_, rfl, W, rfl, Y.s, (f.trans X.le)⟩
  rintro T _ ad aL ⟨U, rfl, l, f⟩
  subst aL
  refine sr (lv (n8 rfl rfl) (ns (A2 rfl (c6 (by omega)) (q7 (d4 (d4 (j5 ?_)))))))
  cases oi R
  exact H9 ⟨_, U, rfl, rfl, l, f⟩ trivial
 rintro _ aZ ⟨ba, aM, rfl, rfl, aN, bb⟩
 have k := C8 k
 refine qr (lv (r_t rfl) (nq (i9 ?_)))
 cases oi k
 exact ey results122 ⟨aM, rfl, aN⟩

theorem a6q {q0 : u9} {q1 : u9} {r : Bool} (hS : SH w K [] w K []) (R : q0.Field.length ≤ maxLen) (S : q0.Term.length ≤ maxLen) (o : b7 S1 K A a b q0.Posts) (T : q1.Field.length ≤ maxLen) (U : q1.Term.length ≤ maxLen) (q : b7 S1 K B c d q1.Posts) (hm : U9 F q0 q1 = some r) :
  Calls prog 72 #[.agg #[sv q0.Field, sv q0.Term, V3 A a b], .agg #[sv q1.Field, sv q1.Term, V3 B c d]] w (R_b w K r) := by
 rw [U9] at hm
 refine ci func72 rfl ntmps72 (sr (bx rfl hS fun s V x => ?_))
 have y : SH _ _ _ _ _ [q8 s [sv q0.Field, sv q0.Term, V3 A a b] 112] := x
 refine bx rfl y fun C W D => ?_
 have f : SH _ _ _ _ _ [q8 C [sv q1.Field, sv q1.Term, V3 B c d] 112, _] := D
 refine lv (M7 rfl) (nr (fl a0l rfl D9 m1 f rfl (fl a0l rfl D9 m0 f rfl (lv (H0 rfl rfl) (mv rfl (bt hm (fun i l => ?_) (fun i l => ?_)))))))
 ·refine lg i (b8 X5 rfl) (lg i (l8 D9 rfl m1 f rfl) (lg i (b8 X5 rfl) (lg i (l8 D9 rfl m0 f rfl) (lg i (H0 rfl rfl) (lv (j3 rfl i rfl) (mv rfl (bt l (fun k m => ?_) (fun k m => ?_))))))))
  ·refine lg k (b8 L1 rfl) (lg k (l8 a2Q rfl m1 f rfl) (lg k (b8 L1 rfl) (lg k (l8 a2Q rfl m0 f rfl) ?_)))
   obtain ⟨X, G, H⟩ := ob m
   refine x9 (wg rfl rfl k) rfl (x8 (vs := [V3 A a b, V3 B c d, .func (.func 123) #[] #[]]) b8M rfl) (a0q F f.enter0 o q G) ?_
   rintro Y aa ⟨I, rfl, J⟩
   refine ⟨_, rfl, ?_⟩
   have O := (f.c0 J).t2
   refine lv (j3 rfl k rfl) (av rfl (nq (i9 ?_)))
   cases oi H
   exact ey results72 ⟨I, rfl, O.s⟩
  iterate 5 refine lu k ?_
  refine lv (F7 rfl k rfl) (av rfl (nq (i9 ?_)))
  cases oi m
  exact ey results72 ⟨K, rfl, f.s⟩
 iterate 5 refine lu i ?_
 refine lv (F7 rfl i rfl) (mv rfl ?_)
 iterate 5 refine lu rfl ?_
 refine lv (F7 rfl rfl rfl) (av rfl (nq (i9 ?_)))
 cases oi l
 exact ey results72 ⟨K, rfl, f.s⟩

theorem a5T {q0 : List Int} {q1 : List Int} {r : Bool} (hS : SH w K [] w K []) (k : b7 B7 K A a b q0) (x : b7 B7 K B c d q1) (hm : O6 F q0 q1 = some r) :
  Calls prog 177 #[V3 A a b, V3 B c d] w (R_b w K r) := by
 rw [O6] at hm
 refine ci func177 rfl ntmps177 (sr (lv (M7 rfl) (P6 (mv rfl (lv (k9 underlying55 rfl k) (mv rfl (lv (k9 underlying55 rfl x) (lv (W3 rfl rfl) (nq ?_)))))))))
 refine S3 rfl (fun l => ?_) (fun l => ?_)
 ·have m := a1R l hm
  refine sr (lv (M7 rfl) (nq (rr ?_)))
  cases oi m
  exact ey results177 ⟨K, rfl, hS⟩
 have m := a1Q l hm
 refine i6 (qs (sr (lv (L3 rfl) (nq ?_))))
 obtain ⟨I, J, i⟩ := ob m
 refine j4 (IE I w K [] K [] []) ?_ ?_
 ·refine i5 ?_
  obtain ⟨ap, O, y⟩ := ob J
  refine qw (fun (o : Int) => IW w K [] K [(0, V3 A a b), (1, V3 B c d), (5, V6 o)] [] (d9 o)) O ⟨K, rfl, hS, kr, I0⟩ ?_
  rintro o _ aq ar R C ⟨S, rfl, D, f, au⟩
  refine k8 (sr (mv rfl (mv rfl (lv (k9 underlying55 rfl (k.mono f)) (lv (n8 rfl rfl) (nq (B5 R rfl (fun T q => ?_) (fun T q => ?_))))))))
  ·refine i6 (qs (i5 (k8 (C2 mixed (by kernel_rfl) D (km rfl (km rfl ?_))))))
   obtain ⟨U, V, W⟩ := ob q
   refine ki underlying55 D8 (k.mono f) V fun X Y aw aa ab => ?_
   obtain ⟨rfl, ax⟩ := aa
   have ac : D0 _ X Y [V6 U] := ab
   refine kh (z8 D8 rfl (ac 0 _ rfl)) (km rfl (km rfl ?_))
   obtain ⟨ad, ae, af⟩ := ob W
   refine ki underlying55 D8 (x.mono f) ae fun ag ah ay ai aj => ?_
   obtain ⟨rfl, az⟩ := ai
   have ak : D0 _ ag ah [V6 ad] := aj
   refine kh (z8 D8 rfl (ak 0 _ rfl)) (kv (W3 rfl rfl) (z7 ?_))
   rintro aA ⟨G, H, al⟩
   refine j6 (B5 af rfl (fun am s => ?_) (fun am s => ?_))
   ·refine sr (lv (M7 rfl) (nq (i9 (d8 (c9 (c9 ?_))))))
    cases oi s
    cases C _ rfl
    refine d8 (c9 ?_)
    cases oi y
    refine c9 ?_
    cases oi i
    exact ey results177 ⟨G, rfl, H⟩
   refine i6 (o0 (j6 (i7 (mv rfl (lv (s6 rfl rfl) (av rfl (d7 ?_)))))))
   cases oi s
   exact qd ⟨_, rfl, G, rfl, H, (f.trans al), (l9 _)⟩
  refine q7 (d4 (d4 ?_))
  cases oi q
  cases C _ rfl
  refine j5 ?_
  cases oi y
  exact H9 ⟨_, S, rfl, rfl, D, f⟩ trivial
 rintro _ aB ⟨aC, an, rfl, rfl, ao, aD⟩
 have i := C8 i
 refine qr (lv (r_t rfl) (nq (i9 ?_)))
 cases oi i
 exact ey results177 ⟨an, rfl, ao⟩

theorem a5v {q0 : u9} {q1 : u9} {r : Bool} (hS : SH w K [] w K []) (bF : q0.Field.length ≤ maxLen) (bG : q0.Term.length ≤ maxLen) (x : b7 S1 K A a b q0.Posts) (bH : q1.Field.length ≤ maxLen) (bI : q1.Term.length ≤ maxLen) (G : b7 S1 K B c d q1.Posts) (hm : R5 F q0 q1 = some r) :
  Calls prog 129 #[.agg #[sv q0.Field, sv q0.Term, V3 A a b], .agg #[sv q1.Field, sv q1.Term, V3 B c d]] w (R_b w K r) := by
 rw [R5] at hm
 refine ci func129 rfl ntmps129 (sr (bx rfl hS fun m bJ ac => ?_))
 have ad : SH _ _ _ _ _ [q8 m [sv q0.Field, sv q0.Term, V3 A a b] 112] := ac
 refine bx rfl ad fun o bK ae => ?_
 have k : SH _ _ _ _ _ [q8 o [sv q1.Field, sv q1.Term, V3 B c d] 112, _] := ae
 refine lv (M7 rfl) (ns (k8 ?_))
 obtain ⟨af, ag, ah⟩ := ob hm
 refine j4 (IV w K [] K [(2, pt m), (3, pt o), (26, .bool af)] [q8 m [sv q0.Field, sv q0.Term, V3 A a b] 112, q8 o [sv q1.Field, sv q1.Term, V3 B c d] 112]) ?_ ?_
 ·refine i7 (fl a0l rfl D9 m1 k rfl (fl a0l rfl D9 m0 k rfl (lv (a0o rfl rfl) (mv rfl (bt ag (fun l H => ?_) (fun l H => ?_))))))
  ·iterate 5 refine lu l ?_
   refine lv (K5 rfl l rfl) (mv rfl ?_)
   iterate 7 refine lu rfl ?_
   refine lv (K5 rfl rfl rfl) (d7 ?_)
   cases oi H
   exact qd ⟨K, rfl, k.f1, kr⟩
  refine lg l (b8 X5 rfl) (lg l (l8 D9 rfl m1 k rfl) (lg l (b8 X5 rfl) (lg l (l8 D9 rfl m0 k rfl) (lg l (a0o rfl rfl) (lv (j9 rfl l rfl) (mv rfl (bt H (fun i I => ?_) (fun i I => ?_))))))))
  ·iterate 7 refine lu i ?_
   refine lv (K5 rfl i rfl) (d7 ?_)
   cases oi I
   exact qd ⟨K, rfl, k.f1, kr⟩
  refine lg i (b8 L1 rfl) (lg i (l8 a2Q rfl m1 k rfl) (lg i (k9 underlying57 rfl x) (lg i (b8 L1 rfl) (lg i (l8 a2Q rfl m0 k rfl) (lg i (k9 underlying57 rfl G) (lg i (W3 rfl rfl) (lv (j9 rfl i rfl) (d7 ?_))))))))
  cases oi I
  exact qd ⟨K, rfl, k.f1, kr⟩
 rintro _ bL ⟨y, rfl, U, s⟩
 refine j6 (B5 ah rfl (fun ai J => ?_) (fun ai J => ?_))
 ·refine sr (lv (M7 rfl) (nq (rr ?_)))
  cases oi J
  exact ey results129 ⟨y, rfl, U.s⟩
 refine i6 (qs (sr (lv (L3 rfl) (nq ?_))))
 obtain ⟨aj, ak, C⟩ := ob J
 refine j4 (IE aj w K [] y [] []) ?_ ?_
 ·refine i5 ?_
  obtain ⟨bM, al, V⟩ := ob ak
  refine qw (fun (D : Int) => IW w K [] y [(2, pt m), (3, pt o), (5, V6 D)] [q8 m [sv q0.Field, sv q0.Term, V3 A a b] 112, q8 o [sv q1.Field, sv q1.Term, V3 B c d] 112] (d9 D)) al ⟨y, rfl, U, kr, I0⟩ ?_
  rintro D _ bN bO am W ⟨X, rfl, O, q, bP⟩
  refine k8 (sr (mv rfl (fl L1 rfl a2Q m0 O rfl (lv (k9 underlying57 rfl (x.mono (s.trans q))) (lv (n8 rfl rfl) (nq (B5 am rfl (fun an R => ?_) (fun an R => ?_))))))))
  ·refine i6 (qs (i5 (k8 ?_)))
   obtain ⟨ao, ap, aq⟩ := ob R
   refine j4 (IV w K [] X [(2, pt m), (3, pt o), (5, V6 D), (62, .bool ao)] [q8 m [sv q0.Field, sv q0.Term, V3 A a b] 112, q8 o [sv q1.Field, sv q1.Term, V3 B c d] 112]) ?_ ?_
   ·refine C2 mixed (by kernel_rfl) O (kv (b8 L1 rfl) (kh (u2 a2Q rfl m0 rfl) (km rfl ?_)))
    obtain ⟨ar, au, aw⟩ := ob ap
    refine ki underlying57 a1m (x.mono (s.trans q)) au fun ax ay bQ az aA => ?_
    obtain ⟨aB, aC, aD, rfl, bR, bS⟩ := az
    have aE : D0 _ ax ay [V6 ar.Doc, V3 aB aC aD] := aA
    refine kv (b8 a4E rfl) (kh (z8 D8 rfl (aE 0 _ rfl)) (kv (b8 L1 rfl) (kh (u2 a2Q rfl m1 rfl) (km rfl ?_))))
    obtain ⟨aF, aG, aH⟩ := ob aw
    refine ki underlying57 a1m (G.mono (s.trans q)) aG fun aI aJ bT aK aL => ?_
    obtain ⟨aM, aN, aO, rfl, bU, bV⟩ := aK
    have aP : D0 _ aI aJ [V6 aF.Doc, V3 aM aN aO] := aL
    refine kv (b8 a4E rfl) (kh (z8 D8 rfl (aP 0 _ rfl)) (kv (W3 rfl rfl) (km rfl (bt aH (fun f S => ?_) (fun f S => ?_)))))
    ·iterate 14 refine kn f ?_
     refine kv (K5 rfl f rfl) (z7 ?_)
     rintro bW ⟨aQ, aR, aS⟩
     cases oi S
     exact qd ⟨aQ, rfl, aR, aS⟩
    refine kg f (b8 L1 rfl) (kgh f (u2 a2Q rfl m0 rfl) (kg f (d6 rfl) ?_))
    obtain ⟨aT, aU, aV⟩ := ob S
    refine B4 (t := S1) (wg rfl rfl f) rfl underlying57 a1m rfl rfl (x.mono (s.trans q)) aU fun aW aX bX aY aZ => ?_
    obtain ⟨ba, bb, bc, rfl, bY, bd⟩ := aY
    have be : D0 _ aW aX [V6 aT.Doc, V3 ba bb bc] := aZ
    refine kg f (b8 a3t rfl) (kgh f (z8 Y3 rfl (be 1 _ rfl)) (kg f (b8 L1 rfl) (kgh f (u2 a2Q rfl m1 rfl) (kg f (d6 rfl) ?_))))
    obtain ⟨bf, bg, bh⟩ := ob aV
    refine B4 (t := S1) (wg rfl rfl f) rfl underlying57 a1m rfl rfl (G.mono (s.trans q)) bg fun bi bj bZ bk bl => ?_
    obtain ⟨bm, bn, bo, rfl, ca, bp⟩ := bk
    have bq : D0 _ bi bj [V6 bf.Doc, V3 bm bn bo] := bl
    refine kg f (b8 a3t rfl) (kgh f (z8 Y3 rfl (bq 1 _ rfl)) ?_)
    obtain ⟨cb, br, bs⟩ := ob bh
    refine kcg f b9d (fun _ _ bu Y => (a5T F) bu.enter0 (bd.mono Y) (bp.mono Y) br) (kg f (y4 rfl) (kv (j9 rfl f rfl) (z7 ?_)))
    rintro cc ⟨bv, bz, bA⟩
    cases oi bs
    exact qd ⟨bv, rfl, bz, bA⟩
   rintro _ cd ⟨aa, rfl, ab, bB⟩
   refine j6 (B5 aq rfl (fun bC T => ?_) (fun bC T => ?_))
   ·refine sr (lv (M7 rfl) (nq (i9 (d8 (c9 (c9 ?_))))))
    cases oi T
    cases W _ rfl
    refine d8 (c9 ?_)
    cases oi V
    refine c9 ?_
    cases oi C
    exact ey results129 ⟨aa, rfl, ab.s⟩
   refine i6 (o0 (j6 (i7 (mv rfl (lv (s6 rfl rfl) (av rfl (d7 ?_)))))))
   cases oi T
   exact qd ⟨_, rfl, aa, rfl, ab, (q.trans bB), (l9 _)⟩
  refine q7 (d4 (d4 ?_))
  cases oi R
  cases W _ rfl
  refine j5 ?_
  cases oi V
  exact H9 ⟨_, X, rfl, rfl, O.s, q⟩ trivial
 rintro _ ce ⟨cf, bD, rfl, rfl, bE, cg⟩
 have C := C8 C
 refine qr (lv (r_t rfl) (nq (i9 ?_)))
 cases oi C
 exact ey results129 ⟨bD, rfl, bE⟩

theorem c0q {q0 : List D5} {q1 : Int} {r : (List Int)} (hS : SH w K [] w K []) (i : b7 S1 K A a b q0) (an : d9 q1) (hm : a4r F q0 q1 = some r) :
  Calls prog 28 #[V3 A a b, V6 q1] w fun e w' => ∃ a_1 n_2 c_3 K', e = .returned (V3 a_1 n_2 c_3) ∧ SH w K [] w' K' [] ∧ b7 B7 K' a_1 n_2 c_3 r := by
 rw [a4r] at hm
 refine ci func28 rfl ntmps28 (sr (lv (r_n rfl) (P6 (lv (L3 rfl) (nq ?_)))))
 obtain ⟨C, D, f⟩ := ob hm
 refine j4 (IE C w K [] K [] []) ?_ ?_
 ·refine i5 ?_
  obtain ⟨ao, G, q⟩ := ob D
  refine qw (fun (k : Int) => IW w K [] K [(0, V3 A a b), (1, V6 q1), (5, V6 k)] [] (d9 k)) G ⟨K, rfl, hS, kr, I0⟩ ?_
  rintro k _ ap aq H s ⟨l, rfl, c, d, ar⟩
  refine k8 (sr (mv rfl (mv rfl (lv (k9 underlying57 rfl (i.mono d)) (lv (n8 rfl rfl) (nq (B5 H rfl (fun I m => ?_) (fun I m => ?_))))))))
  ·refine i6 (qs (i5 (sr (mv rfl (mv rfl ?_)))))
   obtain ⟨J, O, R⟩ := ob m
   refine li underlying57 a1m (i.mono d) O fun S T au U V => ?_
   obtain ⟨W, X, Y, rfl, aw, ax⟩ := U
   have aa : D0 _ S T [V6 J.Doc, V3 W X Y] := V
   refine fa a4E rfl (lv (u0 D8 rfl c (aa 0 _ rfl)) (mv rfl (lv (u3 rfl rfl) (nq (B5 R rfl (fun ab o => ?_) (fun ab o => ?_))))))
   ·refine sr (mv rfl (mv rfl ?_))
    obtain ⟨ac, ad, ae⟩ := ob o
    refine li underlying57 a1m (i.mono d) ad fun af ag ay ah ai => ?_
    obtain ⟨x, y, B, rfl, az, aj⟩ := ah
    have ak : D0 _ af ag [V6 ac.Doc, V3 x y B] := ai
    refine fa a3t rfl (lv (u0 Y3 rfl c (ak 1 _ rfl)) (av rfl (nq (i9 (d8 (c9 (c9 ?_)))))))
    cases oi ae
    cases s _ rfl
    refine d8 (c9 ?_)
    cases oi q
    refine c9 ?_
    cases oi f
    exact ey results28 ⟨x, y, B, l, rfl, c, aj⟩
   refine i6 (o0 (j6 (i7 (mv rfl (lv (s6 rfl rfl) (av rfl (d7 ?_)))))))
   cases oi o
   exact qd ⟨_, rfl, l, rfl, c, d, (l9 _)⟩
  refine q7 (d4 (d4 ?_))
  cases oi m
  cases s _ rfl
  refine j5 ?_
  cases oi q
  exact H9 ⟨_, l, rfl, rfl, c, d⟩ trivial
 rintro _ aA ⟨s9, al, rfl, rfl, am, aC⟩
 have f := C8 f
 refine qr (lv (r_n rfl) (nq (i9 ?_)))
 cases oi f
 exact ey results28 ⟨none, 0, 0, al, rfl, am, (b7.nil _ _)⟩

theorem W9 {q0 : N3} {q1 : k6} {r : (List k6)} (hS : SH w K Z w K [q8 g1 [V3 A a b, V3 B c d, V3 C f i, V3 D k l] 123]) (aS : b7 B8 K A a b q0.c_.Stops) (aT : b7 I4 K B c d q0.c_.Syns) (aU : b7 E1 K C f i q0.s_.Docs) (O : b7 z6 K D k l q0.s_.Entries) (aV : q1.length ≤ maxLen) (hm : E8 F q0 q1 = some r) :
  Calls prog 131 #[.pointer (some ⟨g1, 2, none⟩), sv q1] w fun e w' => ∃ a_1 n_2 c_3 K', e = .returned (V3 a_1 n_2 c_3) ∧ SH w K Z w' K' [tail (V3 a_1 n_2 c_3) 9 1, q8 g1 [V3 A a b, V3 B c d, V3 C f i, V3 D k l] 123] ∧ b7 B8 K' a_1 n_2 c_3 r := by
 rw [E8] at hm
 refine ci func131 rfl ntmps131 (sr (lv (r_n rfl) (nr (b0 B8 underlying23 D9 hS fun af aW V R ag Y => (av rfl (P6 (mv rfl (lv (v8 rfl) (fl G3 rfl tf44 m1 Y rfl ?_)))))))))
 refine lv (k9 underlying44 rfl (O.mono R)) (lv (r_m rfl) (nq ?_))
 obtain ⟨ah, ai, aj⟩ := ob hm
 refine j4 (fun E' w' => ∃ y G H I, E' = [(0, .pointer (some ⟨g1, 2, none⟩)), (5, V3 y G H)] ∧ SH w K Z w' I [q8 g1 [V3 A a b, V3 B c d, V3 C f i, V3 D k l] 123, tail (V3 y G H) 9 1] ∧ H6 V I ∧ b7 B8 I y G H ah) ?_ ?_
 ·refine i5 ?_
  obtain ⟨aX, ak, am⟩ := ob ai
  refine qF (fun (aa : Nat) (W : (List k6)) E' w' => ∃ m o q s, E' = [(0, .pointer (some ⟨g1, 2, none⟩)), (1, sv q1), (5, V3 m o q), (12, V3 D k l), (13, V6 (q0.s_.Entries.length : Int)), (14, V6 ((aa : Nat) : Int))] ∧ SH w K Z w' s [q8 g1 [V3 A a b, V3 B c d, V3 C f i, V3 D k l] 123, tail (V3 m o q) 9 1] ∧ H6 V s ∧ b7 B8 s m o q W) ak ⟨af, 0, 0, V, rfl, Y.f1, kr, ag⟩ ?_ ?_
  ·rintro aa W _ an aY hi51 ao ⟨m, o, q, s, rfl, S, J, T⟩
   refine sr (lv (n8 rfl rfl) (ns (A3 rfl (c7 (by omega)) (i6 (j6 (k8 (i5 (sr ?_))))))))
   obtain ⟨x, ap, aq⟩ := ob ao
   refine li underlying44 E3 (O.mono (R.trans J)) ap fun ar au aZ aw ax => ?_
   obtain ⟨ab, ac, ad, rfl, ba, ay, bb⟩ := aw
   have az : D0 _ ar au [sv x.Field, sv x.Term, V3 ab ac ad] := ax
   refine lv (D4 E3 rfl S az rfl) (al E3 S fun aA bc aB => ?_)
   have aC : SH _ _ _ _ _ [q8 aA [sv [], sv [], V3 none 0 0] 112, _, _] := aB
   refine lw [sv x.Field, sv x.Term, V3 ab ac ad] E3 aC fun bd U => (nr (fl a0l rfl D9 m0 U rfl (mv rfl (lv (H0 rfl rfl) (nq (B5 aq rfl (fun aD X => ?_) (fun aD X => ?_)))))))
   ·refine i7 (mv rfl (fl X5 rfl D9 m0 U rfl (lb B8 (sv x.Term) [sv x.Term] x.Term underlying23 D9 ⟨rfl, ay⟩ U fun be bf bg ae aE aF => ?_)))
    obtain ⟨bh, aG, aH⟩ := ob X
    refine lp underlying23 D9 (T.mono ae) aE aG aF.f3 fun aI aJ aK bi aL aM aN aO => (av rfl (nb (qg (lv (y3 rfl rfl (A0 hi51 (b7.max (O.mono R)))) (mv rfl (d7 ?_))))))
    cases oi aH
    exact qd ⟨aI, aJ, aK, aL, rfl, aO.f3.s, ((J.trans ae).trans aM), aN⟩
   refine i6 (o0 (qg (lv (y3 rfl rfl (A0 hi51 (b7.max (O.mono R)))) (mv rfl (d7 ?_)))))
   cases oi X
   exact qd ⟨m, o, q, s, rfl, U.s, J, T⟩
  rintro W _ an aP ⟨m, o, q, s, rfl, S, J, T⟩
  subst aP
  refine sr (lv (n8 rfl rfl) (ns (A2 rfl (c6 (by omega)) (q7 (d4 (d4 (j5 ?_)))))))
  cases oi am
  exact qd ⟨m, o, q, s, rfl, S, J, T⟩
 rintro _ bj ⟨y, G, H, I, rfl, aQ, bk, aR⟩
 refine qr (mv rfl (av rfl (nq (i9 ?_))))
 cases oi aj
 exact ey results131 ⟨y, G, H, I, rfl, aQ.f1, aR⟩
end Go.Proofs.YtmkhlppjphodfaaGreatDoor
