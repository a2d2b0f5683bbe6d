/-
 Walks of the functions. Printed by gen.py.
-/
import Derived.Test.YtmkhlppjphodfaaGreatDoorFacts
set_option linter.unusedVariables false
set_option linter.unusedSectionVars false
set_option maxRecDepth 100000
namespace Go.Proofs.YtmkhlppjphodfaaGreatDoor
set_option maxHeartbeats 4000000
open Go Go.Fk Go.RowKit Tryz
variable (F : Nat) {w : World} {K : C5} {Z : List Nat} {g1 g2 g3 : Nat} {A B C D G H I J O R S T : Option Addr} {a b c d f i k l m n o p q s v x y aa ab ac ad ae af ag : Nat}
variable [dr : Dr]

theorem u7 {q0 : u5} {q1 : Int} {r : Int × u5} (hS : SH w K Z w K [q8 g1 [V3 A a b, V6 q0.p_] 145]) (c : b7 tU8 K A a b q0.b_) (aF : d9 q0.p_) (aG : d9 q1) (hm : a0p F q0 q1 = some r) :
  Calls prog 78 #[.pointer (some ⟨g1, 0, none⟩), V6 q1] w fun e w' => ∃ a_2 n_3 c_4 K', e = .returned (V6 r.1) ∧ SH w K Z w' K' [q8 g1 [V3 a_2 n_3 c_4, V6 r.2.p_] 145] ∧ d9 r.1 ∧ b7 tU8 K' a_2 n_3 c_4 r.2.b_ ∧ d9 r.2.p_ := by
 rw [a0p] at hm
 refine ci func78 rfl ntmps78 (sr (lv (L3 rfl) (nr (mv rfl (mv rfl (lv (v8 rfl) (fl b0L rfl D8 m0 hS rfl (lv (s6 rfl rfl) (lv (v8 rfl) ?_)))))))))
 refine fa b0L rfl (ls [V3 A a b, V6 (u6 (q0.p_ + (1 : Int)))] (V6 (u6 (q0.p_ + (1 : Int)))) D8 hS fun w8 k => (ns (k8 ?_)))
 obtain ⟨y, B, C⟩ := ob hm
 refine j4 (IV w K Z K [(0, pt g1), (1, V6 q1), (24, .bool y)] [q8 g1 [V3 A a b, V6 (u6 (q0.p_ + (1 : Int)))] 145]) ?_ ?_
 ·refine i7 (mv rfl (lv (n8 rfl rfl) (mv rfl (bt B (fun d l => ?_) (fun d l => ?_)))))
  ·iterate 6 refine lu d ?_
   refine lv (K5 rfl d rfl) (d7 ?_)
   cases oi l
   exact qd ⟨K, rfl, k, kr⟩
  refine lg d (d6 rfl) (lg d (v8 rfl) (lg d (b8 a3k rfl) (lg d (l8 b2z rfl m0 k rfl) (lg d (k9 underlying22 rfl c) (lg d (u3 rfl rfl) (lv (j9 rfl d rfl) (d7 ?_)))))))
  cases oi l
  exact qd ⟨K, rfl, k, kr⟩
 rintro _ aI ⟨q, rfl, i, f⟩
 refine j6 (B5 C rfl (fun D m => ?_) (fun D m => ?_))
 ·refine sr (lv (L3 rfl) (nq (rr ?_)))
  cases oi m
  exact ey results78 ⟨A, a, b, q, rfl, i, I0, (c.mono f), (l9 _)⟩
 refine i6 (qr (mv rfl (lv (v8 rfl) (fl b0L rfl D8 m0 i rfl (lv (F2 rfl rfl) (av rfl (P6 (mv rfl (mv rfl ?_)))))))))
 refine lv (v8 rfl) (fl a3k rfl b2z m0 i rfl (lv (k9 underlying22 rfl (c.mono f)) (lv (n8 rfl rfl) (nq (B5 m rfl (fun G o => ?_) (fun G o => ?_))))))
 ·refine sr (mv rfl (lv (v8 rfl) (fl a3k rfl b2z m0 i rfl (mv rfl ?_))))
  obtain ⟨H, I, J⟩ := ob o
  refine li underlying22 tf5 (c.mono f) I fun O R aJ S T => ?_
  obtain rfl := S
  have U : D0 _ O R [iv8 H] := T
  refine lv (u0 tf5 rfl i (U 0 _ rfl)) (lv (b2Z underlying5 underlying3 rfl) (mv rfl ?_))
  obtain ⟨aK, s, V⟩ := ob J
  refine lv (a7h rfl rfl s) (av rfl (nq (rr ?_)))
  cases oi V
  exact ey results78 ⟨A, a, b, q, rfl, i, (a8I (b8s _) s), (c.mono f), (l9 _)⟩
 refine i6 (qs (C2 mixed (by kernel_rfl) i (km rfl (kv (v8 rfl) (kv (b8 a3k rfl) (kh (u2 b2z rfl m0 rfl) (km rfl (km rfl (kv (v8 rfl) ?_)))))))))
 refine kv (b8 a3k rfl) (kh (u2 b2z rfl m0 rfl) (kv (k9 underlying22 rfl (c.mono f)) ?_))
 obtain ⟨aL, W, X⟩ := ob o
 refine kv (a7h rfl rfl W) ?_
 obtain ⟨Y, aa, ab⟩ := ob X
 refine ki underlying22 tf5 (c.mono f) aa fun ac ad aM ae af => ?_
 obtain rfl := ae
 have ag : D0 _ ac ad [iv8 Y] := af
 refine kh (z8 tf5 rfl (ag 0 _ rfl)) (kv (b2Z underlying5 underlying3 rfl) (kv (I9 rfl rfl) (km rfl (kv (v8 rfl) (kv (b8 a3k rfl) (kh (u2 b2z rfl m0 rfl) (km rfl (kv (I9 rfl rfl) (kv (s6 rfl rfl) ?_)))))))))
 refine km rfl (kv (v8 rfl) (kv (b8 a3k rfl) (kh (u2 b2z rfl m0 rfl) (kv (k9 underlying22 rfl (c.mono f)) ?_))))
 obtain ⟨aN, ah, ai⟩ := ob ab
 refine kv (a7h rfl rfl ah) ?_
 obtain ⟨aj, ak, al⟩ := ob ai
 refine ki underlying22 tf5 (c.mono f) ak fun am an aO ao ap => ?_
 obtain rfl := ao
 have aq : D0 _ am an [iv8 aj] := ap
 refine kh (z8 tf5 rfl (aq 0 _ rfl)) (kv (b2Z underlying5 underlying3 rfl) (kv (I9 rfl rfl) (kv (s6 rfl rfl) (km rfl (kv (I9 rfl rfl) (kv (s6 rfl rfl) (km rfl (km rfl (kv (v8 rfl) ?_)))))))))
 refine kv (b8 a3k rfl) (kh (u2 b2z rfl m0 rfl) (kv (k9 underlying22 rfl (c.mono f)) ?_))
 obtain ⟨aP, ar, au⟩ := ob al
 refine kv (a2d rfl rfl ar) (kv (I9 rfl rfl) (kv (s6 rfl rfl) ?_))
 obtain ⟨aQ, aw, ax⟩ := ob au
 have ay := oi aw
 refine kv (b3O rfl (congrArg (Value.int .i64) ay)) (z7 ?_)
 rintro aR ⟨az, aA, aB⟩
 refine qr (mv rfl (mv rfl ?_))
 obtain ⟨aS, aC, aD⟩ := ob ax
 refine lv (a2d rfl rfl aC) (lv (b8x rfl rfl) (av rfl (nr (mv rfl (mv rfl ?_)))))
 obtain ⟨aT, x, aE⟩ := ob aD
 refine lv (a7h rfl rfl x) (av rfl (nq (i9 ?_)))
 cases oi aE
 exact ey results78 ⟨A, a, b, az, rfl, aA, (a8I (l9 _) x), (c.mono (f.trans aB)), (l9 _)⟩

theorem a8j {q0 : u5} {r : q9 × u5} (hS : SH w K Z w K [q8 g1 [V3 A a b, V6 q0.p_] 145]) (aI : b7 tU8 K A a b q0.b_) (aJ : d9 q0.p_) (hm : a0B F q0 = some r) :
  Calls prog 103 #[.pointer (some ⟨g1, 0, none⟩)] w fun e w' => ∃ a_1 n_2 c_3 a_5 n_6 c_7 a_9 n_10 c_11 K', e = .returned (.agg #[V3 a_1 n_2 c_3, V3 a_5 n_6 c_7]) ∧ SH w K Z w' K' [tail (V3 a_1 n_2 c_3) 9 1, tail (V3 a_5 n_6 c_7) 96 2, q8 g1 [V3 a_9 n_10 c_11, V6 r.2.p_] 145] ∧ b7 B8 K' a_1 n_2 c_3 r.1.Stops ∧ b7 I4 K' a_5 n_6 c_7 r.1.Syns ∧ b7 tU8 K' a_9 n_10 c_11 r.2.b_ ∧ d9 r.2.p_ := by
 rw [a0B] at hm
 refine ci func103 rfl ntmps103 (sr (al E6 hS fun s w8 aK => ?_))
 have aL : SH _ _ _ _ _ [q8 s [V3 none 0 0, V3 none 0 0] 26, _] := aK
 refine nr (lv (A5 (cs := #[V3 none 0 0, V3 none 0 0]) c0d E6 rfl (by kernel_rfl)) (al E6 aL fun v bZ aM => ?_))
 have aN : SH _ _ _ _ _ [q8 v [V3 none 0 0, V3 none 0 0] 26, _, _] := aM
 refine lw [V3 none 0 0, V3 none 0 0] E6 aN fun ca aO => (P6 (mv rfl ?_))
 obtain ⟨aP, aQ, aR⟩ := ob hm
 have ak := aO.f2
 refine lk a2C (u7 F ak.e1 aI aJ (by decide : d9 3) aQ) ?_
 rintro cb cc ⟨aS, aT, aU, am, rfl, aV, cd, aW, aX⟩
 have an := (ak.c1 aV).t3
 refine lv (E5 rfl rfl) (nq ?_)
 obtain ⟨ao, aY, aZ⟩ := ob aR
 refine j4 (fun E' w' => ∃ x y B i k l C, E' = [(0, pt g1), (2, pt s), (3, pt v)] ∧ SH w K Z w' C [q8 g1 [V3 aS aT aU, V6 aP.2.p_] 145, q8 s [V3 none 0 0, V3 none 0 0] 26, q8 v [V3 x y B, V3 i k l] 26, tail (V3 x y B) 9 1, tail (V3 i k l) 96 2] ∧ H6 am C ∧ b7 B8 C x y B ao.Stops ∧ b7 I4 C i k l ao.Syns) ?_ ?_
 ·refine B5 aY rfl (fun ba W => ?_) (fun ba W => ?_)
  ·refine i7 (lb B8 (sv [116, 104, 101]) [sv [116, 104, 101]] ([116, 104, 101] : k6) underlying23 D9 ⟨rfl, (by decide : ([116, 104, 101] : k6).length ≤ maxLen)⟩ an fun X ce bb bc bd be => (fa a1w rfl (ls [V3 X 1 1, V3 none 0 0] (V3 X 1 1) O5 be.f2 fun cf bf => (d7 ?_))))
   cases oi W
   have bg := bf.nil 96 2
   exact qd ⟨X, 1, 1, none, 0, 0, bb, rfl, bg.f2.f2.f4.f4, bc, bd, (b7.nil _ _)⟩
  refine i6 ?_
  cases oi W
  have bh := an.nil 9 1
  have bi := bh.nil 96 2
  exact qd ⟨none, 0, 0, none, 0, 0, am, rfl, bi.f1.f3.f4.f4, kr, (b7.nil _ _), (b7.nil _ _)⟩
 rintro _ cg ⟨x, y, B, i, k, l, C, rfl, ap, bj, bk, aq⟩
 refine qs (sr (mv rfl ?_))
 obtain ⟨bl, bm, bn⟩ := ob aZ
 refine lk a2C (u7 F ap.e1 (aW.mono bj) aX (by decide : d9 4) bm) ?_
 rintro ch cj ⟨bo, bp, bq, ar, rfl, S, ck, br, bs⟩
 have au := (ap.c1 S).t5
 refine lv (u3 rfl rfl) (nq ?_)
 obtain ⟨aw, bu, bv⟩ := ob bn
 refine j4 (fun E' w' => ∃ c d f m o q D, E' = [(0, pt g1), (2, pt s), (3, pt v)] ∧ SH w K Z w' D [q8 g1 [V3 bo bp bq, V6 bl.2.p_] 145, q8 s [V3 none 0 0, V3 none 0 0] 26, q8 v [V3 c d f, V3 m o q] 26, tail (V3 c d f) 9 1, tail (V3 m o q) 96 2] ∧ H6 ar D ∧ b7 B8 D c d f aw.Stops ∧ b7 I4 D m o q aw.Syns) ?_ ?_
 ·refine B5 bu rfl (fun bx Y => ?_) (fun bx Y => ?_)
  ·refine i7 (bw [[100, 111, 103], [116, 104, 101]] underlying23 D9 au fun aa cl bz ax bA bB => (fa a1w rfl (ls [V3 aa 2 2, V3 i k l] (V3 aa 2 2) O5 bB.f3 fun cm bC => (d7 ?_))))
   cases oi Y
   exact qd ⟨aa, 2, 2, i, k, l, bz, rfl, bC.f5.f2.f2.f4.f4.s, ax, bA, (aq.mono (S.le.trans ax))⟩
  refine i6 ?_
  cases oi Y
  exact qd ⟨x, y, B, i, k, l, ar, rfl, au, kr, (bk.mono S.le), (aq.mono S.le)⟩
 rintro _ cn ⟨c, d, f, m, o, q, D, rfl, ay, bD, ab, bE⟩
 refine qs (sr (mv rfl ?_))
 obtain ⟨cp, bF, bG⟩ := ob bv
 refine lk a2C (u7 F ay.e1 (br.mono bD) bs (by decide : d9 4) bF) ?_
 rintro cq cr ⟨ac, ad, ae, bH, rfl, G, ct, af, ag⟩
 have T := (ay.c1 G).t5
 refine nq (i5 (sr (lv (u3 rfl rfl) (av rfl (nq (B5 bG rfl (fun bI ah => ?_) (fun bI ah => ?_)))))))
 ·refine i7 (bw [[110, 101, 119], [121, 111, 114, 107]] underlying23 D9 T fun U cu cv az bJ bK => (lv (A5 (cs := #[V3 U 2 2, sv [110, 121]]) b7c a3Z rfl (by kernel_rfl)) (lb I4 (.agg #[V3 U 2 2, sv [110, 121]]) [V3 U 2 2, sv [110, 121]] (Q0.mk ([([110, 101, 119] : k6), ([121, 111, 114, 107] : k6)] : List k6) ([110, 121] : k6)) underlying24 a3Z ⟨U, 2, 2, rfl, bJ, (by decide : ([110, 121] : k6).length ≤ maxLen)⟩ bK fun H cw bL aA bM bN => (fa a1x rfl (ls [V3 c d f, V3 H 1 1] (V3 H 1 1) a5V bN.f4 fun cx aB => (nb (qr (lv (l3 (ds := [V3 c d f, V3 H 1 1]) E6 rfl m0 aB rfl rfl) (lw [V3 c d f, V3 H 1 1] E6 aB.f4 fun cy aC => ?_)))))))))
  refine nq (i9 ?_)
  cases oi ah
  exact ez results103 E6 aC m0 ⟨c, d, f, H, 1, 1, ac, ad, ae, bL, rfl, aC.f4.f3.f5.s, (ab.mono ((G.le.trans az).trans aA)), bM, (af.mono (az.trans aA)), ag⟩
 refine sr (lv (u3 rfl rfl) (av rfl (nq (B5 ah rfl (fun bO ai => ?_) (fun bO ai => ?_)))))
 ·refine i7 (lb B8 (sv [98, 105, 103]) [sv [98, 105, 103]] ([98, 105, 103] : k6) underlying23 D9 ⟨rfl, (by decide : ([98, 105, 103] : k6).length ≤ maxLen)⟩ T fun I cz cA aD bP bQ => (lv (A5 (cs := #[V3 I 1 1, sv [108, 97, 114, 103]]) b7c a3Z rfl (by kernel_rfl)) (bw [[98, 105, 103], [114, 101, 100], [102, 111, 120]] underlying23 D9 bQ fun J cB cC aj bR bS => (lv (A5 (cs := #[V3 J 3 3, sv [102, 111, 120]]) b7c a3Z rfl (by kernel_rfl)) (bw [[110, 101, 119], [121, 111, 114, 107]] underlying23 D9 bS fun O cD cE V bT bU => (lv (A5 (cs := #[V3 O 2 2, sv [110, 121]]) b7c a3Z rfl (by kernel_rfl)) ?_))))))
  refine J1 (t := I4) (n := 3) (pv := [(0, .agg #[V3 I 1 1, sv [108, 97, 114, 103]]), (1, .agg #[V3 J 3 3, sv [102, 111, 120]]), (2, .agg #[V3 O 2 2, sv [110, 121]])]) (cs := [V3 I 1 1, sv [108, 97, 114, 103], V3 J 3 3, sv [102, 111, 120], V3 O 2 2, sv [110, 121]]) (xs := [(Q0.mk ([([98, 105, 103] : k6)] : List k6) ([108, 97, 114, 103] : k6)), (Q0.mk ([([98, 105, 103] : k6), ([114, 101, 100] : k6), ([102, 111, 120] : k6)] : List k6) ([102, 111, 120] : k6)), (Q0.mk ([([110, 101, 119] : k6), ([121, 111, 114, 107] : k6)] : List k6) ([110, 121] : k6))]) wn rfl underlying24 a3Z rfl rfl rfl (by kernel_rfl) rfl rfl (M1 (u := .agg #[V3 I 1 1, sv [108, 97, 114, 103]]) (z := (Q0.mk ([([98, 105, 103] : k6)] : List k6) ([108, 97, 114, 103] : k6))) ⟨I, 1, 1, rfl, (bP.mono (aj.trans V)), (by decide : ([108, 97, 114, 103] : k6).length ≤ maxLen)⟩ (M1 (u := .agg #[V3 J 3 3, sv [102, 111, 120]]) (z := (Q0.mk ([([98, 105, 103] : k6), ([114, 101, 100] : k6), ([102, 111, 120] : k6)] : List k6) ([102, 111, 120] : k6))) ⟨J, 3, 3, rfl, (bR.mono V), (by decide : ([102, 111, 120] : k6).length ≤ maxLen)⟩ (M1 (u := .agg #[V3 O 2 2, sv [110, 121]]) (z := (Q0.mk ([([110, 101, 119] : k6), ([121, 111, 114, 107] : k6)] : List k6) ([110, 121] : k6))) ⟨O, 2, 2, rfl, bT, (by decide : ([110, 121] : k6).length ≤ maxLen)⟩ a2n))) bU ?_
  intro R cF bV aE bW bX
  refine fa a1x rfl (ls [V3 c d f, V3 R 3 3] (V3 R 3 3) a5V bX.f6 fun cG aF => (nb (qr (lv (l3 (ds := [V3 c d f, V3 R 3 3]) E6 rfl m0 aF rfl rfl) (lw [V3 c d f, V3 R 3 3] E6 aF.f6 fun cH aG => (nq (i9 ?_)))))))
  cases oi ai
  exact ez results103 E6 aG m0 ⟨c, d, f, R, 3, 3, ac, ad, ae, bV, rfl, aG.f6.f3.f7.s, (b7.mono ((((G.le.trans aD).trans aj).trans V).trans aE) ab), bW, (b7.mono (((aD.trans aj).trans V).trans aE) af), ag⟩
 refine i6 (o0 (qr (lv (l3 (ds := [V3 c d f, V3 m o q]) E6 rfl m2 T rfl rfl) (lw [V3 c d f, V3 m o q] E6 T.f1 fun cI aH => (nq (i9 ?_))))))
 cases oi ai
 exact ez results103 E6 aH m0 ⟨c, d, f, m, o, q, ac, ad, ae, bH, rfl, aH.f1.f4.f4.s, (ab.mono G.le), (bE.mono G.le), af, ag⟩

theorem a7a {q0 : List y9} {q1 : List k6} {r : Bool} (hS : SH w K [] w K []) (l : b7 J7 K A a b q0) (C : b7 B8 K B c d q1) (hm : S7 F q0 q1 = some r) :
  Calls prog 231 #[V3 A a b, V3 B c d] w (R_b w K r) := by
 rw [S7] at hm
 refine ci func231 rfl ntmps231 (sr (lv (M7 rfl) (P6 (lv (L3 rfl) (nq ?_)))))
 obtain ⟨U, V, m⟩ := ob hm
 refine j4 (IE U w K [] K [] []) ?_ ?_
 ·refine i5 ?_
  obtain ⟨aW, W, D⟩ := ob V
  refine qw (fun (o : Int) => IW w K [] K [(0, V3 A a b), (1, V3 B c d), (5, V6 o)] [] (d9 o)) W ⟨K, rfl, hS, kr, I0⟩ ?_
  rintro o _ aX aY X G ⟨H, rfl, I, k, aZ⟩
  refine k8 (sr (mv rfl (mv rfl (lv (k9 underlying23 rfl (C.mono k)) (lv (n8 rfl rfl) (nq (B5 X rfl (fun Y q => ?_) (fun Y q => ?_))))))))
  ·refine i6 (qs (i5 (k8 ?_)))
   obtain ⟨aa, ab, ac⟩ := ob q
   refine j4 (IV w K [] H [(0, V3 A a b), (1, V3 B c d), (5, V6 o), (41, .bool aa)] []) ?_ ?_
   ·refine C2 mixed (by kernel_rfl) I (km rfl (km rfl (kv (k9 underlying114 rfl (l.mono k)) (kv (a2F rfl rfl) (km rfl (bt ab (fun i s => ?_) (fun i s => ?_)))))))
    ·iterate 10 refine kn i ?_
     refine kv (K5 rfl i rfl) (km rfl ?_)
     iterate 12 refine qv rfl rfl rfl rfl ?_
     refine kv (K5 rfl rfl rfl) (z7 ?_)
     rintro ba ⟨ad, ae, af⟩
     cases oi s
     exact qd ⟨ad, rfl, ae, af⟩
    refine kg i (d6 rfl) (kg i (d6 rfl) ?_)
    obtain ⟨J, ag, ah⟩ := ob s
    refine B4 (t := J7) (wg rfl rfl i) rfl underlying114 F9 rfl rfl (l.mono k) ag fun ai aj bb ak al => ?_
    obtain ⟨rfl, bc, bd⟩ := ak
    have am : D0 _ ai aj [sv J.Text, V6 J.At] := al
    refine kg i (b8 a1q rfl) (kgh i (z8 D9 rfl (am 0 _ rfl)) (kg i (d6 rfl) (kg i (d6 rfl) ?_)))
    obtain ⟨an, ao, ap⟩ := ob ah
    refine B4 (t := B8) (wg rfl rfl i) rfl underlying23 D9 rfl rfl (C.mono k) ao fun aq ar be au aw => ?_
    obtain ⟨rfl, bf⟩ := au
    have ax : D0 _ aq ar [sv an] := aw
    refine kgh i (z8 D9 rfl (ax 0 _ rfl)) (kg i (a0o rfl rfl) (kv (j9 rfl i rfl) (km rfl (bt ap (fun f x => ?_) (fun f x => ?_)))))
    ·iterate 12 refine kn f ?_
     refine kv (K5 rfl f rfl) (z7 ?_)
     rintro bg ⟨ay, az, aA⟩
     cases oi x
     exact qd ⟨ay, rfl, az, aA⟩
    refine kg f (d6 rfl) (kg f (d6 rfl) ?_)
    obtain ⟨O, aB, aC⟩ := ob x
    refine B4 (t := J7) (wg rfl rfl f) rfl underlying114 F9 rfl rfl (l.mono k) aB fun aD aE bh aF aG => ?_
    obtain ⟨rfl, bi, bj⟩ := aF
    have aH : D0 _ aD aE [sv O.Text, V6 O.At] := aG
    refine kg f (b8 a1r rfl) (kgh f (z8 D8 rfl (aH 1 _ rfl)) (kg f (d6 rfl) ?_))
    obtain ⟨R, aI, aJ⟩ := ob aC
    refine B4 (t := J7) (wg rfl rfl f) rfl underlying114 F9 rfl rfl (l.mono k) aI fun aK aL bk aM aN => ?_
    obtain ⟨rfl, bl, bm⟩ := aM
    have aO : D0 _ aK aL [sv R.Text, V6 R.At] := aN
    refine kg f (b8 a1r rfl) (kgh f (z8 D8 rfl (aO 1 _ rfl)) (kg f (d6 rfl) (kg f (s6 rfl rfl) (kg f (W3 rfl rfl) (kv (j9 rfl f rfl) (z7 ?_))))))
    rintro bn ⟨aP, aQ, aR⟩
    cases oi aJ
    exact qd ⟨aP, rfl, aQ, aR⟩
   rintro _ bo ⟨S, rfl, T, aS⟩
   refine j6 (B5 ac rfl (fun aT y => ?_) (fun aT y => ?_))
   ·refine sr (lv (M7 rfl) (nq (i9 (d8 (c9 (c9 ?_))))))
    cases oi y
    cases G _ rfl
    refine d8 (c9 ?_)
    cases oi D
    refine c9 ?_
    cases oi m
    exact ey results231 ⟨S, rfl, T⟩
   refine i6 (o0 (j6 (i7 (mv rfl (lv (s6 rfl rfl) (av rfl (d7 ?_)))))))
   cases oi y
   exact qd ⟨_, rfl, S, rfl, T, (k.trans aS), (l9 _)⟩
  refine q7 (d4 (d4 ?_))
  cases oi q
  cases G _ rfl
  refine j5 ?_
  cases oi D
  exact H9 ⟨_, H, rfl, rfl, I, k⟩ trivial
 rintro _ bp ⟨bq, aU, rfl, rfl, aV, br⟩
 have m := C8 m
 refine qr (lv (r_t rfl) (nq (i9 ?_)))
 cases oi m
 exact ey results231 ⟨aU, rfl, aV⟩

theorem a9X {q0 : q9} {q1 : List y9} {r : Int} (hS : SH w K [] w K []) (bn : b7 B8 K A a b q0.Stops) (s : b7 I4 K B c d q0.Syns) (V : b7 J7 K C f i q1) (hm : a1N F q0 q1 = some r) :
  Calls prog 184 #[.agg #[V3 A a b, V3 B c d], V3 C f i] w (R_i w K r) := by
 rw [a1N] at hm
 refine ci func184 rfl ntmps184 (sr (bx rfl hS fun q bo W => ?_))
 have X : SH _ _ _ _ _ [q8 q [V3 A a b, V3 B c d] 26] := W
 refine lv (L3 rfl) (nr (lv (r9 (v := V6 (-1)) rfl) (P6 (lv (L3 rfl) (nq ?_)))))
 obtain ⟨I, Y, aa⟩ := ob hm
 refine j4 (IW w K [] K [(5, V6 I)] [] (d9 I)) ?_ ?_
 ·refine i5 ?_
  obtain ⟨bp, ab, ac⟩ := ob Y
  refine qw (fun (o : Int × Int) => IW w K [] K [(1, V3 C f i), (2, pt q), (5, V6 o.1), (6, V6 o.2)] [q8 q [V3 A a b, V3 B c d] 26] (d9 o.1 ∧ d9 o.2)) ab ⟨K, rfl, X, kr, (by decide : d9 (-1)), I0⟩ ?_
  rintro o _ bq br ad ae ⟨J, rfl, x, m, O, af⟩
  refine k8 (sr (mv rfl (fl a1x rfl a5V m0 x rfl (lv (k9 underlying24 rfl (s.mono m)) (lv (n8 rfl rfl) (nq (B5 ad rfl (fun ag y => ?_) (fun ag y => ?_))))))))
  ·refine i6 (qs (i5 (k8 ?_)))
   obtain ⟨ah, ai, aj⟩ := ob y
   refine j4 (IV w K [] J [(1, V3 C f i), (2, pt q), (5, V6 o.1), (6, V6 o.2), (42, .bool ah)] [q8 q [V3 A a b, V3 B c d] 26]) ?_ ?_
   ·refine C2 mixed (by kernel_rfl) x (km rfl (kv (b8 a1x rfl) (kh (u2 a5V rfl m0 rfl) (km rfl ?_))))
    obtain ⟨ak, al, am⟩ := ob ai
    refine ki underlying24 a3Z (s.mono m) al fun an ao bs ap aq => ?_
    obtain ⟨ar, au, aw, rfl, ax, bu⟩ := ap
    have ay : D0 _ an ao [V3 ar au aw, sv ak.To] := aq
    refine kv (b8 a0K rfl) (kh (z8 O5 rfl (ay 0 _ rfl)) ?_)
    obtain ⟨bv, az, aA⟩ := ob am
    refine kc b9s (fun _ _ aB R => (a7a F) aB.enter0 (V.mono (m.trans R)) (ax.mono R) az) (km rfl (bt aA (fun l D => ?_) (fun l D => ?_)))
    ·refine kg l (d6 rfl) (kg l (n8 rfl rfl) (kg l (d6 rfl) (bt D (fun k G => ?_) (fun k G => ?_))))
     ·iterate 15 refine kn k ?_
      refine kg l (K5 rfl k rfl) (kv (j3 rfl l rfl) (z7 ?_))
      rintro bz ⟨aC, aD, aE⟩
      cases oi G
      exact qd ⟨aC, rfl, aD, aE⟩
     refine kg k (b8 a1x rfl) (kgh k (u2 a5V rfl m0 rfl) (kg k (d6 rfl) ?_))
     obtain ⟨aF, aG, aH⟩ := ob G
     refine B4 (t := I4) (wg rfl rfl k) rfl underlying24 a3Z rfl rfl (s.mono m) aG fun aI aJ bA aK aL => ?_
     obtain ⟨aM, aN, aO, rfl, aP, bB⟩ := aK
     have aQ : D0 _ aI aJ [V3 aM aN aO, sv aF.To] := aL
     refine kg k (b8 a0K rfl) (kgh k (z8 O5 rfl (aQ 0 _ rfl)) (kg k (k9 underlying23 rfl aP) (kg k (b8 a1x rfl) (kgh k (u2 a5V rfl m0 rfl) (kg k (d6 rfl) ?_)))))
     obtain ⟨aR, aS, aT⟩ := ob aH
     refine B4 (t := I4) (wg rfl rfl k) rfl underlying24 a3Z rfl rfl (s.mono m) aS fun aU aV bC aW aX => ?_
     obtain ⟨aY, aZ, ba, rfl, bb, bD⟩ := aW
     have bc : D0 _ aU aV [V3 aY aZ ba, sv aR.To] := aX
     refine kg k (b8 a0K rfl) (kgh k (z8 O5 rfl (bc 0 _ rfl)) (kg k (k9 underlying23 rfl bb) (kg k (E5 rfl rfl) (kg l (j9 rfl k rfl) (kv (j3 rfl l rfl) (z7 ?_))))))
     rintro bE ⟨bd, be, bf⟩
     cases oi aT
     exact qd ⟨bd, rfl, be, bf⟩
    refine kn l (kn l (kn l ?_))
    iterate 15 refine ku ?_
    refine kn l (kv (F7 rfl l rfl) (z7 ?_))
    rintro bF ⟨bg, bh, bi⟩
    cases oi D
    exact qd ⟨bg, rfl, bh, bi⟩
   rintro _ bG ⟨S, rfl, T, U⟩
   refine j6 (B5 aj rfl (fun bj H => ?_) (fun bj H => ?_))
   ·refine i7 (mv rfl (av rfl (nb (j6 (i7 (mv rfl (lv (s6 rfl rfl) (av rfl (d7 ?_)))))))))
    cases oi H
    exact qd ⟨_, rfl, S, rfl, T, (m.trans U), af, (l9 _)⟩
   refine i6 (o0 (j6 (i7 (mv rfl (lv (s6 rfl rfl) (av rfl (d7 ?_)))))))
   cases oi H
   exact qd ⟨_, rfl, S, rfl, T, (m.trans U), O, (l9 _)⟩
  refine q7 (d4 (d4 ?_))
  cases oi y
  cases ae _ rfl
  refine j5 ?_
  cases oi ac
  exact qd ⟨J, rfl, x.s, m, O⟩
 rintro _ bH ⟨bk, rfl, bl, bI, bm⟩
 refine qr (mv rfl (av rfl (nq (i9 ?_))))
 cases oi aa
 exact ey results184 ⟨bk, rfl, bl, bm⟩

theorem a4n {q0 : s7} {q1 : k6} {r : k6} (hS : SH w K [] w K []) (an : d9 q0.Id) (l : b7 F3 K A a b q0.Fields) (ao : b7 G5 K B c d q0.Nums) (ap : q1.length ≤ maxLen) (hm : V7 F q0 q1 = some r) :
  Calls prog 222 #[.agg #[V6 q0.Id, V3 A a b, V3 B c d], sv q1] w fun e w' => ∃ K', e = .returned (sv r) ∧ SH w K [] w' K' [] ∧ r.length ≤ maxLen := by
 rw [V7] at hm
 refine ci func222 rfl ntmps222 (sr (bx rfl hS fun m aq H => ?_))
 have I : SH _ _ _ _ _ [q8 m [V6 q0.Id, V3 A a b, V3 B c d] 54] := H
 refine lv (r_s rfl) (P6 (lv (L3 rfl) (nq ?_)))
 obtain ⟨J, O, k⟩ := ob hm
 refine j4 (IE J w K [] K [] []) ?_ ?_
 ·refine i5 ?_
  obtain ⟨ar, R, y⟩ := ob O
  refine qw (fun (o : Int) => IW w K [] K [(1, sv q1), (2, pt m), (5, V6 o)] [q8 m [V6 q0.Id, V3 A a b, V3 B c d] 54] (d9 o)) R ⟨K, rfl, I, kr, I0⟩ ?_
  rintro o _ au aw S C ⟨q, rfl, f, i, ax⟩
  refine k8 (sr (mv rfl (fl W0 rfl a3Y m0 f rfl (lv (k9 underlying51 rfl (l.mono i)) (lv (n8 rfl rfl) (nq (B5 S rfl (fun T s => ?_) (fun T s => ?_))))))))
  ·refine i6 (qs (i5 (sr (fl W0 rfl a3Y m0 f rfl (mv rfl ?_)))))
   obtain ⟨D, U, V⟩ := ob s
   refine li underlying51 M9 (l.mono i) U fun W X ay Y aa => ?_
   obtain ⟨rfl, az, aA⟩ := Y
   have ab : D0 _ W X [sv D.Name, sv D.Text] := aa
   refine fa a2l rfl (lv (u0 D9 rfl f (ab 0 _ rfl)) (mv rfl (lv (H0 rfl rfl) (nq (B5 V rfl (fun ac x => ?_) (fun ac x => ?_))))))
   ·refine sr (fl W0 rfl a3Y m0 f rfl (mv rfl ?_))
    obtain ⟨G, ad, ae⟩ := ob x
    refine li underlying51 M9 (l.mono i) ad fun af ag aB ah ai => ?_
    obtain ⟨rfl, aC, aj⟩ := ah
    have ak : D0 _ af ag [sv G.Name, sv G.Text] := ai
    refine fa a6f rfl (lv (u0 D9 rfl f (ak 1 _ rfl)) (av rfl (nq (i9 (d8 (c9 (c9 ?_)))))))
    cases oi ae
    cases C _ rfl
    refine d8 (c9 ?_)
    cases oi y
    refine c9 ?_
    cases oi k
    exact ey results222 ⟨q, rfl, f.s, aj⟩
   refine i6 (o0 (j6 (i7 (mv rfl (lv (s6 rfl rfl) (av rfl (d7 ?_)))))))
   cases oi x
   exact qd ⟨_, rfl, q, rfl, f, i, (l9 _)⟩
  refine q7 (d4 (d4 ?_))
  cases oi s
  cases C _ rfl
  refine j5 ?_
  cases oi y
  exact H9 ⟨_, q, rfl, rfl, f.s, i⟩ trivial
 rintro _ aD ⟨aE, al, rfl, rfl, am, aF⟩
 have k := C8 k
 refine qr (lv (r_s rfl) (nq (i9 ?_)))
 cases oi k
 exact ey results222 ⟨al, rfl, am, (by decide : ([] : k6).length ≤ maxLen)⟩

theorem J9 {q0 : u5} {q1 : List k6} {r : k6 × u5} (hS : SH w K Z w K [q8 g1 [V3 A a b, V6 q0.p_] 145]) (l : b7 tU8 K A a b q0.b_) (m : d9 q0.p_) (f : b7 B8 K B c d q1) (hm : F8 F q0 q1 = some r) :
  Calls prog 70 #[.pointer (some ⟨g1, 0, none⟩), V3 B c d] w fun e w' => ∃ a_2 n_3 c_4 K', e = .returned (sv r.1) ∧ SH w K Z w' K' [q8 g1 [V3 a_2 n_3 c_4, V6 r.2.p_] 145] ∧ r.1.length ≤ maxLen ∧ b7 tU8 K' a_2 n_3 c_4 r.2.b_ ∧ d9 r.2.p_ := by
 rw [F8] at hm
 refine ci func70 rfl ntmps70 (sr (lv (r_s rfl) (nr (mv rfl (mv rfl (mv rfl (lv (k9 underlying23 rfl f) ?_)))))))
 obtain ⟨W, o, q⟩ := ob hm
 refine lk a2C (u7 F hS.e1 l m f.rn o) ?_
 rintro X Y ⟨s, x, y, C, rfl, i, aa, D, G⟩
 have k := (hS.c1 i).t1
 obtain ⟨H, I, J⟩ := ob q
 refine li underlying23 D9 (f.mono i.le) I fun O R ab S T => ?_
 obtain ⟨rfl, U⟩ := S
 have V : D0 _ O R [sv H] := T
 refine lv (u0 D9 rfl k (V 0 _ rfl)) (av rfl (nq (i9 ?_)))
 cases oi J
 exact ey results70 ⟨s, x, y, C, rfl, k, U, D, G⟩

theorem a9g {q0 : u5} {r : k6 × u5} (hS : SH w K Z w K [q8 g1 [V3 A a b, V6 q0.p_] 145]) (d : b7 tU8 K A a b q0.b_) (f : d9 q0.p_) (hm : a1e F q0 = some r) :
  Calls prog 266 #[.pointer (some ⟨g1, 0, none⟩)] w fun e w' => ∃ a_2 n_3 c_4 K', e = .returned (sv r.1) ∧ SH w K Z w' K' [q8 g1 [V3 a_2 n_3 c_4, V6 r.2.p_] 145] ∧ r.1.length ≤ maxLen ∧ b7 tU8 K' a_2 n_3 c_4 r.2.b_ ∧ d9 r.2.p_ := by
 rw [a1e] at hm
 refine ci func266 rfl ntmps266 (sr (lv (r_s rfl) (nr (mv rfl (bw [[99, 97, 116], [67, 97, 116, 115], [100, 111, 103], [100, 111, 103, 115], [114, 117, 110], [82, 85, 78, 78, 73, 78, 71], [116, 104, 101], [114, 101, 100], [98, 105, 103], [110, 101, 119, 32, 121, 111, 114, 107], [78, 101, 119, 32, 32, 89, 111, 114, 107], [110, 121], [102, 111, 120], [112, 97, 115, 115, 101, 100], [120, 49], [97, 118, 101, 114, 121, 118, 101, 114, 121, 108, 111, 110, 103, 119, 111, 114, 100]] underlying23 D9 hS fun I J O i k l => ?_)))))
 obtain ⟨R, m, o⟩ := ob hm
 have c := l.f1
 refine lk b1y (J9 F c.e1 (d.mono i) f k m) ?_
 rintro S T ⟨q, s, x, y, rfl, B, C, D, G⟩
 have H := (c.c1 B).t2
 refine av rfl (nq (i9 ?_))
 cases oi o
 exact ey results266 ⟨q, s, x, y, rfl, H.s, C, D, G⟩

theorem a4m {q0 : u5} {r : k6 × u5} (hS : SH w K Z w K [q8 g1 [V3 A a b, V6 q0.p_] 145]) (S : b7 tU8 K A a b q0.b_) (T : d9 q0.p_) (hm : O2 F q0 = some r) :
  Calls prog 255 #[.pointer (some ⟨g1, 0, none⟩)] w fun e w' => ∃ a_2 n_3 c_4 K', e = .returned (sv r.1) ∧ SH w K Z w' K' [q8 g1 [V3 a_2 n_3 c_4, V6 r.2.p_] 145] ∧ r.1.length ≤ maxLen ∧ b7 tU8 K' a_2 n_3 c_4 r.2.b_ ∧ d9 r.2.p_ := by
 rw [O2] at hm
 refine ci func255 rfl ntmps255 (sr (lv (r_s rfl) (nr (lv (r_s rfl) (P6 (mv rfl ?_))))))
 obtain ⟨r7, U, V⟩ := ob hm
 refine lk a2C (u7 F hS.e1 S T (by decide : d9 9) U) ?_
 rintro aO aP ⟨W, X, Y, x, rfl, aa, ab, ac, ad⟩
 have ae := (hS.c1 aa).t1
 refine av rfl (nq ?_)
 obtain ⟨d, af, ag⟩ := ob V
 refine j4 (fun E' w' => ∃ k l m f, E' = [(0, pt g1), (3, sv d.1)] ∧ SH w K Z w' f [q8 g1 [V3 k l m, V6 d.2.p_] 145] ∧ H6 x f ∧ d.1.length ≤ maxLen ∧ b7 tU8 f k l m d.2.b_ ∧ d9 d.2.p_) ?_ ?_
 ·refine i5 ?_
  obtain ⟨aQ, ah, ai⟩ := ob af
  refine qw (fun (c : k6 × Int × u5) E' w' => ∃ o q s i, E' = [(0, pt g1), (3, sv c.1), (4, V6 c.2.1)] ∧ SH w K Z w' i [q8 g1 [V3 o q s, V6 c.2.2.p_] 145] ∧ H6 x i ∧ c.1.length ≤ maxLen ∧ d9 c.2.1 ∧ b7 tU8 i o q s c.2.2.b_ ∧ d9 c.2.2.p_) ah ⟨W, X, Y, x, rfl, ae, kr, (by decide : ([] : k6).length ≤ maxLen), ab, ac, ad⟩ ?_
  rintro c _ aR aS aj ak ⟨o, q, s, i, rfl, y, C, al, aT, D, G⟩
  refine k8 (sr (mv rfl (lv (E5 rfl rfl) (nq (B5 aj rfl (fun am B => ?_) (fun am B => ?_))))))
  ·refine i6 (qs (i5 (i7 (mv rfl (mv rfl ?_)))))
   obtain ⟨aU, an, ao⟩ := ob B
   refine lk b9A (a9g F y.e1 D G an) ?_
   rintro aV aW ⟨aX, aY, aZ, ba, rfl, H, bb, ap, aq⟩
   have ar := (y.c1 H).t1
   obtain ⟨bc, au, aw⟩ := ob ao
   refine lv (a8K rfl rfl au) (mv rfl (bw [[32], [32], [44, 32], [45], [46, 32]] underlying23 D9 ar fun bd be bf I ax ay => ?_))
   obtain ⟨bg, az, aA⟩ := ob aw
   have J := ay.f1
   refine lk b1y (J9 F J.e1 (ap.mono I) aq ax az) ?_
   rintro bh bi ⟨aB, aC, aD, aE, rfl, O, bj, aF, aG⟩
   have aH := (J.c1 O).t2
   obtain ⟨bk, R, aI⟩ := ob aA
   refine lv (a8K rfl rfl R) (av rfl (nb (j6 (i7 (mv rfl (lv (F2 rfl rfl) (av rfl (d7 ?_))))))))
   cases oi aI
   exact qd ⟨_, rfl, aB, aC, aD, aE, rfl, aH.s, (((C.trans H.le).trans I).trans O.le), (b0V R), (l9 _), aF, aG⟩
  refine q7 (d4 (d4 ?_))
  cases oi B
  cases ak _ rfl
  refine j5 ?_
  cases oi ai
  exact qd ⟨o, q, s, i, rfl, y, C, al, D, G⟩
 rintro _ bl ⟨k, l, m, f, rfl, aJ, bm, aK, aL, aM⟩
 refine qr (mv rfl (av rfl (nq (i9 ?_))))
 cases oi ag
 exact ey results255 ⟨k, l, m, f, rfl, aJ, aK, aL, aM⟩

theorem b4d {q0 : u5} {r : k6 × u5} (hS : SH w K Z w K [q8 g1 [V3 A a b, V6 q0.p_] 145]) (d : b7 tU8 K A a b q0.b_) (f : d9 q0.p_) (hm : p8 F q0 = some r) :
  Calls prog 69 #[.pointer (some ⟨g1, 0, none⟩)] w fun e w' => ∃ a_2 n_3 c_4 K', e = .returned (sv r.1) ∧ SH w K Z w' K' [q8 g1 [V3 a_2 n_3 c_4, V6 r.2.p_] 145] ∧ r.1.length ≤ maxLen ∧ b7 tU8 K' a_2 n_3 c_4 r.2.b_ ∧ d9 r.2.p_ := by
 rw [p8] at hm
 refine ci func69 rfl ntmps69 (sr (lv (r_s rfl) (nr (mv rfl (bw [[98, 111, 100, 121], [98, 111, 100, 121], [116, 105, 116, 108, 101], [110, 111, 110, 101]] underlying23 D9 hS fun I J O i k l => ?_)))))
 obtain ⟨R, m, o⟩ := ob hm
 have c := l.f1
 refine lk b1y (J9 F c.e1 (d.mono i) f k m) ?_
 rintro S T ⟨q, s, x, y, rfl, B, C, D, G⟩
 have H := (c.c1 B).t2
 refine av rfl (nq (i9 ?_))
 cases oi o
 exact ey results69 ⟨q, s, x, y, rfl, H.s, C, D, G⟩

theorem a63 {q0 : s7} {r : s7} (hS : SH w K [] w K []) (G : d9 q0.Id) (H : b7 F3 K A a b q0.Fields) (I : b7 G5 K B c d q0.Nums) (hm : Y7 F q0 = some r) :
  Calls prog 115 #[.agg #[V6 q0.Id, V3 A a b, V3 B c d]] w fun e w' => ∃ a_2 n_3 c_4 a_6 n_7 c_8 K', e = .returned (.agg #[V6 r.Id, V3 a_2 n_3 c_4, V3 a_6 n_7 c_8]) ∧ SH w K [] w' K' [tail (V3 a_2 n_3 c_4) 158 2, tail (V3 a_6 n_7 c_8) 197 2] ∧ d9 r.Id ∧ b7 F3 K' a_2 n_3 c_4 r.Fields ∧ b7 G5 K' a_6 n_7 c_8 r.Nums := by
 rw [Y7] at hm
 refine ci func115 rfl ntmps115 (sr (bx rfl hS fun aC aX aE => ?_))
 have aF : SH _ _ _ _ _ [q8 aC [V6 q0.Id, V3 A a b, V3 B c d] 54] := aE
 refine al C0 aF fun aG aY aH => ?_
 have aI : SH _ _ _ _ _ [q8 aG [V6 0, V3 none 0 0, V3 none 0 0] 54, _] := aH
 refine ns ?_
 obtain ⟨aZ, J, aJ⟩ := ob hm
 obtain ⟨ba, O, R⟩ := ob aJ
 have v := aI.drew
 refine j_0 (fun w' => E7 K w' ∧ y7 aC [V6 q0.Id, V3 A a b, V3 B c d] w') 12 [] mixed ⟨v.hasK kr, v.hasObj m1⟩ (jv 0 rfl (b8 X7 rfl) (jh 1 rfl (fun _ h => y2 D8 rfl rfl h.2) (jv 3 rfl (b8 W0 rfl) (jh 4 rfl (fun _ h => y2 a3Y rfl rfl h.2) (jv 7 rfl (b8 X8 rfl) (jh 8 rfl (fun _ h => y2 a4e rfl rfl h.2) (j2 2 6 rfl rfl ?_ ?_)))))))
 ·refine b0 F3 underlying51 M9 v fun bb bc bd f aD x => (W2 ⟨x.hasK f, x.hasObj m2⟩ (j2 5 6 rfl rfl ?_ ?_))
  ·refine lp underlying51 M9 aD (H.mono f) J x fun S T U be bf m aK V => (W2 ⟨V.hasK (f.trans m), V.hasObj m2⟩ (j1 6 rfl (b0 G5 underlying52 P9 V fun bg bh bi o aL W => (W2 ⟨W.hasK ((f.trans m).trans o), W.hasObj m3⟩ (j1 9 rfl (lp underlying52 P9 aL (I.mono ((f.trans m).trans o)) O W fun X Y aa bj aM ab aN ac => (W2 ⟨ac.hasK (((f.trans m).trans o).trans ab), ac.hasObj m3⟩ (jv 10 rfl (A5 (cs := #[V6 q0.Id, V3 S T U, V3 X Y aa]) a93 C0 rfl (by kernel_rfl)) (j1 11 rfl ?_)))))))))
   refine lw [V6 q0.Id, V3 S T U, V3 X Y aa] C0 ac.f2 fun bk y => (W2 ⟨y.hasK (((f.trans m).trans o).trans ab), y.hasObj m3⟩ (jd (j6 (i9 ?_))))
   cases oi R
   exact ez results115 C0 y m0 ⟨S, T, U, X, Y, aa, aM, rfl, y.f1.f2.s, G, (aK.mono (o.trans ab)), aN⟩
  refine b0 G5 underlying52 P9 x fun bl bm bn i aO ad => (W2 ⟨ad.hasK (f.trans i), ad.hasObj m3⟩ (j1 5 rfl (lp underlying51 M9 (aD.mono i) (H.mono (f.trans i)) J ad.f1 fun ae af ag bo bp q aP ah => (W2 ⟨ah.hasK ((f.trans i).trans q), ah.hasObj m3⟩ (j1 9 rfl (lp underlying52 P9 (aO.mono q) (I.mono ((f.trans i).trans q)) O ah.f1 fun ai aj ak bq aQ am aR an => (W2 ⟨an.hasK (((f.trans i).trans q).trans am), an.hasObj m3⟩ (jv 10 rfl (A5 (cs := #[V6 q0.Id, V3 ae af ag, V3 ai aj ak]) a93 C0 rfl (by kernel_rfl)) (j1 11 rfl ?_)))))))))
  refine lw [V6 q0.Id, V3 ae af ag, V3 ai aj ak] C0 an.f2 fun br C => (W2 ⟨C.hasK (((f.trans i).trans q).trans am), C.hasObj m3⟩ (jd (j6 (i9 ?_))))
  cases oi R
  exact ez results115 C0 C m0 ⟨ae, af, ag, ai, aj, ak, aQ, rfl, C.f1.f2.s, G, (aP.mono am), aR⟩
 refine b0 G5 underlying52 P9 v fun bs bu bv k aS ao => (W2 ⟨ao.hasK k, ao.hasObj m2⟩ (j1 2 rfl (b0 F3 underlying51 M9 ao fun bz bA bB l aT ap => (W2 ⟨ap.hasK (k.trans l), ap.hasObj m3⟩ (j1 5 rfl (lp underlying51 M9 aT (H.mono (k.trans l)) J ap fun aq ar au bC bD s aU aw => (W2 ⟨aw.hasK ((k.trans l).trans s), aw.hasObj m3⟩ (j1 9 rfl (lp underlying52 P9 (aS.mono (l.trans s)) (I.mono ((k.trans l).trans s)) O aw.f1 fun ax ay az bE aV aA aW aB => ?_)))))))))
 refine W2 ⟨aB.hasK (((k.trans l).trans s).trans aA), aB.hasObj m3⟩ (jv 10 rfl (A5 (cs := #[V6 q0.Id, V3 aq ar au, V3 ax ay az]) a93 C0 rfl (by kernel_rfl)) (j1 11 rfl (lw [V6 q0.Id, V3 aq ar au, V3 ax ay az] C0 aB.f2 fun bF D => (W2 ⟨D.hasK (((k.trans l).trans s).trans aA), D.hasObj m3⟩ (jd (j6 (i9 ?_)))))))
 cases oi R
 exact ez results115 C0 D m0 ⟨aq, ar, au, ax, ay, az, aV, rfl, D.f1.f2.s, G, (aU.mono aA), aW⟩

theorem a6p {q0 : List s7} {r : (List s7)} (hS : SH w K [] w K []) (x : b7 E1 K A a b q0) (hm : U7 F q0 = some r) :
  Calls prog 65 #[V3 A a b] w fun e w' => ∃ a_1 n_2 c_3 K', e = .returned (V3 a_1 n_2 c_3) ∧ SH w K [] w' K' [tail (V3 a_1 n_2 c_3) 54 3] ∧ b7 E1 K' a_1 n_2 c_3 r := by
 rw [U7] at hm
 refine ci func65 rfl ntmps65 (sr (lv (r_n rfl) (nr (b0 E1 underlying35 C0 hS fun a5 w6 y B ag ah => (av rfl (P6 (mv rfl (lv (k9 underlying35 rfl (x.mono B)) (lv (r_m rfl) ?_)))))))))
 refine nq ?_
 obtain ⟨ai, aj, ak⟩ := ob hm
 refine j4 (fun E' w' => ∃ k l m o, E' = [(3, V3 k l m)] ∧ SH w K [] w' o [tail (V3 k l m) 54 3] ∧ H6 y o ∧ b7 E1 o k l m ai) ?_ ?_
 ·refine i5 ?_
  obtain ⟨bb, am, an⟩ := ob aj
  refine qF (fun (ad : Nat) (C : (List s7)) E' w' => ∃ c d f i, E' = [(3, V3 c d f), (7, V3 A a b), (8, V6 (q0.length : Int)), (9, V6 ((ad : Nat) : Int))] ∧ SH w K [] w' i [tail (V3 c d f) 54 3] ∧ H6 y i ∧ b7 E1 i c d f C) am ⟨a5, 0, 0, y, rfl, ah, kr, ag⟩ ?_ ?_
  ·rintro ad C _ ao bc hi36 ap ⟨c, d, f, i, rfl, q, s, D⟩
   refine sr (lv (n8 rfl rfl) (ns (A3 rfl (c7 (by omega)) (i6 (j6 (k8 (i5 (sr ?_))))))))
   obtain ⟨G, aq, ar⟩ := ob ap
   refine li underlying35 C0 (x.mono (B.trans s)) aq fun au aw bd ax ay => ?_
   obtain ⟨H, I, J, O, R, S, rfl, az, aA, aB⟩ := ax
   have aC : D0 _ au aw [V6 G.Id, V3 H I J, V3 O R S] := ay
   refine lv (D4 C0 rfl q aC rfl) (al C0 q fun aD be aE => ?_)
   have aF : SH _ _ _ _ _ [q8 aD [V6 0, V3 none 0 0, V3 none 0 0] 54, _] := aE
   refine lw [V6 G.Id, V3 H I J, V3 O R S] C0 aF fun bf T => (nq (i7 (mv rfl (lv (l3 (ds := [V6 G.Id, V3 H I J, V3 O R S]) C0 rfl m0 T rfl rfl) ?_))))
   obtain ⟨U, aG, aH⟩ := ob ar
   refine lk b8H (a63 F T.enter0 az aA aB aG) ?_
   rintro bg bh ⟨V, W, X, Y, aa, ab, bi, rfl, ac, aI, aJ, aK⟩
   have aL := (T.c0 ac).t4
   refine lb E1 (.agg #[V6 U.Id, V3 V W X, V3 Y aa ab]) [V6 U.Id, V3 V W X, V3 Y aa ab] U underlying35 C0 ⟨V, W, X, Y, aa, ab, rfl, aI, aJ, aK⟩ aL fun bj bk bl ae aM aN => ?_
   obtain ⟨bm, aO, aP⟩ := ob aH
   refine lp underlying35 C0 (D.mono (ac.le.trans ae)) aM aO aN.f4 fun aQ aR aS bn aT aU aV aW => (av rfl (nb (qg (lv (y3 rfl rfl (A0 hi36 (b7.max (x.mono B)))) (mv rfl (d7 ?_))))))
   cases oi aP
   exact qd ⟨aQ, aR, aS, aT, rfl, aW.s, (((s.trans ac.le).trans ae).trans aU), aV⟩
  rintro C _ ao aX ⟨c, d, f, i, rfl, q, s, D⟩
  subst aX
  refine sr (lv (n8 rfl rfl) (ns (A2 rfl (c6 (by omega)) (q7 (d4 (d4 (j5 ?_)))))))
  cases oi an
  exact qd ⟨c, d, f, i, rfl, q, s, D⟩
 rintro _ bo ⟨k, l, m, o, rfl, aY, bp, aZ⟩
 refine qr (mv rfl (av rfl (nq (i9 ?_))))
 cases oi ak
 exact ey results65 ⟨k, l, m, o, rfl, aY, aZ⟩

theorem a9b {q0 : q9} {q1 : List y9} {q2 : Int} {r : (Option Q0)} (hS : SH w K [] w K []) (ch : b7 B8 K A a b q0.Stops) (J : b7 I4 K B c d q0.Syns) (ac : b7 J7 K C f i q1) (cj : d9 q2) (hm : a09 F q0 q1 q2 = some r) :
  Calls prog 126 #[.agg #[V3 A a b, V3 B c d], V3 C f i, V6 q2] w fun e w' => ∃ v_1 K', e = .returned (v_1) ∧ SH w K [] w' K' [] ∧ a5s I4 K' v_1 r := by
 rw [a09] at hm
 refine ci func126 rfl ntmps126 (sr (bx rfl hS fun s ck ax => ?_))
 have ao : SH _ _ _ _ _ [q8 s [V3 A a b, V3 B c d] 26] := ax
 refine lv (r9 (v := .pointer none) rfl) (nr (lv (r9 (v := .pointer none) rfl) (P6 (fl a1x rfl a5V m0 ao rfl (lv (k9 underlying24 rfl J) (lv (r_m rfl) (nq ?_)))))))
 obtain ⟨ay, az, aA⟩ := ob hm
 refine j4 (fun E' w' => ∃ v25 O, E' = [(7, v25)] ∧ SH w K [] w' O [] ∧ H6 K O ∧ a5s I4 O v25 ay) ?_ ?_
 ·refine i5 ?_
  obtain ⟨cl, aB, aC⟩ := ob az
  refine qF (fun (R : Nat) (ad : (Option Q0)) E' w' => ∃ v36 G, E' = [(1, V3 C f i), (2, V6 q2), (3, pt s), (7, v36), (16, V6 (q0.Syns.length : Int)), (17, V6 ((R : Nat) : Int))] ∧ SH w K [] w' G [q8 s [V3 A a b, V3 B c d] 26] ∧ H6 K G ∧ a5s I4 G v36 ad) aB ⟨(.pointer none), K, rfl, ao, kr, (show a5s I4 _ _ none from rfl)⟩ ?_ ?_
  ·rintro R ad _ aD cm hi39 aE ⟨v36, G, rfl, U, x, hp37⟩
   refine sr (lv (n8 rfl rfl) (ns (A3 rfl (c7 (by omega)) (i6 (j6 (k8 (i5 (sr (mv rfl (av rfl (nr (fl a1x rfl a5V m0 U rfl ?_))))))))))))
   refine mv rfl ?_
   obtain ⟨ae, aF, aG⟩ := ob aE
   refine li underlying24 a3Z (J.mono x) aF fun H I cn aH aI => ?_
   obtain ⟨V, W, X, rfl, y, aJ⟩ := aH
   have Y : D0 _ H I [V3 V W X, sv ae.To] := aI
   refine av rfl (ns (k8 ?_))
   obtain ⟨aK, aL, aM⟩ := ob aG
   refine j4 (IV w K [] G [(1, V3 C f i), (2, V6 q2), (3, pt s), (7, v36), (9, .pointer (some ⟨H, I, none⟩)), (16, V6 (q0.Syns.length : Int)), (17, V6 ((R : Nat) : Int)), (50, .bool aK)] [q8 s [V3 A a b, V3 B c d] 26]) ?_ ?_
   ·refine C2 mixed (by kernel_rfl) U (km rfl (kv (v8 rfl) (kv (b8 a0K rfl) (kh (z8 O5 rfl (Y 0 _ rfl)) (kv (k9 underlying23 rfl y) (km rfl (kv (k9 underlying114 rfl (ac.mono x)) (km rfl (kv (F2 rfl rfl) ?_)))))))))
    refine kv (E5 rfl rfl) (km rfl (bt aL (fun o af => ?_) (fun o af => ?_)))
    ·refine kn o (kn o (kn o ?_))
     iterate 11 refine ku ?_
     refine kn o (kv (K5 rfl o rfl) (z7 ?_))
     rintro cp ⟨aN, aO, aP⟩
     cases oi af
     exact qd ⟨aN, rfl, aO, aP⟩
    refine kg o (d6 rfl) (kg o (b20 underlying170 rfl rfl hp37) (kg o (d6 rfl) (bt af (fun k ag => ?_) (fun k ag => ?_))))
    ·refine kg k (d6 rfl) (kg k (v8 rfl) (kg k (b8 a0K rfl) (kgh k (z8 O5 rfl (Y 0 _ rfl)) (kg k (k9 underlying23 rfl y) (kg k (d6 rfl) ?_)))))
     obtain ⟨aQ, aR, aS⟩ := ob ag
     obtain ⟨aT, aU, cq, rfl, aV, aW⟩ := a5s.get hp37 aR
     obtain ⟨aX, aY, aZ, rfl, ba, cr⟩ := aV
     have bb : D0 _ aT aU [V3 aX aY aZ, sv aQ.To] := aW
     refine kg k (v8 rfl) (kg k (b8 a0K rfl) (kgh k (z8 O5 rfl (bb 0 _ rfl)) (kg k (k9 underlying23 rfl ba) (kg k (R9 rfl rfl) (kg o (j3 rfl k rfl) (kv (j9 rfl o rfl) (z7 ?_)))))))
     rintro cs ⟨bc, bd, be⟩
     cases oi aS
     exact qd ⟨bc, rfl, bd, be⟩
    iterate 11 refine kn k ?_
    refine kg o (F7 rfl k rfl) (kv (j9 rfl o rfl) (z7 ?_))
    rintro ct ⟨bf, bg, bh⟩
    cases oi ag
    exact qd ⟨bf, rfl, bg, bh⟩
   rintro _ cu ⟨aa, rfl, ah, l⟩
   refine j6 (B5 aM rfl (fun bi ai => ?_) (fun bi ai => ?_))
   ·refine q7 (d4 (j5 (qg (lv (y3 rfl rfl (A0 hi39 (b7.max J))) (mv rfl (d7 ?_))))))
    cases oi ai
    exact qd ⟨v36, aa, rfl, ah, (x.trans l), (a5s.mono l hp37)⟩
   refine i6 (qr (lv (r_t rfl) (P6 (mv rfl (lv (v8 rfl) (fa a0K rfl (lv (u0 O5 rfl ah ((D0.mono l Y) 0 _ rfl)) (lv (k9 underlying23 rfl (y.mono l)) (lv (r_m rfl) ?_)))))))))
   refine nq ?_
   obtain ⟨bj, bk, bl⟩ := ob ai
   refine j4 (IV w K [] aa [(1, V3 C f i), (2, V6 q2), (3, pt s), (7, v36), (9, .pointer (some ⟨H, I, none⟩)), (10, .bool bj), (16, V6 (q0.Syns.length : Int)), (17, V6 ((R : Nat) : Int))] [q8 s [V3 A a b, V3 B c d] 26]) ?_ ?_
   ·refine i5 ?_
    obtain ⟨cv, bm, bn⟩ := ob bk
    refine qF (fun (ap : Nat) (aj : Bool) => IV w K [] aa [(1, V3 C f i), (2, V6 q2), (3, pt s), (7, v36), (9, .pointer (some ⟨H, I, none⟩)), (10, .bool aj), (16, V6 (q0.Syns.length : Int)), (17, V6 ((R : Nat) : Int)), (54, V3 V W X), (55, V6 (ae.From.length : Int)), (56, V6 ((ap : Nat) : Int))] [q8 s [V3 A a b, V3 B c d] 26]) bm ⟨aa, rfl, ah, kr⟩ ?_ ?_
    ·rintro ap aj _ bo cw hi112 bp ⟨aq, rfl, S, D⟩
     refine sr (lv (n8 rfl rfl) (ns (A3 rfl (c7 (by omega)) (i6 (j6 (k8 (i5 (sr (mv rfl ?_)))))))))
     obtain ⟨bq, br, bs⟩ := ob bp
     refine li underlying23 D9 (y.mono (l.trans D)) br fun bu bv cx bz bA => ?_
     obtain ⟨rfl, cy⟩ := bz
     have bB : D0 _ bu bv [sv bq] := bA
     refine lv (u0 D9 rfl S (bB 0 _ rfl)) (av rfl (av rfl (nr (mv rfl (mv rfl (mv rfl (lv (s6 rfl rfl) ?_)))))))
     obtain ⟨ab, bC, bD⟩ := ob bs
     refine li underlying114 F9 (ac.mono ((x.trans l).trans D)) bC fun bE bF cz bG bH => ?_
     obtain ⟨rfl, cA, cB⟩ := bG
     have bI : D0 _ bE bF [sv ab.Text, V6 ab.At] := bH
     refine lv (D4 F9 rfl S bI rfl) (al F9 S fun bJ cC bK => ?_)
     have bL : SH _ _ _ _ _ [q8 bJ [sv [], V6 0] 117, _] := bK
     refine lw [sv ab.Text, V6 ab.At] F9 bL fun cD bM => (nq (C2 mixed (by kernel_rfl) bM (km rfl (km rfl (bt bD (fun q ak => ?_) (fun q ak => ?_))))))
     ·refine kg q (b8 a1q rfl) (kgh q (u2 D9 rfl m0 rfl) (kg q (d6 rfl) (kg q (H0 rfl rfl) (kv (j3 rfl q rfl) (km rfl (bt ak (fun m am => ?_) (fun m am => ?_)))))))
      ·refine kg m (b8 a1r rfl) (kgh m (u2 D8 rfl m0 rfl) (kg m (d6 rfl) (kg m (d6 rfl) ?_)))
       obtain ⟨ar, bN, bO⟩ := ob am
       refine B4 (t := J7) (wg rfl rfl m) rfl underlying114 F9 rfl rfl (ac.mono ((x.trans l).trans D)) bN fun bP bQ cE bR bS => ?_
       obtain ⟨rfl, cF, cG⟩ := bR
       have bT : D0 _ bP bQ [sv ar.Text, V6 ar.At] := bS
       refine kg m (b8 a1r rfl) (kgh m (z8 D8 rfl (bT 1 _ rfl)) (kg m (d6 rfl) (kg m (s6 rfl rfl) (kg m (u3 rfl rfl) (kv (j3 rfl m rfl) (kv (r9 rfl) (z7 ?_)))))))
       rintro cH ⟨bU, bV, bW⟩
       refine o0 (qg (lv (y3 rfl rfl (A0 hi112 (b7.max (y.mono l)))) (mv rfl (d7 ?_))))
       cases oi bO
       exact qd ⟨bU, rfl, bV.s, (D.trans bW)⟩
      iterate 10 refine kn m ?_
      refine kv (F7 rfl m rfl) (kv (r9 rfl) (z7 ?_))
      rintro cI ⟨bX, bY, bZ⟩
      refine o0 (qg (lv (y3 rfl rfl (A0 hi112 (b7.max (y.mono l)))) (mv rfl (d7 ?_))))
      cases oi am
      exact qd ⟨bX, rfl, bY.s, (D.trans bZ)⟩
     refine kn q (kn q (kn q (kn q (kv (F7 rfl q rfl) (km rfl ?_)))))
     iterate 10 refine qv rfl rfl rfl rfl ?_
     refine kv (F7 rfl rfl rfl) (kv (r9 rfl) (z7 ?_))
     rintro cJ ⟨ca, cb, cc⟩
     refine o0 (qg (lv (y3 rfl rfl (A0 hi112 (b7.max (y.mono l)))) (mv rfl (d7 ?_))))
     cases oi ak
     exact qd ⟨ca, rfl, cb.s, (D.trans cc)⟩
    rintro aj _ bo cd ⟨aq, rfl, S, D⟩
    subst cd
    refine sr (lv (n8 rfl rfl) (ns (A2 rfl (c6 (by omega)) (q7 (d4 (d4 (j5 ?_)))))))
    cases oi bn
    exact qd ⟨aq, rfl, S, D⟩
   rintro _ cK ⟨au, rfl, aw, T⟩
   refine qr (mv rfl (nq (B5 bl rfl (fun ce an => ?_) (fun ce an => ?_))))
   ·refine i7 (mv rfl (av rfl (nb (qg (lv (y3 rfl rfl (A0 hi39 (b7.max J))) (mv rfl (d7 ?_)))))))
    cases oi an
    exact qd ⟨(.pointer (some ⟨H, I, none⟩)), au, rfl, aw, ((x.trans l).trans T), ⟨H, I, .agg #[V3 V W X, sv ae.To], rfl, ⟨V, W, X, rfl, (y.mono (l.trans T)), aJ⟩, (D0.mono (l.trans T) Y)⟩⟩
   refine i6 (o0 (qg (lv (y3 rfl rfl (A0 hi39 (b7.max J))) (mv rfl (d7 ?_)))))
   cases oi an
   exact qd ⟨v36, au, rfl, aw, ((x.trans l).trans T), (a5s.mono (l.trans T) hp37)⟩
  rintro ad _ aD cf ⟨v36, G, rfl, U, x, hp37⟩
  subst cf
  refine sr (lv (n8 rfl rfl) (ns (A2 rfl (c6 (by omega)) (q7 (d4 (d4 (j5 ?_)))))))
  cases oi aC
  exact qd ⟨v36, G, rfl, U.s, x, hp37⟩
 rintro _ cL ⟨v25, O, rfl, cg, cM, hp26⟩
 refine qr (mv rfl (av rfl (nq (i9 ?_))))
 cases oi aA
 exact ey results126 ⟨v25, O, rfl, cg, hp26⟩

theorem c0p {q0 : z2} {q1 : k6} {q2 : k6} {r : (List D5)} (hS : SH w K Z w K [q8 g1 [V3 A a b, V3 B c d] 46]) (aw : b7 E1 K A a b q0.Docs) (C : b7 z6 K B c d q0.Entries) (ax : q1.length ≤ maxLen) (ay : q2.length ≤ maxLen) (hm : a12 F q0 q1 q2 = some r) :
  Calls prog 75 #[.pointer (some ⟨g1, 0, none⟩), sv q1, sv q2] w fun e w' => ∃ a_1 n_2 c_3 K', e = .returned (V3 a_1 n_2 c_3) ∧ SH w K Z w' K' [q8 g1 [V3 A a b, V3 B c d] 46] ∧ b7 S1 K' a_1 n_2 c_3 r := by
 rw [a12] at hm
 refine ci func75 rfl ntmps75 (sr (lv (r_n rfl) (P6 (mv rfl (lv (v8 rfl) (fl G3 rfl tf44 m0 hS rfl (lv (k9 underlying44 rfl C) (lv (r_m rfl) (nq ?_)))))))))
 obtain ⟨U, V, l⟩ := ob hm
 refine j4 (IE U w K Z K [(0, pt g1)] [q8 g1 [V3 A a b, V3 B c d] 46]) ?_ ?_
 ·refine i5 ?_
  obtain ⟨az, W, O⟩ := ob V
  refine qf (fun (D : Nat) (R : Unit) => IV w K Z K [(0, pt g1), (1, sv q1), (2, sv q2), (12, V3 B c d), (13, V6 (q0.Entries.length : Int)), (14, V6 ((D : Nat) : Int))] [q8 g1 [V3 A a b, V3 B c d] 46]) W ⟨K, rfl, hS, kr⟩ ?_ ?_
  ·rintro D R _ X aA hi30 Y aa ⟨k, rfl, m, o⟩
   refine sr (lv (n8 rfl rfl) (ns (A3 rfl (c7 (by omega)) (i6 (j6 (k8 (i5 (sr ?_))))))))
   obtain ⟨i, ab, ac⟩ := ob Y
   refine li underlying44 E3 (C.mono o) ab fun ad ae aB af ag => ?_
   obtain ⟨q, s, x, rfl, aC, aD, ah⟩ := af
   have ai : D0 _ ad ae [sv i.Field, sv i.Term, V3 q s x] := ag
   refine lv (D4 E3 rfl m ai rfl) (al E3 m fun G aE aj => ?_)
   have ak : SH _ _ _ _ _ [q8 G [sv [], sv [], V3 none 0 0] 112, _] := aj
   refine lw [sv i.Field, sv i.Term, V3 q s x] E3 ak fun aF y => (ns ?_)
   obtain ⟨am, an, ao⟩ := ob ac
   refine j4 (IV w K Z k [(0, pt g1), (1, sv q1), (2, sv q2), (8, pt G), (12, V3 B c d), (13, V6 (q0.Entries.length : Int)), (14, V6 ((D : Nat) : Int)), (27, .bool am)] [q8 g1 [V3 A a b, V3 B c d] 46, q8 G [sv i.Field, sv i.Term, V3 q s x] 112]) ?_ ?_
   ·refine i7 (fl a0l rfl D9 m0 y rfl (mv rfl (lv (H0 rfl rfl) (mv rfl (bt an (fun f H => ?_) (fun f H => ?_))))))
    ·refine lg f (b8 X5 rfl) (lg f (l8 D9 rfl m0 y rfl) (lg f (d6 rfl) (lg f (H0 rfl rfl) (lv (j3 rfl f rfl) (d7 ?_)))))
     cases oi H
     exact qd ⟨k, rfl, y.f1, kr⟩
    refine lu f (lu f (lu f (lu f (lv (F7 rfl f rfl) (d7 ?_)))))
    cases oi H
    exact qd ⟨k, rfl, y.f1, kr⟩
   rintro _ aG ⟨S, rfl, I, T⟩
   refine j6 (B5 ao rfl (fun ap J => ?_) (fun ap J => ?_))
   ·refine sr (fl L1 rfl a2Q m1 I rfl (av rfl (nq (i9 (d8 (c9 (c9 ?_)))))))
    cases oi J
    cases aa _ rfl
    refine d8 (c9 ?_)
    cases oi O
    refine c9 ?_
    cases oi l
    exact ey results75 ⟨q, s, x, S, rfl, I.s, (ah.mono T)⟩
   refine i6 (o0 (qg (lv (y3 rfl rfl (A0 hi30 (b7.max C))) (mv rfl (d7 ?_)))))
   cases oi J
   exact qd ⟨_, rfl, S, rfl, I.s, (o.trans T)⟩
  rintro R _ X aq ⟨k, rfl, m, o⟩
  subst aq
  refine sr (lv (n8 rfl rfl) (ns (A2 rfl (c6 (by omega)) (q7 (d4 (d4 (j5 ?_)))))))
  cases oi O
  exact qd ⟨_, k, rfl, rfl, m, o⟩
 rintro _ aH ⟨aI, ar, rfl, rfl, au, aJ⟩
 have l := C8 l
 refine qr (lv (r_n rfl) (nq (i9 ?_)))
 cases oi l
 exact ey results75 ⟨none, 0, 0, ar, rfl, au, (b7.nil _ _)⟩

theorem c0J {q0 : List Int} {q1 : Int} {r : Bool} (hS : SH w K [] w K []) (o : b7 B7 K A a b q0) (X : d9 q1) (hm : a2B F q0 q1 = some r) :
  Calls prog 30 #[V3 A a b, V6 q1] w (R_b w K r) := by
 rw [a2B] at hm
 refine ci func30 rfl ntmps30 (sr (lv (M7 rfl) (P6 (lv (L3 rfl) (nq ?_)))))
 obtain ⟨x, y, c⟩ := ob hm
 refine j4 (IE x w K [] K [] []) ?_ ?_
 ·refine i5 ?_
  obtain ⟨Y, B, q⟩ := ob y
  refine qw (fun (i : Int) => IW w K [] K [(0, V3 A a b), (1, V6 q1), (5, V6 i)] [] (d9 i)) B ⟨K, rfl, hS, kr, I0⟩ ?_
  rintro i _ aa ab C s ⟨k, rfl, d, f, ac⟩
  refine k8 (sr (mv rfl (mv rfl (lv (k9 underlying55 rfl (o.mono f)) (lv (n8 rfl rfl) (nq (B5 C rfl (fun D l => ?_) (fun D l => ?_))))))))
  ·refine i6 (qs (i5 (sr (mv rfl (mv rfl ?_)))))
   obtain ⟨G, H, I⟩ := ob l
   refine li underlying55 D8 (o.mono f) H fun J O ad R S => ?_
   obtain ⟨rfl, ae⟩ := R
   have T : D0 _ J O [V6 G] := S
   refine lv (u0 D8 rfl d (T 0 _ rfl)) (mv rfl (lv (u3 rfl rfl) (nq (B5 I rfl (fun U m => ?_) (fun U m => ?_)))))
   ·refine sr (lv (r_t rfl) (nq (i9 (d8 (c9 (c9 ?_))))))
    cases oi m
    cases s _ rfl
    refine d8 (c9 ?_)
    cases oi q
    refine c9 ?_
    cases oi c
    exact ey results30 ⟨k, rfl, d⟩
   refine i6 (o0 (j6 (i7 (mv rfl (lv (s6 rfl rfl) (av rfl (d7 ?_)))))))
   cases oi m
   exact qd ⟨_, rfl, k, rfl, d, f, (l9 _)⟩
  refine q7 (d4 (d4 ?_))
  cases oi l
  cases s _ rfl
  refine j5 ?_
  cases oi q
  exact H9 ⟨_, k, rfl, rfl, d, f⟩ trivial
 rintro _ af ⟨s9, V, rfl, rfl, W, ah⟩
 have c := C8 c
 refine qr (lv (M7 rfl) (nq (i9 ?_)))
 cases oi c
 exact ey results30 ⟨V, rfl, W⟩

theorem I3 {q0 : N3} {q1 : k6} {q2 : k6} {r : (List D5)} (hS : SH w K Z w K [q8 g1 [V3 A a b, V3 B c d, V3 C f i, V3 D k l] 123]) (aC : b7 B8 K A a b q0.c_.Stops) (aD : b7 I4 K B c d q0.c_.Syns) (aE : b7 E1 K C f i q0.s_.Docs) (O : b7 z6 K D k l q0.s_.Entries) (aF : q1.length ≤ maxLen) (aG : q2.length ≤ maxLen) (hm : G6 F q0 q1 q2 = some r) :
  Calls prog 75 #[.pointer (some ⟨g1, 2, none⟩), sv q1, sv q2] w fun e w' => ∃ a_1 n_2 c_3 K', e = .returned (V3 a_1 n_2 c_3) ∧ SH w K Z w' K' [q8 g1 [V3 A a b, V3 B c d, V3 C f i, V3 D k l] 123] ∧ b7 S1 K' a_1 n_2 c_3 r := by
 rw [G6] at hm
 refine ci func75 rfl ntmps75 (sr (lv (r_n rfl) (P6 (mv rfl (lv (v8 rfl) (fl G3 rfl tf44 m0 hS rfl (lv (k9 underlying44 rfl O) (lv (r_m rfl) (nq ?_)))))))))
 obtain ⟨ab, ac, s⟩ := ob hm
 refine j4 (IE ab w K Z K [(0, .pointer (some ⟨g1, 2, none⟩))] [q8 g1 [V3 A a b, V3 B c d, V3 C f i, V3 D k l] 123]) ?_ ?_
 ·refine i5 ?_
  obtain ⟨aH, ad, W⟩ := ob ac
  refine qf (fun (R : Nat) (X : Unit) => IV w K Z K [(0, .pointer (some ⟨g1, 2, none⟩)), (1, sv q1), (2, sv q2), (12, V3 D k l), (13, V6 (q0.s_.Entries.length : Int)), (14, V6 ((R : Nat) : Int))] [q8 g1 [V3 A a b, V3 B c d, V3 C f i, V3 D k l] 123]) ad ⟨K, rfl, hS, kr⟩ ?_ ?_
  ·rintro R X _ ae aI hi38 af ag ⟨q, rfl, x, y⟩
   refine sr (lv (n8 rfl rfl) (ns (A3 rfl (c7 (by omega)) (i6 (j6 (k8 (i5 (sr ?_))))))))
   obtain ⟨o, ah, ai⟩ := ob af
   refine li underlying44 E3 (O.mono y) ah fun aj ak aJ am an => ?_
   obtain ⟨G, H, I, rfl, aK, aL, ao⟩ := am
   have ap : D0 _ aj ak [sv o.Field, sv o.Term, V3 G H I] := an
   refine lv (D4 E3 rfl x ap rfl) (al E3 x fun S aM aq => ?_)
   have ar : SH _ _ _ _ _ [q8 S [sv [], sv [], V3 none 0 0] 112, _] := aq
   refine lw [sv o.Field, sv o.Term, V3 G H I] E3 ar fun aN J => (ns ?_)
   obtain ⟨au, aw, ax⟩ := ob ai
   refine j4 (IV w K Z q [(0, .pointer (some ⟨g1, 2, none⟩)), (1, sv q1), (2, sv q2), (8, pt S), (12, V3 D k l), (13, V6 (q0.s_.Entries.length : Int)), (14, V6 ((R : Nat) : Int)), (27, .bool au)] [q8 g1 [V3 A a b, V3 B c d, V3 C f i, V3 D k l] 123, q8 S [sv o.Field, sv o.Term, V3 G H I] 112]) ?_ ?_
   ·refine i7 (fl a0l rfl D9 m0 J rfl (mv rfl (lv (H0 rfl rfl) (mv rfl (bt aw (fun m T => ?_) (fun m T => ?_))))))
    ·refine lg m (b8 X5 rfl) (lg m (l8 D9 rfl m0 J rfl) (lg m (d6 rfl) (lg m (H0 rfl rfl) (lv (j3 rfl m rfl) (d7 ?_)))))
     cases oi T
     exact qd ⟨q, rfl, J.f1, kr⟩
    refine lu m (lu m (lu m (lu m (lv (F7 rfl m rfl) (d7 ?_)))))
    cases oi T
    exact qd ⟨q, rfl, J.f1, kr⟩
   rintro _ aO ⟨Y, rfl, U, aa⟩
   refine j6 (B5 ax rfl (fun ay V => ?_) (fun ay V => ?_))
   ·refine sr (fl L1 rfl a2Q m1 U rfl (av rfl (nq (i9 (d8 (c9 (c9 ?_)))))))
    cases oi V
    cases ag _ rfl
    refine d8 (c9 ?_)
    cases oi W
    refine c9 ?_
    cases oi s
    exact ey results75 ⟨G, H, I, Y, rfl, U.s, (ao.mono aa)⟩
   refine i6 (o0 (qg (lv (y3 rfl rfl (A0 hi38 (b7.max O))) (mv rfl (d7 ?_)))))
   cases oi V
   exact qd ⟨_, rfl, Y, rfl, U.s, (y.trans aa)⟩
  rintro X _ ae az ⟨q, rfl, x, y⟩
  subst az
  refine sr (lv (n8 rfl rfl) (ns (A2 rfl (c6 (by omega)) (q7 (d4 (d4 (j5 ?_)))))))
  cases oi W
  exact qd ⟨_, q, rfl, rfl, x, y⟩
 rintro _ aP ⟨aQ, aA, rfl, rfl, aB, aR⟩
 have s := C8 s
 refine qr (lv (r_n rfl) (nq (i9 ?_)))
 cases oi s
 exact ey results75 ⟨none, 0, 0, aA, rfl, aB, (b7.nil _ _)⟩

theorem a0g {q0 : N3} {q1 : k6} {q2 : k6} {q3 : Int} {r : (List Int)} (hS : SH w K Z w K [q8 g1 [V3 A a b, V3 B c d, V3 C f i, V3 D k l] 123]) (V : b7 B8 K A a b q0.c_.Stops) (W : b7 I4 K B c d q0.c_.Syns) (X : b7 E1 K C f i q0.s_.Docs) (Y : b7 z6 K D k l q0.s_.Entries) (aa : q1.length ≤ maxLen) (ab : q2.length ≤ maxLen) (aJ : d9 q3) (hm : H3 F q0 q1 q2 q3 = some r) :
  Calls prog 134 #[.pointer (some ⟨g1, 0, none⟩), sv q1, sv q2, V6 q3] w fun e w' => ∃ a_1 n_2 c_3 K', e = .returned (V3 a_1 n_2 c_3) ∧ SH w K Z w' K' [q8 g1 [V3 A a b, V3 B c d, V3 C f i, V3 D k l] 123] ∧ b7 B7 K' a_1 n_2 c_3 r := by
 rw [H3] at hm
 refine ci func134 rfl ntmps134 (sr (lv (r_n rfl) (P6 (mv rfl (lv (v8 rfl) (fa a3j rfl (mv rfl (mv rfl ?_))))))))
 obtain ⟨ac, ad, ae⟩ := ob hm
 refine lk b6w (I3 F hS.e1 V W X Y aa ab ad) ?_
 rintro aK aL ⟨af, ag, ah, y, rfl, ai, G⟩
 have aj := (hS.c1 ai).t1
 refine lv (k9 underlying57 rfl G) (lv (r_m rfl) (nq ?_))
 obtain ⟨ak, am, m⟩ := ob ae
 refine j4 (IE ak w K Z y [(0, pt g1)] [q8 g1 [V3 A a b, V3 B c d, V3 C f i, V3 D k l] 123]) ?_ ?_
 ·refine i5 ?_
  obtain ⟨aM, an, R⟩ := ob am
  refine qf (fun (S : Nat) (T : Unit) => IV w K Z y [(0, pt g1), (3, V6 q3), (16, V3 af ag ah), (17, V6 (ac.length : Int)), (18, V6 ((S : Nat) : Int))] [q8 g1 [V3 A a b, V3 B c d, V3 C f i, V3 D k l] 123]) an ⟨y, rfl, aj, kr⟩ ?_ ?_
  ·rintro S T _ ao aN hi51 ap aq ⟨o, rfl, q, s⟩
   refine sr (lv (n8 rfl rfl) (ns (A3 rfl (c7 (by omega)) (i6 (j6 (k8 (i5 (sr ?_))))))))
   obtain ⟨U, ar, au⟩ := ob ap
   refine li underlying57 a1m (G.mono s) ar fun aw ax aO ay az => ?_
   obtain ⟨H, I, J, rfl, aP, aA⟩ := ay
   have aB : D0 _ aw ax [V6 U.Doc, V3 H I J] := az
   refine lv (D4 a1m rfl q aB rfl) (al a1m q fun aC aQ aD => ?_)
   have aE : SH _ _ _ _ _ [q8 aC [V6 0, V3 none 0 0] 71, _] := aD
   refine lw [V6 U.Doc, V3 H I J] a1m aE fun aR x => (nr (fl a4E rfl D8 m0 x rfl (mv rfl (lv (u3 rfl rfl) (nq (B5 au rfl (fun aF O => ?_) (fun aF O => ?_)))))))
   ·refine sr (fl a3t rfl Y3 m0 x rfl (av rfl (nq (i9 (d8 (c9 (c9 ?_)))))))
    cases oi O
    cases aq _ rfl
    refine d8 (c9 ?_)
    cases oi R
    refine c9 ?_
    cases oi m
    exact ey results134 ⟨H, I, J, o, rfl, x.s, aA⟩
   refine i6 (o0 (qg (lv (y3 rfl rfl (A0 hi51 (b7.max G))) (mv rfl (d7 ?_)))))
   cases oi O
   exact qd ⟨_, rfl, o, rfl, x.s, s⟩
  rintro T _ ao aG ⟨o, rfl, q, s⟩
  subst aG
  refine sr (lv (n8 rfl rfl) (ns (A2 rfl (c6 (by omega)) (q7 (d4 (d4 (j5 ?_)))))))
  cases oi R
  exact qd ⟨_, o, rfl, rfl, q, s⟩
 rintro _ aS ⟨aT, aH, rfl, rfl, aI, aU⟩
 have m := C8 m
 refine qr (lv (r_n rfl) (nq (i9 ?_)))
 cases oi m
 exact ey results134 ⟨none, 0, 0, aH, rfl, aI, (b7.nil _ _)⟩

theorem a3R {q0 : Int} {r : Bool} (hS : SH w K [] w K []) (a : d9 q0) (hm : Y4 F q0 = some r) :
  Calls prog 164 #[V6 q0] w (R_b w K r) := by
 rw [Y4] at hm
 refine ci func164 rfl ntmps164 (sr (lv (M7 rfl) (nr (mv rfl (mv rfl (lv (W3 rfl rfl) (av rfl (nq (i9 ?_)))))))))
 cases oi hm
 exact ey results164 ⟨K, rfl, hS⟩

theorem a7Y {q0 : Int} {q1 : Int} {r : Bool} (hS : SH w K [] w K []) (l : d9 q0) (m : d9 q1) (hm : U3 F q0 q1 = some r) :
  Calls prog 269 #[V6 q0, V6 q1] w (R_b w K r) := by
 rw [U3] at hm
 refine ci func269 rfl ntmps269 (sr (lv (M7 rfl) (nr (mv rfl ?_))))
 obtain ⟨C, o, q⟩ := ob hm
 refine lk b7u (a3R F hS.enter0 l o) ?_
 rintro D G ⟨s, rfl, x⟩
 have c := (hS.c0 x).t0
 refine mv rfl (bt q (fun a d => ?_) (fun a d => ?_))
 ·refine lg a (d6 rfl) ?_
  obtain ⟨H, y, A⟩ := ob d
  refine x9 (wg rfl rfl a) rfl (x8 (vs := [V6 q1]) b7u rfl) (a3R F c.enter0 m y) ?_
  rintro I J ⟨i, rfl, B⟩
  refine ⟨_, rfl, ?_⟩
  have k := (c.c0 B).t0
  refine lg a (y4 rfl) (lv (j3 rfl a rfl) (mv rfl (bt A (fun b f => ?_) (fun b f => ?_))))
  ·refine lu b (lu b (lu b (lv (K5 rfl b rfl) (av rfl (nq (i9 ?_))))))
   cases oi f
   exact ey results269 ⟨i, rfl, k⟩
  refine lg b (d6 rfl) (lg b (d6 rfl) (lg b (n8 rfl rfl) (lv (j9 rfl b rfl) (av rfl (nq (i9 ?_))))))
  cases oi f
  exact ey results269 ⟨i, rfl, k⟩
 refine lu a (lu a (lu a (lv (F7 rfl a rfl) (mv rfl (lg rfl (d6 rfl) (lg rfl (d6 rfl) (lg rfl (n8 rfl rfl) (lv (j9 rfl rfl rfl) (av rfl ?_)))))))))
 refine nq (i9 ?_)
 cases oi d
 exact ey results269 ⟨s, rfl, c⟩

theorem a2H {q0 : Int} {r : Bool} (hS : SH w K [] w K []) (a : d9 q0) (hm : R4 F q0 = some r) :
  Calls prog 270 #[V6 q0] w (R_b w K r) := by
 rw [R4] at hm
 refine ci func270 rfl ntmps270 (sr (lv (M7 rfl) (nr (mv rfl (mv rfl (lv (W3 rfl rfl) (av rfl (nq (i9 ?_)))))))))
 cases oi hm
 exact ey results270 ⟨K, rfl, hS⟩

theorem a28 {q0 : List Int} {q1 : Int} {r : Int × Bool} (hS : SH w K [] w K []) (k : b7 B7 K A a b q0) (J : d9 q1) (hm : I1 F q0 q1 = some r) :
  Calls prog 259 #[V3 A a b, V6 q1] w fun e w' => ∃ K', e = .returned (.tuple #[V6 r.1, .bool r.2]) ∧ SH w K [] w' K' [] ∧ d9 r.1 := by
 rw [I1] at hm
 refine ci func259 rfl ntmps259 (sr (lv (L3 rfl) (lv (M7 rfl) (nr (mv rfl (lv (k9 underlying55 rfl k) (av rfl (nr (mv rfl ?_)))))))))
 refine lv (L3 rfl) (av rfl (ns ?_))
 obtain ⟨O, X, Y⟩ := ob hm
 refine j4 (IW w K [] K [(0, V3 A a b), (1, V6 q1), (6, V6 (q0.length : Int)), (7, V6 O)] [] (d9 O)) ?_ ?_
 ·refine i5 ?_
  obtain ⟨aX, aa, ab⟩ := ob X
  refine qw (fun (l : Int × Int) => IW w K [] K [(0, V3 A a b), (1, V6 q1), (6, V6 (q0.length : Int)), (7, V6 l.1), (8, V6 l.2)] [] (d9 l.1 ∧ d9 l.2)) aa ⟨K, rfl, hS, kr, I0, k.rn⟩ ?_
  rintro l _ aY aZ ac ad ⟨ae, rfl, m, o, R, af⟩
  refine k8 (sr (mv rfl (mv rfl (lv (n8 rfl rfl) (nq (B5 ac rfl (fun ag s => ?_) (fun ag s => ?_)))))))
  ·refine i6 (j6 (i5 (sr (mv rfl (mv rfl (lv (s6 rfl rfl) ?_))))))
   obtain ⟨ba, x, ah⟩ := ob s
   refine lv (b8u underlying3 underlying200 rfl (l9 _) x) ?_
   obtain ⟨bb, y, ai⟩ := ob ah
   refine lv (b65 rfl rfl y) (lv (b8w underlying200 underlying3 rfl (b3M (b0Y (l9 _) x).2.2 y)) (av rfl (nr (mv rfl (mv rfl ?_)))))
   obtain ⟨aj, ak, al⟩ := ob ai
   refine li underlying55 D8 (k.mono o) ak fun am an bc ao ap => ?_
   obtain ⟨rfl, aq⟩ := ao
   have ar : D0 _ am an [V6 aj] := ap
   refine lv (u0 D8 rfl m (ar 0 _ rfl)) (mv rfl ?_)
   obtain ⟨bd, au, aw⟩ := ob al
   refine lk b9B (a7Y F m.enter0 aq J au) ?_
   rintro be bf ⟨S, rfl, B⟩
   have T := (m.c0 B).t0
   refine nq (B5 aw rfl (fun ax C => ?_) (fun ax C => ?_))
   ·refine i7 (mv rfl (lv (s6 rfl rfl) (av rfl (nb ?_))))
    cases oi C
    exact qd ⟨_, rfl, S, rfl, T, (o.trans B.le), (l9 _), af⟩
   refine i7 (mv rfl (av rfl (nb ?_)))
   cases oi C
   exact qd ⟨_, rfl, S, rfl, T, (o.trans B.le), R, (b3M (b0Y (l9 _) x).2.2 y)⟩
  refine q7 (d4 (d4 ?_))
  cases oi s
  cases ad _ rfl
  refine j5 ?_
  cases oi ab
  exact qd ⟨ae, rfl, m, o, R⟩
 rintro _ bg ⟨U, rfl, i, V, q⟩
 refine qr (mv rfl (mv rfl (mv rfl (lv (n8 rfl rfl) (mv rfl (bt Y (fun c D => ?_) (fun c D => ?_)))))))
 ·refine lg c (d6 rfl) (lg c (d6 rfl) ?_)
  obtain ⟨ay, az, aA⟩ := ob D
  refine H1 (t := B7) (wg rfl rfl c) rfl underlying55 D8 rfl rfl (k.mono V) az fun aB aC bh aD aE => ?_
  obtain ⟨rfl, bi⟩ := aD
  have aF : D0 _ aB aC [V6 ay] := aE
  refine lg c (u0 D8 rfl i (aF 0 _ rfl)) (lg c (d6 rfl) (lg c (u3 rfl rfl) (lg c (d6 rfl) (bt aA (fun d G => ?_) (fun d G => ?_)))))
  ·iterate 6 refine lu d ?_
   refine u1 (uu rfl rfl) rfl (u1 (uu rfl rfl) rfl (lu d (lg c (K5 rfl d rfl) (lv (j3 rfl c rfl) (av rfl (av rfl (nq (i9 ?_))))))))
   cases oi G
   exact R8 (vs := [_, _]) results259 ⟨rfl, rfl, trivial⟩ ⟨U, rfl, i, q⟩
  refine lg d (d6 rfl) (lg d (d6 rfl) ?_)
  obtain ⟨W, aG, aH⟩ := ob G
  refine H1 (t := B7) (wg rfl rfl d) rfl underlying55 D8 rfl rfl (k.mono V) aG fun aI aJ bj aK aL => ?_
  obtain ⟨rfl, aM⟩ := aK
  have aN : D0 _ aI aJ [V6 W] := aL
  refine lg d (u0 D8 rfl i (aN 0 _ rfl)) ?_
  obtain ⟨bk, aO, aP⟩ := ob aH
  refine x9 (wg rfl rfl d) rfl (x8 (vs := [V6 W]) b7F rfl) (a2H F i.enter0 aM aO) ?_
  rintro bl bm ⟨aQ, rfl, aR⟩
  refine ⟨_, rfl, ?_⟩
  have H := (i.c0 aR).t0
  refine lg d (d6 rfl) (bt aP (fun f I => ?_) (fun f I => ?_))
  ·refine lg f (d6 rfl) ?_
   obtain ⟨bn, aS, aT⟩ := ob I
   refine x9 (wg rfl rfl f) rfl (x8 (vs := [V6 q1]) b7F rfl) (a2H F H.enter0 J aS) ?_
   rintro bo bp ⟨aU, rfl, aV⟩
   refine ⟨_, rfl, ?_⟩
   have aW := (H.c0 aV).t0
   refine lg d (j3 rfl f rfl) (lg c (j9 rfl d rfl) (lv (j3 rfl c rfl) (av rfl (av rfl (nq (i9 ?_))))))
   cases oi aT
   exact R8 (vs := [_, _]) results259 ⟨rfl, rfl, trivial⟩ ⟨aU, rfl, aW, q⟩
  refine lu f (lu f (lg d (F7 rfl f rfl) (lg c (j9 rfl d rfl) (lv (j3 rfl c rfl) (av rfl (av rfl (nq (i9 ?_))))))))
  cases oi I
  exact R8 (vs := [_, _]) results259 ⟨rfl, rfl, trivial⟩ ⟨aQ, rfl, H, q⟩
 iterate 7 refine lu c ?_
 refine u1 (uu rfl rfl) rfl (u1 (uu rfl rfl) rfl (u1 (uu rfl rfl) rfl (u1 (uu rfl rfl) rfl (u1 (uu rfl rfl) rfl (u1 (uu rfl rfl) rfl (u1 (uu rfl rfl) rfl (u1 (uu rfl rfl) rfl (u1 (uu rfl rfl) rfl (lu c ?_)))))))))
 refine lv (F7 rfl c rfl) (av rfl (av rfl (nq (i9 ?_))))
 cases oi D
 exact R8 (vs := [_, _]) results259 ⟨rfl, rfl, trivial⟩ ⟨U, rfl, i, q⟩

theorem b01 {q0 : List Int} {q1 : Int} {r : Int × Bool} (hS : SH w K [] w K []) (c : b7 B7 K A a b q0) (l : d9 q1) (hm : a2t F q0 q1 = some r) :
  Calls prog 228 #[V3 A a b, V6 q1] w fun e w' => ∃ K', e = .returned (.tuple #[V6 r.1, .bool r.2]) ∧ SH w K [] w' K' [] ∧ d9 r.1 := by
 rw [a2t] at hm
 refine ci func228 rfl ntmps228 (sr (lv (L3 rfl) (lv (M7 rfl) (nr (mv rfl (mv rfl ?_))))))
 obtain ⟨J, m, o⟩ := ob hm
 refine lk b9z (a28 F hS.enter0 c l m) ?_
 rintro O R ⟨k, rfl, d, S⟩
 have f := (hS.c0 d).t0
 refine mv rfl (lv (B3 rfl rfl) (lv (B3 rfl rfl) (av rfl (av rfl (P6 (mv rfl (mv rfl (lv (k9 underlying55 rfl (c.mono d.le)) (lv (u3 rfl rfl) ?_)))))))))
 refine nq (B5 o rfl (fun q i => ?_) (fun q i => ?_))
 ·refine sr (lv (L3 rfl) (lv (M7 rfl) (nq (rr ?_))))
  cases oi i
  exact R8 (vs := [_, _]) results228 ⟨rfl, rfl, trivial⟩ ⟨k, rfl, f, I0⟩
 refine i6 (qr (mv rfl (mv rfl ?_)))
 obtain ⟨s, x, y⟩ := ob i
 refine li underlying55 D8 (c.mono d.le) x fun B C T D G => ?_
 obtain ⟨rfl, H⟩ := D
 have I : D0 _ B C [V6 s] := G
 refine lv (u0 D8 rfl f (I 0 _ rfl)) (av rfl (lv (r_t rfl) (nq (i9 ?_))))
 cases oi y
 exact R8 (vs := [_, _]) results228 ⟨rfl, rfl, trivial⟩ ⟨k, rfl, f, H⟩
end Go.Proofs.YtmkhlppjphodfaaGreatDoor
