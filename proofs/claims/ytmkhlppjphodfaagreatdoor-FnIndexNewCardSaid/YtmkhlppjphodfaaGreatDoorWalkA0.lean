/-
 Walks of the functions. Printed by gen.py.
-/
import Derived.Test.YtmkhlppjphodfaaGreatDoorFacts
set_option linter.unusedVariables false
set_option linter.unusedSectionVars false
set_option maxRecDepth 100000
namespace Go.Proofs.YtmkhlppjphodfaaGreatDoor
open Go Go.Fk Go.RowKit Tryz
variable (F : Nat) {w : World} {K : KMap} {Z : List Nat} {g1 g2 g3 : Nat} {A B C D G H I J O R S T : Option Addr} {a b c d f i k l m n o p q s v x y aa ab ac ad ae af ag : Nat}
variable [dr : Dr]

set_option maxHeartbeats 2000000 in
theorem ok_spec_l30Rd_pick {p0_r : GL30Rd} {p1_n : Int} {r : Int × GL30Rd} (hS : SH w K Z w K [obj g1 [.slice A a b, .int .i64 p0_r.p_] 145]) (c : SliceAt tU8 K A a b p0_r.b_) (aF : rng64 p0_r.p_) (aG : rng64 p1_n) (hm : M.spec_l30Rd_pick F p0_r p1_n = some r) :
  Calls prog 78 #[.pointer (some ⟨g1, 0, none⟩), .int .i64 p1_n] w fun e w' => ∃ a_2 n_3 c_4 K', e = .returned (.int .i64 r.1) ∧ SH w K Z w' K' [obj g1 [.slice a_2 n_3 c_4, .int .i64 r.2.p_] 145] ∧ rng64 r.1 ∧ SliceAt tU8 K' a_2 n_3 c_4 r.2.b_ ∧ rng64 r.2.p_ := by
 rw [M.spec_l30Rd_pick] at hm
 refine ci func78 rfl ntmps78 (sr (lv (rv_assign (v := .int .i64 0) rfl) (nr (mv rfl (mv rfl (lv (rv_nilCheck rfl) (fa ff145_1 rfl (lv (rv_loadm1 tf3 rfl m0 hS rfl) (lv (rv_add rfl rfl) ?_)))))))))
 refine lv (rv_nilCheck rfl) (fa ff145_1 rfl (ls [.slice A a b, .int .i64 (w64 (p0_r.p_ + (1 : Int)))] (.int .i64 (w64 (p0_r.p_ + (1 : Int)))) tf3 hS fun w8 k => (ns (wc_seq ?_))))
 obtain ⟨y, B, C⟩ := ob hm
 refine wc_cutg (IV w K Z K [(0, pt g1), (1, .int .i64 p1_n), (24, .bool y)] [obj g1 [.slice A a b, .int .i64 (w64 (p0_r.p_ + (1 : Int)))] 145]) ?_ ?_
 ·refine wc_region (mv rfl (lv (rv_lss rfl rfl) (mv rfl (bt B (fun d l => ?_) (fun d l => ?_)))))
  ·iterate 6 refine lu d ?_
   refine lv (rv_pick_t (v := .bool true) rfl d rfl) (wl_nil ?_)
   cases oi l
   exact qd ⟨K, rfl, k, kr⟩
  refine lg d (rv_move rfl) (lg d (rv_nilCheck rfl) (lg d (rv_fieldAddr ff145_0 rfl) (lg d (rv_loadm1 tf22 rfl m0 k rfl) (lg d (rv_len (t := tU8) underlying22 rfl c) (lg d (rv_eql rfl rfl) (lv (rv_pick_f rfl d rfl) (wl_nil ?_)))))))
  cases oi l
  exact qd ⟨K, rfl, k, kr⟩
 rintro _ aI ⟨q, rfl, i, f⟩
 refine qe_seq (wcc C rfl (fun D m => ?_) (fun D m => ?_))
 ·refine sr (lv (rv_assign (v := .int .i64 0) rfl) (nq (rr ?_)))
  cases oi m
  exact ey results78 ⟨A, a, b, q, rfl, i, (by decide : rng64 0), (c.mono f), (w64_rng _)⟩
 refine wc_skip (qr (mv rfl (lv (rv_nilCheck rfl) (fa ff145_1 rfl (lv (rv_loadm1 tf3 rfl m0 i rfl) (lv (rv_sub rfl rfl) (av rfl (nsr (mv rfl ?_)))))))))
 refine mv rfl (lv (rv_nilCheck rfl) (fa ff145_0 rfl (lv (rv_loadm1 tf22 rfl m0 i rfl) (lv (rv_len (t := tU8) underlying22 rfl (c.mono f)) (lv (rv_lss rfl rfl) (nq (wcc m rfl (fun G o => ?_) (fun G o => ?_))))))))
 ·refine sr (mv rfl (lv (rv_nilCheck rfl) (fa ff145_0 rfl (lv (rv_loadm1 tf22 rfl m0 i rfl) (mv rfl ?_)))))
  obtain ⟨H, I, J⟩ := ob o
  refine li underlying22 tf5 (c.mono f) I fun O R aJ S T => ?_
  obtain rfl := S
  have U : AtK _ O R [iv8 H] := T
  refine lv (rv_load1 tf5 rfl i (U 0 _ rfl)) (lv (rv_b2i underlying5 underlying3 rfl) (mv rfl ?_))
  obtain ⟨aK, s, V⟩ := ob J
  refine lv (rv_rem rfl rfl s) (av rfl (nq (rr ?_)))
  cases oi V
  exact ey results78 ⟨A, a, b, q, rfl, i, (rng_rem (rng_u8 _) s), (c.mono f), (w64_rng _)⟩
 refine wc_skip (qs (wc_quiet mixed (by kernel_rfl) i (km rfl (kv (rv_nilCheck rfl) (kv (rv_fieldAddr ff145_0 rfl) (kh (rq_loadm1 tf22 rfl m0 rfl) (km rfl (km rfl (kv (rv_nilCheck rfl) ?_)))))))))
 refine kv (rv_fieldAddr ff145_0 rfl) (kh (rq_loadm1 tf22 rfl m0 rfl) (kv (rv_len (t := tU8) underlying22 rfl (c.mono f)) ?_))
 obtain ⟨aL, W, X⟩ := ob o
 refine kv (rv_rem rfl rfl W) ?_
 obtain ⟨Y, aa, ab⟩ := ob X
 refine ki underlying22 tf5 (c.mono f) aa fun ac ad aM ae af => ?_
 obtain rfl := ae
 have ag : AtK _ ac ad [iv8 Y] := af
 refine kh (rq_load1 tf5 rfl (ag 0 _ rfl)) (kv (rv_b2i underlying5 underlying3 rfl) (kv (rv_mul rfl rfl) (km rfl (kv (rv_nilCheck rfl) (kv (rv_fieldAddr ff145_0 rfl) (kh (rq_loadm1 tf22 rfl m0 rfl) (km rfl (kv (rv_mul rfl rfl) (kv (rv_add rfl rfl) ?_)))))))))
 refine km rfl (kv (rv_nilCheck rfl) (kv (rv_fieldAddr ff145_0 rfl) (kh (rq_loadm1 tf22 rfl m0 rfl) (kv (rv_len (t := tU8) underlying22 rfl (c.mono f)) ?_))))
 obtain ⟨aN, ah, ai⟩ := ob ab
 refine kv (rv_rem rfl rfl ah) ?_
 obtain ⟨aj, ak, al⟩ := ob ai
 refine ki underlying22 tf5 (c.mono f) ak fun am an aO ao ap => ?_
 obtain rfl := ao
 have aq : AtK _ am an [iv8 aj] := ap
 refine kh (rq_load1 tf5 rfl (aq 0 _ rfl)) (kv (rv_b2i underlying5 underlying3 rfl) (kv (rv_mul rfl rfl) (kv (rv_add rfl rfl) (km rfl (kv (rv_mul rfl rfl) (kv (rv_add rfl rfl) (km rfl (km rfl (kv (rv_nilCheck rfl) ?_)))))))))
 refine kv (rv_fieldAddr ff145_0 rfl) (kh (rq_loadm1 tf22 rfl m0 rfl) (kv (rv_len (t := tU8) underlying22 rfl (c.mono f)) ?_))
 obtain ⟨aP, ar, au⟩ := ob al
 refine kv (rv_quo rfl rfl ar) (kv (rv_mul rfl rfl) (kv (rv_add rfl rfl) ?_))
 obtain ⟨aQ, aw, ax⟩ := ob au
 have ay := oi aw
 refine kv (rv_as rfl (congrArg (Value.int .i64) ay)) (wq_nil ?_)
 rintro aR ⟨az, aA, aB⟩
 refine qr (mv rfl (mv rfl ?_))
 obtain ⟨aS, aC, aD⟩ := ob ax
 refine lv (rv_quo rfl rfl aC) (lv (rv_xor rfl rfl) (av rfl (nr (mv rfl (mv rfl ?_)))))
 obtain ⟨aT, x, aE⟩ := ob aD
 refine lv (rv_rem rfl rfl x) (av rfl (nq (wc_ret ?_)))
 cases oi aE
 exact ey results78 ⟨A, a, b, az, rfl, aA, (rng_rem (w64_rng _) x), (c.mono (f.trans aB)), (w64_rng _)⟩

set_option maxHeartbeats 2000000 in
theorem ok_spec_l30Conf {p0_r : GL30Rd} {r : GConf × GL30Rd} (hS : SH w K Z w K [obj g1 [.slice A a b, .int .i64 p0_r.p_] 145]) (aI : SliceAt tU8 K A a b p0_r.b_) (aJ : rng64 p0_r.p_) (hm : M.spec_l30Conf F p0_r = some r) :
  Calls prog 103 #[.pointer (some ⟨g1, 0, none⟩)] w fun e w' => ∃ a_1 n_2 c_3 a_5 n_6 c_7 a_9 n_10 c_11 K', e = .returned (.agg #[.slice a_1 n_2 c_3, .slice a_5 n_6 c_7]) ∧ SH w K Z w' K' [tail (.slice a_1 n_2 c_3) 9 1, tail (.slice a_5 n_6 c_7) 96 2, obj g1 [.slice a_9 n_10 c_11, .int .i64 r.2.p_] 145] ∧ SliceAt tStr K' a_1 n_2 c_3 r.1.Stops ∧ SliceAt tGSyn K' a_5 n_6 c_7 r.1.Syns ∧ SliceAt tU8 K' a_9 n_10 c_11 r.2.b_ ∧ rng64 r.2.p_ := by
 rw [M.spec_l30Conf] at hm
 refine ci func103 rfl ntmps103 (sr (al tf26 hS fun x w8 aK => ?_))
 have aL : SH _ _ _ _ _ [obj x [.slice none 0 0, .slice none 0 0] 26, _] := aK
 refine nr (lv (rv_build (cs := #[.slice none 0 0, .slice none 0 0]) sp26 tf26 rfl (by kernel_rfl)) (al tf26 aL fun y bP aM => ?_))
 have aN : SH _ _ _ _ _ [obj y [.slice none 0 0, .slice none 0 0] 26, _, _] := aM
 refine ls [.slice none 0 0, .slice none 0 0] (.agg #[.slice none 0 0, .slice none 0 0]) tf26 aN fun bQ aO => (nsr (mv rfl ?_))
 obtain ⟨aP, aQ, aR⟩ := ob hm
 have ak := aO.f2
 refine lk co78 ((ok_spec_l30Rd_pick F) ak.e1 aI aJ (by decide : rng64 3) aQ) ?_
 rintro bR bS ⟨aS, aT, aU, am, rfl, aV, bT, aW, aX⟩
 have an := (ak.c1 aV).t3
 refine lv (rv_gtr rfl rfl) (nq ?_)
 obtain ⟨ao, aY, aZ⟩ := ob aR
 refine wc_cutg (fun E' w' => ∃ B C D m o q G, E' = [(0, pt g1), (2, pt x), (3, pt y)] ∧ SH w K Z w' G [obj g1 [.slice aS aT aU, .int .i64 aP.2.p_] 145, obj x [.slice none 0 0, .slice none 0 0] 26, obj y [.slice B C D, .slice m o q] 26, tail (.slice B C D) 9 1, tail (.slice m o q) 96 2] ∧ KLe am G ∧ SliceAt tStr G B C D ao.Stops ∧ SliceAt tGSyn G m o q ao.Syns) ?_ ?_
 ·refine wcc aY rfl (fun a0 W => ?_) (fun a0 W => ?_)
  ·refine wc_region (lb tStr (sv [116, 104, 101]) [sv [116, 104, 101]] ([116, 104, 101] : Str) underlying23 tf9 ⟨rfl, (by decide : ([116, 104, 101] : Str).length ≤ maxLen)⟩ an fun X bU a1 a2 a3 a4 => (fa ff26_0 rfl (ls [.slice X 1 1, .slice none 0 0] (.slice X 1 1) tf23 a4.f2 fun bV a5 => (wl_nil ?_))))
   cases oi W
   have a6 := a5.nil 96 2
   exact qd ⟨X, 1, 1, none, 0, 0, a1, rfl, a6.f2.f2.f4.f4, a2, a3, (SliceAt.nil _ _)⟩
  refine wc_skip ?_
  cases oi W
  have a7 := an.nil 9 1
  have a8 := a7.nil 96 2
  exact qd ⟨none, 0, 0, none, 0, 0, am, rfl, a8.f1.f3.f4.f4, kr, (SliceAt.nil _ _), (SliceAt.nil _ _)⟩
 rintro _ bW ⟨B, C, D, m, o, q, G, rfl, ap, a9, ba, aq⟩
 refine qs (sr (mv rfl ?_))
 obtain ⟨bb, bc, bd⟩ := ob aZ
 refine lk co78 ((ok_spec_l30Rd_pick F) ap.e1 (aW.mono a9) aX (by decide : rng64 4) bc) ?_
 rintro bX bY ⟨be, bf, bg, ar, rfl, S, bZ, bh, bi⟩
 have au := (ap.c1 S).t5
 refine lv (rv_eql rfl rfl) (nq ?_)
 obtain ⟨aw, bj, bk⟩ := ob bd
 refine wc_cutg (fun E' w' => ∃ c d f i k l H, E' = [(0, pt g1), (2, pt x), (3, pt y)] ∧ SH w K Z w' H [obj g1 [.slice be bf bg, .int .i64 bb.2.p_] 145, obj x [.slice none 0 0, .slice none 0 0] 26, obj y [.slice c d f, .slice i k l] 26, tail (.slice c d f) 9 1, tail (.slice i k l) 96 2] ∧ KLe ar H ∧ SliceAt tStr H c d f aw.Stops ∧ SliceAt tGSyn H i k l aw.Syns) ?_ ?_
 ·refine wcc bj rfl (fun bl Y => ?_) (fun bl Y => ?_)
  ·refine wc_region (bw [[100, 111, 103], [116, 104, 101]] underlying23 tf9 au fun aa b0 bm ax bn bo => (fa ff26_0 rfl (ls [.slice aa 2 2, .slice m o q] (.slice aa 2 2) tf23 bo.f3 fun b1 bp => (wl_nil ?_))))
   cases oi Y
   exact qd ⟨aa, 2, 2, m, o, q, bm, rfl, bp.f5.f2.f2.f4.f4.s, ax, bn, (aq.mono (S.le.trans ax))⟩
  refine wc_skip ?_
  cases oi Y
  exact qd ⟨B, C, D, m, o, q, ar, rfl, au, kr, (ba.mono S.le), (aq.mono S.le)⟩
 rintro _ b2 ⟨c, d, f, i, k, l, H, rfl, ay, bq, ab, br⟩
 refine qs (sr (mv rfl ?_))
 obtain ⟨b3, bs, bu⟩ := ob bk
 refine lk co78 ((ok_spec_l30Rd_pick F) ay.e1 (bh.mono bq) bi (by decide : rng64 4) bs) ?_
 rintro b4 b5 ⟨ac, ad, ae, bv, rfl, I, b6, af, ag⟩
 have T := (ay.c1 I).t5
 refine nq (wc_block (sr (lv (rv_eql rfl rfl) (av rfl (nq (wcc bu rfl (fun bx ah => ?_) (fun bx ah => ?_)))))))
 ·refine wc_region (bw [[110, 101, 119], [121, 111, 114, 107]] underlying23 tf9 T fun U b7 b8 az bz bA => (lv (rv_build (cs := #[.slice U 2 2, sv [110, 121]]) sp96 tf96 rfl (by kernel_rfl)) (lb tGSyn (.agg #[.slice U 2 2, sv [110, 121]]) [.slice U 2 2, sv [110, 121]] (GSyn.mk ([([110, 101, 119] : Str), ([121, 111, 114, 107] : Str)] : List Str) ([110, 121] : Str)) underlying24 tf96 ⟨U, 2, 2, rfl, bz, (by decide : ([110, 121] : Str).length ≤ maxLen)⟩ bA fun s b9 bB aA bC bD => (fa ff26_1 rfl (ls [.slice c d f, .slice s 1 1] (.slice s 1 1) tf24 bD.f4 fun ca aB => (nb (qr (lv (rv_loadmS (ds := [.slice c d f, .slice s 1 1]) tf26 rfl m0 aB rfl rfl) (ls [.slice c d f, .slice s 1 1] (.agg #[.slice c d f, .slice s 1 1]) tf26 aB.f4 fun cb aC => ?_)))))))))
  refine nq (wc_ret ?_)
  cases oi ah
  exact ez results103 tf26 aC m0 ⟨c, d, f, s, 1, 1, ac, ad, ae, bB, rfl, aC.f4.f3.f5.s, (ab.mono ((I.le.trans az).trans aA)), bC, (af.mono (az.trans aA)), ag⟩
 refine sr (lv (rv_eql rfl rfl) (av rfl (nq (wcc ah rfl (fun bE ai => ?_) (fun bE ai => ?_)))))
 ·refine wc_region (lb tStr (sv [98, 105, 103]) [sv [98, 105, 103]] ([98, 105, 103] : Str) underlying23 tf9 ⟨rfl, (by decide : ([98, 105, 103] : Str).length ≤ maxLen)⟩ T fun J cc cd aD bF bG => (lv (rv_build (cs := #[.slice J 1 1, sv [108, 97, 114, 103]]) sp96 tf96 rfl (by kernel_rfl)) (bw [[98, 105, 103], [114, 101, 100], [102, 111, 120]] underlying23 tf9 bG fun O ce cf aj bH bI => (lv (rv_build (cs := #[.slice O 3 3, sv [102, 111, 120]]) sp96 tf96 rfl (by kernel_rfl)) (bw [[110, 101, 119], [121, 111, 114, 107]] underlying23 tf9 bI fun R cg ch V bJ bK => (lv (rv_build (cs := #[.slice R 2 2, sv [110, 121]]) sp96 tf96 rfl (by kernel_rfl)) ?_))))))
  refine wl_buildSlice (t := tGSyn) (n := 3) (pv := [(0, .agg #[.slice J 1 1, sv [108, 97, 114, 103]]), (1, .agg #[.slice O 3 3, sv [102, 111, 120]]), (2, .agg #[.slice R 2 2, sv [110, 121]])]) (cs := [.slice J 1 1, sv [108, 97, 114, 103], .slice O 3 3, sv [102, 111, 120], .slice R 2 2, sv [110, 121]]) (xs := [(GSyn.mk ([([98, 105, 103] : Str)] : List Str) ([108, 97, 114, 103] : Str)), (GSyn.mk ([([98, 105, 103] : Str), ([114, 101, 100] : Str), ([102, 111, 120] : Str)] : List Str) ([102, 111, 120] : Str)), (GSyn.mk ([([110, 101, 119] : Str), ([121, 111, 114, 107] : Str)] : List Str) ([110, 121] : Str))]) wn rfl underlying24 tf96 rfl rfl rfl (by kernel_rfl) rfl rfl (lit_cons (u := .agg #[.slice J 1 1, sv [108, 97, 114, 103]]) (z := (GSyn.mk ([([98, 105, 103] : Str)] : List Str) ([108, 97, 114, 103] : Str))) ⟨J, 1, 1, rfl, (bF.mono (aj.trans V)), (by decide : ([108, 97, 114, 103] : Str).length ≤ maxLen)⟩ (lit_cons (u := .agg #[.slice O 3 3, sv [102, 111, 120]]) (z := (GSyn.mk ([([98, 105, 103] : Str), ([114, 101, 100] : Str), ([102, 111, 120] : Str)] : List Str) ([102, 111, 120] : Str))) ⟨O, 3, 3, rfl, (bH.mono V), (by decide : ([102, 111, 120] : Str).length ≤ maxLen)⟩ (lit_cons (u := .agg #[.slice R 2 2, sv [110, 121]]) (z := (GSyn.mk ([([110, 101, 119] : Str), ([121, 111, 114, 107] : Str)] : List Str) ([110, 121] : Str))) ⟨R, 2, 2, rfl, bJ, (by decide : ([110, 121] : Str).length ≤ maxLen)⟩ lit_nil))) bK ?_
  intro v cj bL aE bM bN
  refine fa ff26_1 rfl (ls [.slice c d f, .slice v 3 3] (.slice v 3 3) tf24 bN.f6 fun ck aF => (nb (qr (lv (rv_loadmS (ds := [.slice c d f, .slice v 3 3]) tf26 rfl m0 aF rfl rfl) (ls [.slice c d f, .slice v 3 3] (.agg #[.slice c d f, .slice v 3 3]) tf26 aF.f6 fun cl aG => (nq (wc_ret ?_)))))))
  cases oi ai
  exact ez results103 tf26 aG m0 ⟨c, d, f, v, 3, 3, ac, ad, ae, bL, rfl, aG.f6.f3.f7.s, (SliceAt.mono ((((I.le.trans aD).trans aj).trans V).trans aE) ab), bM, (SliceAt.mono (((aD.trans aj).trans V).trans aE) af), ag⟩
 refine wc_skip (qe_block (qr (lv (rv_loadmS (ds := [.slice c d f, .slice i k l]) tf26 rfl m2 T rfl rfl) (ls [.slice c d f, .slice i k l] (.agg #[.slice c d f, .slice i k l]) tf26 T.f1 fun cm aH => (nq (wc_ret ?_))))))
 cases oi ai
 exact ez results103 tf26 aH m0 ⟨c, d, f, i, k, l, ac, ad, ae, bv, rfl, aH.f1.f4.f4.s, (ab.mono I.le), (br.mono I.le), af, ag⟩

set_option maxHeartbeats 2000000 in
theorem ok_spec_l30AnyConf {p0_r : GL30Rd} {r : GConf × GL30Rd} (hS : SH w K Z w K [obj g1 [.slice A a b, .int .i64 p0_r.p_] 145]) (aA : SliceAt tU8 K A a b p0_r.b_) (aB : rng64 p0_r.p_) (hm : M.spec_l30AnyConf F p0_r = some r) :
  Calls prog 51 #[.pointer (some ⟨g1, 0, none⟩)] w fun e w' => ∃ a_1 n_2 c_3 a_5 n_6 c_7 a_9 n_10 c_11 K', e = .returned (.agg #[.slice a_1 n_2 c_3, .slice a_5 n_6 c_7]) ∧ SH w K Z w' K' [tail (.slice a_1 n_2 c_3) 9 1, tail (.slice a_5 n_6 c_7) 96 2, obj g1 [.slice a_9 n_10 c_11, .int .i64 r.2.p_] 145] ∧ SliceAt tStr K' a_1 n_2 c_3 r.1.Stops ∧ SliceAt tGSyn K' a_5 n_6 c_7 r.1.Syns ∧ SliceAt tU8 K' a_9 n_10 c_11 r.2.b_ ∧ rng64 r.2.p_ := by
 rw [M.spec_l30AnyConf] at hm
 refine ci func51 rfl ntmps51 (sr (al tf26 hS fun g7 w8 aD => ?_))
 have aE : SH _ _ _ _ _ [obj g7 [.slice none 0 0, .slice none 0 0] 26, _] := aD
 refine nr (mv rfl ?_)
 obtain ⟨bp, aF, aG⟩ := ob hm
 have ah := aE.f1
 refine lk co103 ((ok_spec_l30Conf F) ah.e1 aA aB aF) ?_
 rintro bq br ⟨c, d, f, i, k, l, bs, bu, bv, bx, rfl, aH, U, I, aI, aJ⟩
 have aK := (ah.c1 aH).t4
 refine al tf26 aK fun aL bz aM => ?_
 have aN : SH _ _ _ _ _ [obj aL [.slice none 0 0, .slice none 0 0] 26, _, _, _, _] := aM
 refine ls [.slice c d f, .slice i k l] (.agg #[.slice c d f, .slice i k l]) tf26 aN fun bA aO => (nsr (mv rfl ?_))
 obtain ⟨bB, aP, aQ⟩ := ob aG
 have ai := aO.f3
 refine lk co78 ((ok_spec_l30Rd_pick F) ai.e1 aI aJ (by decide : rng64 14) aP) ?_
 rintro bC bD ⟨J, O, R, aR, rfl, m, bE, S, T⟩
 have o := (ai.c1 m).t5
 refine nq (wc_block (sr (lv (rv_eql rfl rfl) (av rfl (nq (wcc aQ rfl (fun aS X => ?_) (fun aS X => ?_)))))))
 ·refine wc_region (bw [[116, 104, 101], [97]] underlying23 tf9 o fun q bF aT aj aU aV => (fa ff26_0 rfl (ls [.slice q 2 2, .slice i k l] (.slice q 2 2) tf23 aV.f2 fun bG ak => (nb (qr (lv (rv_loadmS (ds := [.slice q 2 2, .slice i k l]) tf26 rfl m0 ak rfl rfl) (ls [.slice q 2 2, .slice i k l] (.agg #[.slice q 2 2, .slice i k l]) tf26 ak.f5 fun bH am => (nq (wc_ret ?_)))))))))
  cases oi X
  exact ez results51 tf26 am m0 ⟨q, 2, 2, i, k, l, J, O, R, aT, rfl, am.f3.f5.f4.s, aU, (I.mono (m.le.trans aj)), (S.mono aj), T⟩
 refine sr (lv (rv_eql rfl rfl) (av rfl (nq (wcc X rfl (fun aW Y => ?_) (fun aW Y => ?_)))))
 ·refine wc_region (fa ff26_1 rfl (lv (rv_loadm1 tf24 rfl m1 o rfl) (lb tStr (sv [99, 97, 116, 115]) [sv [99, 97, 116, 115]] ([99, 97, 116, 115] : Str) underlying23 tf9 ⟨rfl, (by decide : ([99, 97, 116, 115] : Str).length ≤ maxLen)⟩ o fun V bI bJ aa aX aY => (lv (rv_build (cs := #[.slice V 1 1, sv [99, 97, 116]]) sp96 tf96 rfl (by kernel_rfl)) (lb tGSyn (.agg #[.slice V 1 1, sv [99, 97, 116]]) [.slice V 1 1, sv [99, 97, 116]] (GSyn.mk ([([99, 97, 116, 115] : Str)] : List Str) ([99, 97, 116] : Str)) underlying24 tf96 ⟨V, 1, 1, rfl, aX, (by decide : ([99, 97, 116] : Str).length ≤ maxLen)⟩ aY fun bK bL bM ab aZ a0 => ?_)))))
  obtain ⟨bN, a1, a2⟩ := ob Y
  refine lp underlying24 tf96 (I.mono ((m.le.trans aa).trans ab)) aZ a1 a0.f5 fun s v x bO a3 an a4 a5 => (fa ff26_1 rfl (ls [.slice c d f, .slice s v x] (.slice s v x) tf24 a5.f4 fun bP ao => (nb (qr (lv (rv_loadmS (ds := [.slice c d f, .slice s v x]) tf26 rfl m0 ao rfl rfl) (ls [.slice c d f, .slice s v x] (.agg #[.slice c d f, .slice s v x]) tf26 ao.f6 fun bQ ap => (nq (wc_ret ?_))))))))
  cases oi a2
  exact ez results51 tf26 ap m0 ⟨c, d, f, s, v, x, J, O, R, a3, rfl, ap.f5.f3.f6.s, (SliceAt.mono (((m.le.trans aa).trans ab).trans an) U), a4, (S.mono ((aa.trans ab).trans an)), T⟩
 refine sr (lv (rv_eql rfl rfl) (av rfl (nq (wcc Y rfl (fun a6 ac => ?_) (fun a6 ac => ?_)))))
 ·refine wc_region (fa ff26_1 rfl (lv (rv_loadm1 tf24 rfl m1 o rfl) (lv (rv_build (cs := #[.slice none 0 0, sv [99, 97, 116]]) sp96 tf96 rfl (by kernel_rfl)) (lb tGSyn (.agg #[.slice none 0 0, sv [99, 97, 116]]) [.slice none 0 0, sv [99, 97, 116]] (GSyn.mk ([] : List Str) ([99, 97, 116] : Str)) underlying24 tf96 ⟨none, 0, 0, rfl, (SliceAt.nil _ _), (by decide : ([99, 97, 116] : Str).length ≤ maxLen)⟩ o fun bR bS bT ad a7 a8 => ?_))))
  obtain ⟨bU, a9, ba⟩ := ob ac
  refine lp underlying24 tf96 (I.mono (m.le.trans ad)) a7 a9 a8.f4 fun y B C bV bb aq bc bd => (fa ff26_1 rfl (ls [.slice c d f, .slice y B C] (.slice y B C) tf24 bd.f3 fun bW ar => (nb (qr (lv (rv_loadmS (ds := [.slice c d f, .slice y B C]) tf26 rfl m0 ar rfl rfl) (ls [.slice c d f, .slice y B C] (.agg #[.slice c d f, .slice y B C]) tf26 ar.f5 fun bX au => (nq (wc_ret ?_))))))))
  cases oi ba
  exact ez results51 tf26 au m0 ⟨c, d, f, y, B, C, J, O, R, bb, rfl, au.f4.f3.f5.s, (U.mono ((m.le.trans ad).trans aq)), bc, (S.mono (ad.trans aq)), T⟩
 refine sr (lv (rv_eql rfl rfl) (av rfl (nq (wcc ac rfl (fun be ae => ?_) (fun be ae => ?_)))))
 ·refine wc_region (fa ff26_1 rfl (lv (rv_loadm1 tf24 rfl m1 o rfl) (bw [[116, 104, 101], [99, 97, 116]] underlying23 tf9 o fun W bY bZ af bf bg => (lv (rv_build (cs := #[.slice W 2 2, sv [99, 97, 116]]) sp96 tf96 rfl (by kernel_rfl)) (lb tGSyn (.agg #[.slice W 2 2, sv [99, 97, 116]]) [.slice W 2 2, sv [99, 97, 116]] (GSyn.mk ([([116, 104, 101] : Str), ([99, 97, 116] : Str)] : List Str) ([99, 97, 116] : Str)) underlying24 tf96 ⟨W, 2, 2, rfl, bf, (by decide : ([99, 97, 116] : Str).length ≤ maxLen)⟩ bg fun b0 b1 b2 ag bh bi => ?_)))))
  obtain ⟨b3, bj, bk⟩ := ob ae
  refine lp underlying24 tf96 (I.mono ((m.le.trans af).trans ag)) bh bj bi.f5 fun D G H b4 bl aw bm bn => (fa ff26_1 rfl (ls [.slice c d f, .slice D G H] (.slice D G H) tf24 bn.f4 fun b5 ax => (nb (qr (lv (rv_loadmS (ds := [.slice c d f, .slice D G H]) tf26 rfl m0 ax rfl rfl) (ls [.slice c d f, .slice D G H] (.agg #[.slice c d f, .slice D G H]) tf26 ax.f6 fun b6 ay => (nq (wc_ret ?_))))))))
  cases oi bk
  exact ez results51 tf26 ay m0 ⟨c, d, f, D, G, H, J, O, R, bl, rfl, ay.f5.f3.f6.s, (SliceAt.mono (((m.le.trans af).trans ag).trans aw) U), bm, (S.mono ((af.trans ag).trans aw)), T⟩
 refine wc_skip (qe_block (qr (lv (rv_loadmS (ds := [.slice c d f, .slice i k l]) tf26 rfl m1 o rfl rfl) (ls [.slice c d f, .slice i k l] (.agg #[.slice c d f, .slice i k l]) tf26 o.f4 fun b7 az => (nq (wc_ret ?_))))))
 cases oi ae
 exact ez results51 tf26 az m0 ⟨c, d, f, i, k, l, J, O, R, aR, rfl, az.f1.f4.f4.s, (U.mono m.le), (I.mono m.le), S, T⟩

theorem ok_spec_l30Open {p0_code : List UInt8} {r : GL30Rd} (hS : SH w K [] w K []) (c : SliceAt tU8 K A a b p0_code) (hm : M.spec_l30Open F p0_code = some r) :
  Calls prog 52 #[.slice A a b] w fun e w' => ∃ g_1 a_2 n_3 c_4 K', e = .returned (.pointer (some ⟨g_1, 0, none⟩)) ∧ SH w K [] w' K' [obj g_1 [.slice a_2 n_3 c_4, .int .i64 r.p_] 145] ∧ SliceAt tU8 K' a_2 n_3 c_4 r.b_ ∧ rng64 r.p_ := by
 rw [M.spec_l30Open] at hm
 refine ci func52 rfl ntmps52 (sr (lv (rv_assign (v := .pointer none) rfl) (nsr (mv rfl (lv (rv_len (t := tU8) underlying22 rfl c) (lv (rv_gtr rfl rfl) (nq (wc_cond rfl (fun d => ?_) (fun d => ?_)))))))))
 ·have f := cond_t d hm
  refine wc_region (mv rfl ?_)
  obtain ⟨G, q, s⟩ := ob f
  refine wl_sl_h (t := tU8) wn rfl underlying22 tf5 rfl rfl c q fun i k l x => (av rfl (nr (mv rfl (lv (rv_build (cs := #[.slice i k l, .int .i64 0]) sp145 tf145 rfl (by kernel_rfl)) (bx rfl hS fun m H y => ?_)))))
  have B : SH _ _ _ _ _ [obj m [.slice i k l, .int .i64 0] 145] := y
  refine av rfl (nq (wc_ret ?_))
  cases oi s
  exact ey results52 ⟨m, i, k, l, K, rfl, B, x, (by decide : rng64 0)⟩
 have f := cond_f d hm
 refine wc_skip (qr (mv rfl (lv (rv_build (cs := #[.slice A a b, .int .i64 0]) sp145 tf145 rfl (by kernel_rfl)) (bx rfl hS fun o I C => ?_))))
 have D : SH _ _ _ _ _ [obj o [.slice A a b, .int .i64 0] 145] := C
 refine av rfl (nq (wc_ret ?_))
 cases oi f
 exact ey results52 ⟨o, A, a, b, K, rfl, D, c, (by decide : rng64 0)⟩

theorem ok_spec_DrawIndexNew {p0_code : List UInt8} {r : GConf} (hS : SH w K [] w K []) (s : SliceAt tU8 K A a b p0_code) (hm : M.spec_DrawIndexNew F p0_code = some r) :
  Calls prog 15 #[.slice A a b] w fun e w' => ∃ a_1 n_2 c_3 a_5 n_6 c_7 K', e = .returned (.agg #[.slice a_1 n_2 c_3, .slice a_5 n_6 c_7]) ∧ SH w K [] w' K' [tail (.slice a_1 n_2 c_3) 9 1, tail (.slice a_5 n_6 c_7) 96 2] ∧ SliceAt tStr K' a_1 n_2 c_3 r.Stops ∧ SliceAt tGSyn K' a_5 n_6 c_7 r.Syns := by
 rw [M.spec_DrawIndexNew] at hm
 refine ci func15 rfl ntmps15 (sr (al tf26 hS fun v U x => ?_))
 have m : SH _ _ _ _ _ [obj v [.slice none 0 0, .slice none 0 0] 26] := x
 refine nr (mv rfl ?_)
 obtain ⟨V, y, B⟩ := ob hm
 refine lk co52 ((ok_spec_l30Open F) m.enter0 s y) ?_
 rintro W X ⟨Y, aa, ab, ac, ad, rfl, C, D, G⟩
 have o := (m.c0 C).t2
 obtain ⟨ae, H, I⟩ := ob B
 refine lk co51 ((ok_spec_l30AnyConf F) o.e1 D G H) ?_
 rintro af ag ⟨c, d, f, i, k, l, ah, ai, aj, J, rfl, O, R, S, ak, am⟩
 have T := (o.c1 O).t4
 refine ls [.slice c d f, .slice i k l] (.agg #[.slice c d f, .slice i k l]) tf26 T.f3 fun an q => (nq (wc_ret ?_))
 cases oi I
 exact ez results15 tf26 q m0 ⟨c, d, f, i, k, l, J, rfl, q.s, R, S⟩

theorem ok_impl_within {p0_n : Int} {p1_low : Int} {p2_high : Int} {r : Bool} (hS : SH w K [] w K []) (c : rng64 p0_n) (d : rng64 p1_low) (f : rng64 p2_high) (hm : M.impl_within F p0_n p1_low p2_high = some r) :
  Calls prog 58 #[.int .i64 p0_n, .int .i64 p1_low, .int .i64 p2_high] w fun e w' => ∃ K', e = .returned (.bool r) ∧ SH w K [] w' K' [] := by
 rw [M.impl_within] at hm
 refine ci func58 rfl ntmps58 (sr (lv (rv_assign (v := .bool false) rfl) (nr (mv rfl (mv rfl (lv (rv_geq rfl rfl) (mv rfl (bt hm (fun a b => ?_) (fun a b => ?_)))))))))
 ·refine lg a (rv_move rfl) (lg a (rv_move rfl) (lg a (rv_leq rfl rfl) (lv (rv_pick_t rfl a rfl) (av rfl (nq (wc_ret ?_))))))
  cases oi b
  exact ey results58 ⟨K, rfl, hS⟩
 refine lu a (lu a (lu a (lv (rv_pick_f (v := .bool false) rfl a rfl) (av rfl (nq (wc_ret ?_))))))
 cases oi b
 exact ey results58 ⟨K, rfl, hS⟩

theorem ok_impl_wordByte {p0_b : UInt8} {r : Bool} (hS : SH w K [] w K []) (hm : M.impl_wordByte F p0_b = some r) :
  Calls prog 106 #[iv8 p0_b] w fun e w' => ∃ K', e = .returned (.bool r) ∧ SH w K [] w' K' [] := by
 rw [M.impl_wordByte] at hm
 refine ci func106 rfl ntmps106 (sr (lv (rv_assign (v := .bool false) rfl) (nr (mv rfl (lv (rv_bge (b := (97 : UInt8)) rfl rfl) (mv rfl (bt hm (fun c i => ?_) (fun c i => ?_))))))))
 ·refine lg c (rv_move rfl) (lg c (rv_ble (b := (122 : UInt8)) rfl rfl) (lv (rv_pick_t rfl c rfl) (mv rfl (bt i (fun a k => ?_) (fun a k => ?_)))))
  ·refine lu a (lu a (lu a (wl_un (uu rfl rfl) rfl (wl_un (uu rfl rfl) rfl (lu a (lv (rv_pick_t (v := .bool true) rfl a rfl) (av rfl (nq (wc_ret ?_)))))))))
   cases oi k
   exact ey results106 ⟨K, rfl, hS⟩
  refine lg a (rv_move rfl) (lg a (rv_bge (b := (48 : UInt8)) rfl rfl) (lg a (rv_move rfl) (bt k (fun d l => ?_) (fun d l => ?_))))
  ·refine lg d (rv_move rfl) (lg d (rv_ble (b := (57 : UInt8)) rfl rfl) (lg a (rv_pick_t rfl d rfl) (lv (rv_pick_f rfl a rfl) (av rfl (nq (wc_ret ?_))))))
   cases oi l
   exact ey results106 ⟨K, rfl, hS⟩
  refine lu d (lu d (lg a (rv_pick_f (v := .bool false) rfl d rfl) (lv (rv_pick_f rfl a rfl) (av rfl (nq (wc_ret ?_))))))
  cases oi l
  exact ey results106 ⟨K, rfl, hS⟩
 refine lu c (lu c (lv (rv_pick_f (v := .bool false) rfl c rfl) (mv rfl (lg rfl (rv_move rfl) (lg rfl (rv_bge (b := (48 : UInt8)) rfl rfl) (lg rfl (rv_move rfl) (bt i (fun f m => ?_) (fun f m => ?_))))))))
 ·refine lg f (rv_move rfl) (lg f (rv_ble (b := (57 : UInt8)) rfl rfl) (lg rfl (rv_pick_t rfl f rfl) (lv (rv_pick_f rfl rfl rfl) (av rfl (nq (wc_ret ?_))))))
  cases oi m
  exact ey results106 ⟨K, rfl, hS⟩
 refine lu f (lu f (lg rfl (rv_pick_f (v := .bool false) rfl f rfl) (lv (rv_pick_f rfl rfl rfl) (av rfl (nq (wc_ret ?_))))))
 cases oi m
 exact ey results106 ⟨K, rfl, hS⟩

theorem ok_impl_WordOk {p0_s : Str} {r : Bool} (hS : SH w K [] w K []) (f : p0_s.length ≤ maxLen) (hm : M.impl_WordOk F p0_s = some r) :
  Calls prog 59 #[sv p0_s] w fun e w' => ∃ K', e = .returned (.bool r) ∧ SH w K [] w' K' [] := by
 rw [M.impl_WordOk] at hm
 refine ci func59 rfl ntmps59 (sr (lv (rv_assign (v := .bool false) rfl) (nsr (mv rfl (lv (rv_slen underlying9 rfl) (lv (rv_move (v := .int .i64 0) rfl) (nq ?_)))))))
 obtain ⟨y, A, a⟩ := ob hm
 refine wc_cutg (IE y w K [] K [(0, sv p0_s)] []) ?_ ?_
 ·refine wc_block ?_
  obtain ⟨Y, B, i⟩ := ob A
  refine qf (fun (k : Nat) (l : Unit) => IV w K [] K [(0, sv p0_s), (5, .int .i64 (p0_s.length : Int)), (6, .int .i64 ((k : Nat) : Int))] []) B ⟨K, rfl, hS, kr⟩ ?_ ?_
  ·rintro k l _ C aa hi20 D G ⟨m, rfl, b, c⟩
   refine sr (lv (rv_lss rfl rfl) (ns (wc_cond_t rfl (decide_eq_true (by omega)) (wc_skip (qe_seq (wc_seq (wc_block (sr (mv rfl (av rfl (nr (mv rfl ?_))))))))))))
   refine mv rfl ?_
   obtain ⟨ab, H, I⟩ := ob D
   refine lv (rv_sidx underlying9 rfl rfl H) ?_
   obtain ⟨ac, J, O⟩ := ob I
   refine lk co106 ((ok_impl_wordByte F) b.enter0  J) ?_
   rintro ad ae ⟨o, rfl, q⟩
   have s := (b.c0 q).t0
   refine lv (rv_not rfl) (nq (wcc O rfl (fun R d => ?_) (fun R d => ?_)))
   ·refine sr (lv (rv_assign (v := .bool false) rfl) (nq (wc_ret (qe_block_ret (qe_then_ret (qe_then_ret ?_))))))
    cases oi d
    cases G _ rfl
    refine qe_block_ret (qe_then_ret ?_)
    cases oi i
    refine qe_then_ret ?_
    cases oi a
    exact ey results59 ⟨o, rfl, s⟩
   refine wc_skip (qe_block (qg (lv (rv_add_to rfl rfl (w64_succ hi20 f)) (mv rfl (wl_nil ?_)))))
   cases oi d
   exact qd ⟨_, rfl, o, rfl, s, (c.trans q.le)⟩
  rintro l _ C S ⟨m, rfl, b, c⟩
  subst S
  refine sr (lv (rv_lss rfl rfl) (ns (wc_cond_f rfl (decide_eq_false (by omega)) (wc_exit (qe_then_exit (qe_then_exit (qe_block_eq ?_)))))))
  cases oi i
  exact qd ⟨_, m, rfl, rfl, b, c⟩
 rintro _ w8 ⟨s5, K6, rfl, rfl, x, ai⟩
 have a := elim_l a
 refine qr (mv rfl (lv (rv_slen underlying9 rfl) ?_))
 obtain ⟨aj, T, U⟩ := ob a
 refine lk co58 ((ok_impl_within F) x.enter0 (rng_nat f) (by decide : rng64 1) (by decide : rng64 12) T) ?_
 rintro ak al ⟨V, rfl, W⟩
 have X := (x.c0 W).t0
 refine av rfl (nq (wc_ret ?_))
 cases oi U
 exact ey results59 ⟨V, rfl, X⟩

set_option maxHeartbeats 2000000 in
theorem ok_impl_wordsAscend {p0_list : List Str} {r : Bool} (hS : SH w K [] w K []) (l : SliceAt tStr K A a b p0_list) (hm : M.impl_wordsAscend F p0_list = some r) :
  Calls prog 57 #[.slice A a b] w fun e w' => ∃ K', e = .returned (.bool r) ∧ SH w K [] w' K' [] := by
 rw [M.impl_wordsAscend] at hm
 refine ci func57 rfl ntmps57 (sr (lv (rv_assign (v := .bool false) rfl) (nsr (mv rfl (lv (rv_len (t := tStr) underlying23 rfl l) (lv (rv_move (v := .int .i64 0) rfl) (nq ?_)))))))
 obtain ⟨J, O, m⟩ := ob hm
 refine wc_cutg (IE J w K [] K [] []) ?_ ?_
 ·refine wc_block ?_
  obtain ⟨aA, R, D⟩ := ob O
  refine qf (fun (q : Nat) (G : Unit) => IV w K [] K [(0, .slice A a b), (5, .slice A a b), (6, .int .i64 (p0_list.length : Int)), (7, .int .i64 ((q : Nat) : Int))] []) R ⟨K, rfl, hS, kr⟩ ?_ ?_
  ·rintro q G _ S aB hi23 T U ⟨s, rfl, f, i⟩
   refine sr (lv (rv_lss rfl rfl) (ns (wc_cond_t rfl (decide_eq_true (by omega)) (wc_skip (qe_seq (wc_seq (wc_block (sr (mv rfl ?_)))))))))
   obtain ⟨V, W, X⟩ := ob T
   refine li underlying23 tf9 (l.mono i) W fun Y aa aC ab ac => ?_
   obtain ⟨rfl, ad⟩ := ab
   have ae : AtK _ Y aa [sv V] := ac
   refine lv (rv_load1 tf9 rfl f (ae 0 _ rfl)) (av rfl (av rfl (ns ?_)))
   obtain ⟨af, ag, ah⟩ := ob X
   refine wc_cutg (IV w K [] s [(0, .slice A a b), (5, .slice A a b), (6, .int .i64 (p0_list.length : Int)), (7, .int .i64 ((q : Nat) : Int)), (27, .bool af)] []) ?_ ?_
   ·refine wc_region (mv rfl ?_)
    obtain ⟨aD, ai, aj⟩ := ob ag
    refine lk co59 ((ok_impl_WordOk F) f.enter0 ad ai) ?_
    rintro aE aF ⟨x, rfl, k⟩
    have o := (f.c0 k).t0
    refine lv (rv_not rfl) (mv rfl (bt aj (fun c y => ?_) (fun c y => ?_)))
    ·refine lu c (lu c (lu c (wl_un (uu rfl rfl) rfl (wl_un (uu rfl rfl) rfl (wl_un (uu rfl rfl) rfl (wl_un (uu rfl rfl) rfl (wl_un (uu rfl rfl) rfl (wl_un (uu rfl rfl) rfl (wl_un (uu rfl rfl) rfl ?_)))))))))
     refine lu c (lv (rv_pick_t (v := .bool true) rfl c rfl) (wl_nil ?_))
     cases oi y
     exact qd ⟨x, rfl, o, k.le⟩
    refine lg c (rv_move rfl) (lg c (rv_gtr rfl rfl) (lg c (rv_move rfl) (bt y (fun d B => ?_) (fun d B => ?_))))
    ·refine lg d (rv_move rfl) (lg d (rv_move rfl) (lg d (rv_sub rfl rfl) ?_))
     obtain ⟨ak, al, am⟩ := ob B
     refine wl_indexAddr (t := tStr) (wg rfl rfl d) rfl underlying23 tf9 rfl rfl (l.mono (i.trans k.le)) al fun an ao aG ap aq => ?_
     obtain ⟨rfl, aH⟩ := ap
     have ar : AtK _ an ao [sv ak] := aq
     refine lg d (rv_load1 tf9 rfl o (ar 0 _ rfl)) (lg d (rv_move rfl) (lg d (rv_sgeq rfl rfl) (lg c (rv_pick_t rfl d rfl) (lv (rv_pick_f rfl c rfl) (wl_nil ?_)))))
     cases oi am
     exact qd ⟨x, rfl, o, k.le⟩
    iterate 7 refine lu d ?_
    refine lg c (rv_pick_f (v := .bool false) rfl d rfl) (lv (rv_pick_f rfl c rfl) (wl_nil ?_))
    cases oi B
    exact qd ⟨x, rfl, o, k.le⟩
   rintro _ aI ⟨H, rfl, I, au⟩
   refine qe_seq (wcc ah rfl (fun aw C => ?_) (fun aw C => ?_))
   ·refine sr (lv (rv_assign (v := .bool false) rfl) (nq (wc_ret (qe_block_ret (qe_then_ret (qe_then_ret ?_))))))
    cases oi C
    cases U _ rfl
    refine qe_block_ret (qe_then_ret ?_)
    cases oi D
    refine qe_then_ret ?_
    cases oi m
    exact ey results57 ⟨H, rfl, I⟩
   refine wc_skip (qe_block (qg (lv (rv_add_to rfl rfl (w64_succ hi23 (SliceAt.max l))) (mv rfl (wl_nil ?_)))))
   cases oi C
   exact qd ⟨_, rfl, H, rfl, I, (i.trans au)⟩
  rintro G _ S ax ⟨s, rfl, f, i⟩
  subst ax
  refine sr (lv (rv_lss rfl rfl) (ns (wc_cond_f rfl (decide_eq_false (by omega)) (wc_exit (qe_then_exit (qe_then_exit (qe_block_eq ?_)))))))
  cases oi D
  exact qe_mid' ⟨_, s, rfl, rfl, f, i⟩ trivial
 rintro _ aJ ⟨s8, K9, rfl, rfl, az, aL⟩
 have m := elim_l m
 refine qr (lv (rv_assign (v := .bool true) rfl) (nq (wc_ret ?_)))
 cases oi m
 exact ey results57 ⟨K9, rfl, az⟩

theorem ok_stringslite_HasSuffix {p0_s : Str} {p1_suffix : Str} {r : Bool} (hS : SH w K [] w K []) (f : p0_s.length ≤ maxLen) (i : p1_suffix.length ≤ maxLen) (hm : M.stringslite_HasSuffix F p0_s p1_suffix = some r) :
  Calls prog 160 #[sv p0_s, sv p1_suffix] w fun e w' => ∃ K', e = .returned (.bool r) ∧ SH w K [] w' K' [] := by
 rw [M.stringslite_HasSuffix] at hm
 refine ci func160 rfl ntmps160 (sr (lv (rv_assign (v := .bool false) rfl) (nr (mv rfl (lv (rv_slen underlying9 rfl) (mv rfl (lv (rv_slen underlying9 rfl) (lv (rv_geq rfl rfl) (mv rfl ?_)))))))))
 refine bt hm (fun a b => ?_) (fun a b => ?_)
 ·refine lg a (rv_move rfl) (lg a (rv_move rfl) (lg a (rv_slen underlying9 rfl) (lg a (rv_move rfl) (lg a (rv_slen underlying9 rfl) (lg a (rv_sub rfl rfl) ?_)))))
  obtain ⟨k, c, d⟩ := ob b
  refine lg a (rv_ssl_l underlying9 rfl rfl c) (lg a (rv_move rfl) (lg a (rv_seql rfl rfl) (lv (rv_pick_t rfl a rfl) (av rfl (nq (wc_ret ?_))))))
  cases oi d
  exact ey results160 ⟨K, rfl, hS⟩
 iterate 9 refine lu a ?_
 refine lv (rv_pick_f (v := .bool false) rfl a rfl) (av rfl (nq (wc_ret ?_)))
 cases oi b
 exact ey results160 ⟨K, rfl, hS⟩

theorem ok_strings_HasSuffix {p0_s : Str} {p1_suffix : Str} {r : Bool} (hS : SH w K [] w K []) (a : p0_s.length ≤ maxLen) (b : p1_suffix.length ≤ maxLen) (hm : M.strings_HasSuffix F p0_s p1_suffix = some r) :
  Calls prog 107 #[sv p0_s, sv p1_suffix] w fun e w' => ∃ K', e = .returned (.bool r) ∧ SH w K [] w' K' [] := by
 rw [M.strings_HasSuffix] at hm
 refine ci func107 rfl ntmps107 (sr (lv (rv_assign (v := .bool false) rfl) (nr (mv rfl (mv rfl ?_)))))
 obtain ⟨l, c, d⟩ := ob hm
 refine lk co160 ((ok_stringslite_HasSuffix F) hS.enter0 a b c) ?_
 rintro m o ⟨f, rfl, i⟩
 have k := (hS.c0 i).t0
 refine av rfl (nq (wc_ret ?_))
 cases oi d
 exact ey results107 ⟨f, rfl, k⟩

set_option maxHeartbeats 2000000 in
theorem ok_impl_StemOf {p0_s : Str} {r : Str} (hS : SH w K [] w K []) (D : p0_s.length ≤ maxLen) (hm : M.impl_StemOf F p0_s = some r) :
  Calls prog 60 #[sv p0_s] w fun e w' => ∃ K', e = .returned (sv r) ∧ SH w K [] w' K' [] ∧ r.length ≤ maxLen := by
 rw [M.impl_StemOf] at hm
 refine ci func60 rfl ntmps60 (sr (lv (rv_assign (v := sv []) rfl) (nsr (mv rfl ?_))))
 obtain ⟨r2, ab, h4⟩ := ob hm
 refine lk co59 ((ok_impl_WordOk F) hS.enter0 D ab) ?_
 rintro e8 w6 ⟨i, rfl, ad⟩
 have G := (hS.c0 ad).t0
 refine lv (rv_not rfl) (nq (wcc h4 rfl (fun ae l => ?_) (fun ae l => ?_)))
 ·refine sr (lv (rv_assign (v := sv []) rfl) (nq (rr ?_)))
  cases oi l
  exact ey results60 ⟨i, rfl, G, (by decide : ([] : Str).length ≤ maxLen)⟩
 refine wc_skip (qs (sr (lv (rv_assign (v := .bool true) rfl) (nq ?_))))
 obtain ⟨H, af, ag⟩ := ob l
 refine wc_cutg (IW w K [] i [(0, sv H)] [] (H.length ≤ maxLen)) ?_ ?_
 ·refine wc_block ?_
  obtain ⟨aZ, ah, ai⟩ := ob af
  refine qw (fun (k : Str × Bool) => IW w K [] i [(0, sv k.1), (3, .bool k.2)] [] (k.1.length ≤ maxLen)) ah ⟨i, rfl, G, kr, D⟩ ?_
  rintro k _ a0 a1 aj ak ⟨al, rfl, I, J, O⟩
  refine wc_seq (sr (mv rfl (nq (wcc aj rfl (fun am m => ?_) (fun am m => ?_)))))
  ·refine wc_skip (qe_seq (wc_block (sr (lv (rv_assign (v := .bool false) rfl) (nr (bw [[105, 110, 103], [101, 100], [101, 115], [108, 121], [115]] underlying23 tf9 I fun R a2 o an q ao => (lv (rv_len (t := tStr) underlying23 rfl q) (lv (rv_move (v := .int .i64 0) rfl) (nq ?_)))))))))
   obtain ⟨s, ap, aq⟩ := ob m
   refine wc_cutg (IW w K [] o [(0, sv s.1), (3, .bool s.2)] [] (s.1.length ≤ maxLen)) ?_ ?_
   ·refine wc_block ?_
    obtain ⟨a3, ar, S⟩ := ob ap
    have au := ao.sb (sd sz)
    refine qf (fun (x : Nat) (b : Str × Bool) => IW w K [] o [(0, sv b.1), (3, .bool b.2), (10, .slice R 5 5), (11, .int .i64 (([([105, 110, 103] : Str), ([101, 100] : Str), ([101, 115] : Str), ([108, 121] : Str), ([115] : Str)] : List Str).length : Int)), (12, .int .i64 ((x : Nat) : Int))] [] (b.1.length ≤ maxLen)) ar ⟨o, rfl, au, kr, O⟩ ?_ ?_
    ·rintro x b _ aw a4 hi60 ax ay ⟨y, rfl, c, d, f⟩
     refine sr (lv (rv_lss rfl rfl) (ns (wc_cond_t rfl (decide_eq_true (by omega)) (wc_skip (qe_seq (wc_seq (wc_block (sr ?_))))))))
     obtain ⟨T, az, aA⟩ := ob ax
     refine li underlying23 tf9 (q.mono d) az fun aB aC a5 aD aE => ?_
     obtain ⟨rfl, aF⟩ := aD
     have aG : AtK _ aB aC [sv T] := aE
     refine lv (rv_load1 tf9 rfl c (aG 0 _ rfl)) (av rfl (ns ?_))
     obtain ⟨aH, aI, aJ⟩ := ob aA
     refine wc_cutg (IV w K [] y [(0, sv b.1), (3, .bool b.2), (5, sv T), (10, .slice R 5 5), (11, .int .i64 (([([105, 110, 103] : Str), ([101, 100] : Str), ([101, 115] : Str), ([108, 121] : Str), ([115] : Str)] : List Str).length : Int)), (12, .int .i64 ((x : Nat) : Int)), (26, .bool aH)] []) ?_ ?_
     ·refine wc_region (mv rfl (mv rfl ?_))
      obtain ⟨a6, aK, aL⟩ := ob aI
      refine lk co107 ((ok_strings_HasSuffix F) c.enter0 f aF aK) ?_
      rintro a7 a8 ⟨U, rfl, A⟩
      have V := (c.c0 A).t0
      refine mv rfl (bt aL (fun a B => ?_) (fun a B => ?_))
      ·refine lg a (rv_move rfl) (lg a (rv_slen underlying9 rfl) (lg a (rv_move rfl) (lg a (rv_slen underlying9 rfl) (lg a (rv_sub rfl rfl) (lg a (rv_geq rfl rfl) (lv (rv_pick_t rfl a rfl) (wl_nil ?_)))))))
       cases oi B
       exact qd ⟨U, rfl, V, A.le⟩
      iterate 6 refine lu a ?_
      refine lv (rv_pick_f (v := .bool false) rfl a rfl) (wl_nil ?_)
      cases oi B
      exact qd ⟨U, rfl, V, A.le⟩
     rintro _ a9 ⟨W, rfl, X, Y⟩
     refine qe_seq (wcc aJ rfl (fun aM C => ?_) (fun aM C => ?_))
     ·refine sr (mv rfl (mv rfl (lv (rv_slen underlying9 rfl) (mv rfl (lv (rv_slen underlying9 rfl) (lv (rv_sub rfl rfl) ?_))))))
      obtain ⟨ba, aa, aN⟩ := ob C
      refine lv (rv_ssl_h underlying9 rfl rfl aa) (av rfl (nr (lv (rv_assign (v := .bool true) rfl) (nq (wc_exit (qe_block_ne rfl (qe_then_exit (qe_then_exit ?_))))))))
      cases oi aN
      cases ay _ rfl
      refine qe_block_eq ?_
      cases oi S
      exact qd ⟨W, rfl, X, (d.trans Y), (len_sub f aa)⟩
     refine wc_skip (qe_block (qg (lv (rv_add_to rfl rfl (w64_succ hi60 (SliceAt.max q))) (mv rfl (wl_nil ?_)))))
     cases oi C
     exact qd ⟨_, rfl, W, rfl, X, (d.trans Y), f⟩
    rintro b _ aw aO ⟨y, rfl, c, d, f⟩
    subst aO
    refine sr (lv (rv_lss rfl rfl) (ns (wc_cond_f rfl (decide_eq_false (by omega)) (wc_exit (qe_then_exit (qe_then_exit (qe_block_eq ?_)))))))
    cases oi S
    exact qd ⟨y, rfl, c, d, f⟩
   rintro _ bb ⟨aP, rfl, aQ, aR, aS⟩
   refine qe_block ?_
   cases oi aq
   exact qd ⟨_, rfl, aP, rfl, aQ, ((J.trans an).trans aR), aS⟩
  refine wc_exit (qe_then_exit (qe_then_exit ?_))
  cases oi m
  cases ak _ rfl
  refine qe_block_eq ?_
  cases oi ai
  exact qd ⟨al, rfl, I, J, O⟩
 rintro _ bc ⟨aT, rfl, aU, bd, aV⟩
 refine qr (mv rfl (av rfl (nq (wc_ret ?_))))
 cases oi ag
 exact ey results60 ⟨aT, rfl, aU, aV⟩

theorem ok_slices_Index_string {p0_s : List Str} {p1_v : Str} {r : Int} (hS : SH w K [] w K []) (d : SliceAt tStr K A a b p0_s) (Y : p1_v.length ≤ maxLen) (hm : M.slices_Index_string F p0_s p1_v = some r) :
  Calls prog 108 #[.slice A a b, sv p1_v] w fun e w' => ∃ K', e = .returned (.int .i64 r) ∧ SH w K [] w' K' [] ∧ rng64 r := by
 rw [M.slices_Index_string] at hm
 refine ci func108 rfl ntmps108 (sr (lv (rv_assign (v := .int .i64 0) rfl) (nsr (mv rfl (lv (rv_len (t := tStr) underlying23 rfl d) (lv (rv_move (v := .int .i64 0) rfl) (nq ?_)))))))
 obtain ⟨s, x, f⟩ := ob hm
 refine wc_cutg (IE s w K [] K [] []) ?_ ?_
 ·refine wc_block ?_
  obtain ⟨aa, y, m⟩ := ob x
  refine qf (fun (o : Nat) (q : Unit) => IV w K [] K [(0, .slice A a b), (1, sv p1_v), (7, .int .i64 (p0_s.length : Int)), (8, .int .i64 ((o : Nat) : Int))] []) y ⟨K, rfl, hS, kr⟩ ?_ ?_
  ·rintro o q _ B ab hi24 C D ⟨i, rfl, c, k⟩
   refine sr (lv (rv_lss rfl rfl) (ns (wc_cond_t rfl (decide_eq_true (by omega)) (wc_skip (qe_seq (wc_seq (wc_block (sr (mv rfl (av rfl (nr (mv rfl ?_))))))))))))
   refine mv rfl (mv rfl ?_)
   obtain ⟨G, H, I⟩ := ob C
   refine li underlying23 tf9 (d.mono k) H fun J O ac R S => ?_
   obtain ⟨rfl, ad⟩ := R
   have T : AtK _ J O [sv G] := S
   refine lv (rv_load1 tf9 rfl c (T 0 _ rfl)) (lv (rv_seql rfl rfl) (nq (wcc I rfl (fun U l => ?_) (fun U l => ?_))))
   ·refine sr (mv rfl (av rfl (nq (wc_ret (qe_block_ret (qe_then_ret (qe_then_ret ?_)))))))
    cases oi l
    cases D _ rfl
    refine qe_block_ret (qe_then_ret ?_)
    cases oi m
    refine qe_then_ret ?_
    cases oi f
    exact ey results108 ⟨i, rfl, c, (rng_idx hi24 (SliceAt.max d))⟩
   refine wc_skip (qe_block (qg (lv (rv_add_to rfl rfl (w64_succ hi24 (SliceAt.max d))) (mv rfl (wl_nil ?_)))))
   cases oi l
   exact qd ⟨_, rfl, i, rfl, c, k⟩
  rintro q _ B V ⟨i, rfl, c, k⟩
  subst V
  refine sr (lv (rv_lss rfl rfl) (ns (wc_cond_f rfl (decide_eq_false (by omega)) (wc_exit (qe_then_exit (qe_then_exit (qe_block_eq ?_)))))))
  cases oi m
  exact qe_mid' ⟨_, i, rfl, rfl, c, k⟩ trivial
 rintro _ ae ⟨s9, W, rfl, rfl, X, ag⟩
 have f := elim_l f
 refine qr (lv (rv_assign (v := .int .i64 (-1)) rfl) (nq (wc_ret ?_)))
 cases oi f
 exact ey results108 ⟨W, rfl, X, (by decide : rng64 (-1))⟩

theorem ok_slices_Contains_string {p0_s : List Str} {p1_v : Str} {r : Bool} (hS : SH w K [] w K []) (c : SliceAt tStr K A a b p0_s) (d : p1_v.length ≤ maxLen) (hm : M.slices_Contains_string F p0_s p1_v = some r) :
  Calls prog 61 #[.slice A a b, sv p1_v] w fun e w' => ∃ K', e = .returned (.bool r) ∧ SH w K [] w' K' [] := by
 rw [M.slices_Contains_string] at hm
 refine ci func61 rfl ntmps61 (sr (lv (rv_assign (v := .bool false) rfl) (nr (mv rfl (mv rfl ?_)))))
 obtain ⟨o, f, i⟩ := ob hm
 refine lk co108 ((ok_slices_Index_string F) hS.enter0 c d f) ?_
 rintro q s ⟨k, rfl, l, x⟩
 have m := (hS.c0 l).t0
 refine lv (rv_geq rfl rfl) (av rfl (nq (wc_ret ?_)))
 cases oi i
 exact ey results61 ⟨k, rfl, m⟩

set_option maxHeartbeats 2000000 in
theorem ok_impl_ConfOk {p0_c : GConf} {r : Bool} (hS : SH w K [] w K []) (ae : SliceAt tStr K A a b p0_c.Stops) (U : SliceAt tGSyn K B c d p0_c.Syns) (hm : M.impl_ConfOk F p0_c = some r) :
  Calls prog 19 #[.agg #[.slice A a b, .slice B c d]] w fun e w' => ∃ K', e = .returned (.bool r) ∧ SH w K [] w' K' [] := by
 rw [M.impl_ConfOk] at hm
 refine ci func19 rfl ntmps19 (sr (bx rfl hS fun f b8 aO => ?_))
 have G : SH _ _ _ _ _ [obj f [.slice A a b, .slice B c d] 26] := aO
 refine lv (rv_assign (v := .bool false) rfl) (ns (wc_seq ?_))
 obtain ⟨aP, aQ, aR⟩ := ob hm
 refine wc_cutg (IV w K [] K [(1, pt f), (22, .bool aP)] [obj f [.slice A a b, .slice B c d] 26]) ?_ ?_
 ·refine wc_region (fa ff26_0 rfl (lv (rv_loadm1 tf23 rfl m0 G rfl) (lv (rv_len (t := tStr) underlying23 rfl ae) (lv (rv_gtr rfl rfl) (mv rfl (bt aQ (fun i af => ?_) (fun i af => ?_)))))))
  ·refine lu i (lu i (lu i (lu i (lv (rv_pick_t (v := .bool true) rfl i rfl) (mv rfl (lu rfl (lu rfl (lu rfl (lu rfl ?_)))))))))
   refine lv (rv_pick_t (v := .bool true) rfl rfl rfl) (wl_nil ?_)
   cases oi af
   exact qd ⟨K, rfl, G, kr⟩
  refine lg i (rv_fieldAddr ff26_0 rfl) (lg i (rv_loadm1 tf23 rfl m0 G rfl) ?_)
  obtain ⟨b9, aS, aT⟩ := ob af
  refine wl_call (wg rfl rfl i) rfl (rt_call (vs := [.slice A a b]) co57 rfl) ((ok_impl_wordsAscend F) G.enter0 ae aS) ?_
  rintro ca cb ⟨aE, rfl, V⟩
  refine ⟨_, rfl, ?_⟩
  have ag := (G.c0 V).t1
  refine lg i (rv_not rfl) (lv (rv_pick_f rfl i rfl) (mv rfl (bt aT (fun k ah => ?_) (fun k ah => ?_))))
  ·refine lu k (lu k (lu k (lu k (lv (rv_pick_t (v := .bool true) rfl k rfl) (wl_nil ?_)))))
   cases oi ah
   exact qd ⟨aE, rfl, ag, V.le⟩
  refine lg k (rv_fieldAddr ff26_1 rfl) (lg k (rv_loadm1 tf24 rfl m0 ag rfl) (lg k (rv_len (t := tGSyn) underlying24 rfl (U.mono V.le)) (lg k (rv_gtr rfl rfl) (lv (rv_pick_f rfl k rfl) (wl_nil ?_)))))
  cases oi ah
  exact qd ⟨aE, rfl, ag, V.le⟩
 rintro _ cc ⟨W, rfl, ai, X⟩
 refine qe_seq (wcc aR rfl (fun aU aj => ?_) (fun aU aj => ?_))
 ·refine sr (lv (rv_assign (v := .bool false) rfl) (nq (rr ?_)))
  cases oi aj
  exact ey results19 ⟨W, rfl, ai.s⟩
 refine wc_skip (qs (sr (fa ff26_1 rfl (lv (rv_loadm1 tf24 rfl m0 ai rfl) (lv (rv_len (t := tGSyn) underlying24 rfl (U.mono X)) (lv (rv_move (v := .int .i64 0) rfl) (nq ?_)))))))
 obtain ⟨aV, aW, H⟩ := ob aj
 refine wc_cutg (IE aV w K [] W [] []) ?_ ?_
 ·refine wc_block ?_
  obtain ⟨cd, aX, ak⟩ := ob aW
  refine qf (fun (D : Nat) (aF : Unit) => IV w K [] W [(1, pt f), (24, .slice B c d), (25, .int .i64 (p0_c.Syns.length : Int)), (26, .int .i64 ((D : Nat) : Int))] [obj f [.slice A a b, .slice B c d] 26]) aX ⟨W, rfl, ai, kr⟩ ?_ ?_
  ·rintro D aF _ aY ce hi53 aZ aG ⟨am, rfl, Y, I⟩
   refine sr (lv (rv_lss rfl rfl) (ns (wc_cond_t rfl (decide_eq_true (by omega)) (wc_skip (qe_seq (wc_seq (wc_block (sr ?_))))))))
   obtain ⟨s, a0, a1⟩ := ob aZ
   refine li underlying24 tf96 (U.mono (X.trans I)) a0 fun a2 a3 cf a4 a5 => ?_
   obtain ⟨x, y, C, rfl, J, an⟩ := a4
   have a6 : AtK _ a2 a3 [.slice x y C, sv s.To] := a5
   refine lv (rv_loadS (cs := [.slice x y C, sv s.To]) tf96 rfl Y a6 rfl) (al tf96 Y fun ao cg a7 => ?_)
   have a8 : SH _ _ _ _ _ [obj ao [.slice none 0 0, sv []] 96, _] := a7
   refine ls [.slice x y C, sv s.To] (.agg #[.slice x y C, sv s.To]) tf96 a8 fun ch aH => (ns (wc_seq ?_))
   obtain ⟨a9, ba, bb⟩ := ob a1
   refine wc_cutg (IV w K [] am [(1, pt f), (4, pt ao), (24, .slice B c d), (25, .int .i64 (p0_c.Syns.length : Int)), (26, .int .i64 ((D : Nat) : Int)), (48, .bool a9)] [obj f [.slice A a b, .slice B c d] 26, obj ao [.slice x y C, sv s.To] 96]) ?_ ?_
   ·refine wc_quiet mixed (by kernel_rfl) aH (kv (rv_fieldAddr ff96_0 rfl) (kh (rq_loadm1 tf23 rfl m0 rfl) (kv (rv_len (t := tStr) underlying23 rfl J) ?_)))
    obtain ⟨cj, bc, bd⟩ := ob ba
    refine kc co58 (fun _ _ be ck => (ok_impl_within F) be.enter0 J.rn (by decide : rng64 1) (by decide : rng64 3) bc) (kv (rv_not rfl) (km rfl (bt bd (fun l ap => ?_) (fun l ap => ?_))))
    ·refine kn l (kn l (kn l (kn l (kv (rv_pick_t (v := .bool true) rfl l rfl) (km rfl ?_)))))
     iterate 6 refine qv rfl rfl rfl rfl ?_
     refine kv (rv_pick_t (v := .bool true) rfl rfl rfl) (wq_nil ?_)
     rintro cl ⟨bf, bg, bh⟩
     cases oi ap
     exact qd ⟨bf, rfl, bg.f1, bh⟩
    refine kg l (rv_fieldAddr ff96_1 rfl) (kgh l (rq_loadm1 tf9 rfl m0 rfl) ?_)
    obtain ⟨cm, bi, bj⟩ := ob ap
    refine kcg l co59 (fun _ _ bk cn => (ok_impl_WordOk F) bk.enter0 an bi) (kg l (rv_not rfl) (kv (rv_pick_f rfl l rfl) (km rfl (bt bj (fun q aq => ?_) (fun q aq => ?_)))))
    ·iterate 6 refine kn q ?_
     refine kv (rv_pick_t (v := .bool true) rfl q rfl) (wq_nil ?_)
     rintro cp ⟨bl, bm, bn⟩
     cases oi aq
     exact qd ⟨bl, rfl, bm.f1, bn⟩
    refine kg q (rv_fieldAddr ff96_1 rfl) (kgh q (rq_loadm1 tf9 rfl m0 rfl) ?_)
    obtain ⟨cq, aI, bo⟩ := ob aq
    refine kdg q co60 (fun _ _ bp cr => (ok_impl_StemOf F) bp.enter0 an aI) ?_
    obtain ⟨_, _, _, ⟨_, _, _, ct⟩, _⟩ := (ok_impl_StemOf F) aH.enter0 an aI []
    refine kg q (rv_fieldAddr ff96_1 rfl) (kgh q (rq_loadm1 tf9 rfl m0 rfl) (kg q (rv_sneq rfl rfl) (kv (rv_pick_f rfl q rfl) (wq_nil ?_))))
    rintro cu ⟨bq, br, bs⟩
    cases oi bo
    exact qd ⟨bq, rfl, br.f1, bs⟩
   rintro _ cv ⟨aa, rfl, ar, O⟩
   refine qe_seq (wcc bb rfl (fun bu au => ?_) (fun bu au => ?_))
   ·refine sr (lv (rv_assign (v := .bool false) rfl) (nq (rr (qe_block_ret (qe_then_ret (qe_then_ret ?_))))))
    cases oi au
    cases aG _ rfl
    refine qe_block_ret (qe_then_ret ?_)
    cases oi ak
    refine qe_then_ret ?_
    cases oi H
    exact ey results19 ⟨aa, rfl, ar.s⟩
   refine wc_skip (qr (fa ff96_0 rfl (lv (rv_loadm1 tf23 rfl m1 ar rfl) (lv (rv_len (t := tStr) underlying23 rfl (J.mono O)) (lv (rv_move (v := .int .i64 0) rfl) (nq ?_))))))
   obtain ⟨bv, bz, ab⟩ := ob au
   refine wc_cutg (IE bv w K [] aa [(1, pt f), (24, .slice B c d), (25, .int .i64 (p0_c.Syns.length : Int)), (26, .int .i64 ((D : Nat) : Int))] [obj f [.slice A a b, .slice B c d] 26]) ?_ ?_
   ·refine wc_block ?_
    obtain ⟨cw, bA, aJ⟩ := ob bz
    have bB := ar.sb (sk (sd sz))
    refine qf (fun (aw : Nat) (aK : Unit) => IV w K [] aa [(1, pt f), (24, .slice B c d), (25, .int .i64 (p0_c.Syns.length : Int)), (26, .int .i64 ((D : Nat) : Int)), (50, .slice x y C), (51, .int .i64 (s.From.length : Int)), (52, .int .i64 ((aw : Nat) : Int))] [obj f [.slice A a b, .slice B c d] 26]) bA ⟨aa, rfl, bB, kr⟩ ?_ ?_
    ·rintro aw aK _ bC cx hi147 bD bE ⟨ax, rfl, R, S⟩
     refine sr (lv (rv_lss rfl rfl) (ns (wc_cond_t rfl (decide_eq_true (by omega)) (wc_skip (qe_seq (wc_seq (wc_block (sr ?_))))))))
     obtain ⟨ay, bF, bG⟩ := ob bD
     refine li underlying23 tf9 (J.mono (O.trans S)) bF fun bH bI cy bJ bK => ?_
     obtain ⟨rfl, az⟩ := bJ
     have bL : AtK _ bH bI [sv ay] := bK
     refine lv (rv_load1 tf9 rfl R (bL 0 _ rfl)) (av rfl (ns ?_))
     obtain ⟨bM, bN, bO⟩ := ob bG
     refine wc_cutg (IV w K [] ax [(1, pt f), (24, .slice B c d), (25, .int .i64 (p0_c.Syns.length : Int)), (26, .int .i64 ((D : Nat) : Int)), (50, .slice x y C), (51, .int .i64 (s.From.length : Int)), (52, .int .i64 ((aw : Nat) : Int)), (70, .bool bM)] [obj f [.slice A a b, .slice B c d] 26]) ?_ ?_
     ·refine wc_region (mv rfl ?_)
      obtain ⟨cz, bP, bQ⟩ := ob bN
      refine lk co59 ((ok_impl_WordOk F) R.enter0 az bP) ?_
      rintro cA cB ⟨bR, rfl, T⟩
      have aA := (R.c0 T).t1
      refine lv (rv_not rfl) (mv rfl (bt bQ (fun m aB => ?_) (fun m aB => ?_)))
      ·refine lu m (lu m (lu m (lu m (lv (rv_pick_t (v := .bool true) rfl m rfl) (mv rfl (lu rfl (lu rfl (lu rfl (lu rfl ?_)))))))))
       refine lv (rv_pick_t (v := .bool true) rfl rfl rfl) (wl_nil ?_)
       cases oi aB
       exact qd ⟨bR, rfl, aA, T.le⟩
      refine lg m (rv_move rfl) ?_
      obtain ⟨cC, bS, bT⟩ := ob aB
      refine wl_call (wg rfl rfl m) rfl (rt_call (vs := [sv ay]) co60 rfl) ((ok_impl_StemOf F) aA.enter0 az bS) ?_
      rintro cD cE ⟨bU, rfl, ac, cF⟩
      refine ⟨_, rfl, ?_⟩
      have ad := (aA.c0 ac).t1
      refine lg m (rv_move rfl) (lg m (rv_sneq rfl rfl) (lv (rv_pick_f rfl m rfl) (mv rfl (bt bT (fun o aC => ?_) (fun o aC => ?_)))))
      ·refine lu o (lu o (lu o (lu o (lv (rv_pick_t (v := .bool true) rfl o rfl) (wl_nil ?_)))))
       cases oi aC
       exact qd ⟨bU, rfl, ad, (T.le.trans ac.le)⟩
      refine lg o (rv_fieldAddr ff26_0 rfl) (lg o (rv_loadm1 tf23 rfl m0 ad rfl) (lg o (rv_move rfl) ?_))
      obtain ⟨cG, bV, bW⟩ := ob aC
      refine wl_call (wg rfl rfl o) rfl (rt_call (vs := [.slice A a b, sv ay]) co61 rfl) ((ok_slices_Contains_string F) ad.enter0 (SliceAt.mono (((((X.trans I).trans O).trans S).trans T.le).trans ac.le) ae) az bV) ?_
      rintro cH cI ⟨bX, rfl, aL⟩
      refine ⟨_, rfl, ?_⟩
      have bY := (ad.c0 aL).t1
      refine lv (rv_pick_f rfl o rfl) (wl_nil ?_)
      cases oi bW
      exact qd ⟨bX, rfl, bY, ((T.le.trans ac.le).trans aL.le)⟩
     rintro _ cJ ⟨aM, rfl, aN, bZ⟩
     refine qe_seq (wcc bO rfl (fun b0 aD => ?_) (fun b0 aD => ?_))
     ·refine sr (lv (rv_assign (v := .bool false) rfl) (nq (wc_ret (qe_block_ret (qe_then_ret (qe_then_ret ?_))))))
      cases oi aD
      cases bE _ rfl
      refine qe_block_ret (qe_then_ret ?_)
      cases oi aJ
      refine qe_block_ret (qe_then_ret (qe_then_ret ?_))
      cases oi ab
      cases aG _ rfl
      refine qe_block_ret (qe_then_ret ?_)
      cases oi ak
      refine qe_then_ret ?_
      cases oi H
      exact ey results19 ⟨aM, rfl, aN.s⟩
     refine wc_skip (qe_block (qg (lv (rv_add_to rfl rfl (w64_succ hi147 (SliceAt.max (J.mono O)))) (mv rfl (wl_nil ?_)))))
     cases oi aD
     exact qd ⟨_, rfl, aM, rfl, aN, (S.trans bZ)⟩
    rintro aK _ bC b1 ⟨ax, rfl, R, S⟩
    subst b1
    refine sr (lv (rv_lss rfl rfl) (ns (wc_cond_f rfl (decide_eq_false (by omega)) (wc_exit (qe_then_exit (qe_then_exit (qe_block_eq ?_)))))))
    cases oi aJ
    exact qd ⟨_, ax, rfl, rfl, R, S⟩
   rintro _ cK ⟨cL, b2, rfl, rfl, b3, b4⟩
   have ab := elim_l ab
   refine qe_block (qg (lv (rv_add_to rfl rfl (w64_succ hi53 (SliceAt.max (U.mono X)))) (mv rfl (wl_nil ?_))))
   cases oi ab
   exact qd ⟨_, rfl, b2, rfl, b3, ((I.trans O).trans b4)⟩
  rintro aF _ aY b5 ⟨am, rfl, Y, I⟩
  subst b5
  refine sr (lv (rv_lss rfl rfl) (ns (wc_cond_f rfl (decide_eq_false (by omega)) (wc_exit (qe_then_exit (qe_then_exit (qe_block_eq ?_)))))))
  cases oi ak
  exact qe_mid' ⟨_, am, rfl, rfl, Y.s, I⟩ trivial
 rintro _ cM ⟨cN, b6, rfl, rfl, b7, cO⟩
 have H := elim_l H
 refine qr (lv (rv_assign (v := .bool true) rfl) (nq (wc_ret ?_)))
 cases oi H
 exact ey results19 ⟨b6, rfl, b7⟩

set_option maxHeartbeats 2000000 in
theorem ok_impl_cloneConf {p0_c : GConf} {r : GConf} (hS : SH w K [] w K []) (aK : SliceAt tStr K A a b p0_c.Stops) (ar : SliceAt tGSyn K B c d p0_c.Syns) (hm : M.impl_cloneConf F p0_c = some r) :
  Calls prog 53 #[.agg #[.slice A a b, .slice B c d]] w fun e w' => ∃ a_1 n_2 c_3 a_5 n_6 c_7 K', e = .returned (.agg #[.slice a_1 n_2 c_3, .slice a_5 n_6 c_7]) ∧ SH w K [] w' K' [tail (.slice a_1 n_2 c_3) 9 1, tail (.slice a_5 n_6 c_7) 96 2] ∧ SliceAt tStr K' a_1 n_2 c_3 r.Stops ∧ SliceAt tGSyn K' a_5 n_6 c_7 r.Syns := by
 rw [M.impl_cloneConf] at hm
 refine ci func53 rfl ntmps53 (sr (bx rfl hS fun g9 bz aM => ?_))
 have aN : SH _ _ _ _ _ [obj g9 [.slice A a b, .slice B c d] 26] := aM
 refine al tf26 aN fun T bA aO => ?_
 have aP : SH _ _ _ _ _ [obj T [.slice none 0 0, .slice none 0 0] 26, _] := aO
 refine nr (b0 tStr underlying23 tf9 aP fun bB bC bD X aQ aD => (fa ff26_0 rfl (lv (rv_loadm1 tf23 rfl m2 aD rfl) ?_)))
 obtain ⟨bE, aR, aS⟩ := ob hm
 refine lp underlying23 tf9 aQ (aK.mono X) aR aD fun Y aa ab bF bG au aT aU => (b0 tGSyn underlying24 tf96 aU fun ac bH aw ad aV aW => (lv (rv_build (cs := #[.slice Y aa ab, .slice ac 0 0]) sp26 tf26 rfl (by kernel_rfl)) (al tf26 aW fun O bI aX => ?_)))
 have aY : SH _ _ _ _ _ [obj O [.slice none 0 0, .slice none 0 0] 26, _, _, _, _] := aX
 refine ls [.slice Y aa ab, .slice ac 0 0] (.agg #[.slice Y aa ab, .slice ac 0 0]) tf26 aY fun bJ aE => (nsr (fa ff26_1 rfl (lv (rv_loadm1 tf24 rfl m4 aE rfl) (lv (rv_len (t := tGSyn) underlying24 rfl (ar.mono ((X.trans au).trans ad))) (lv (rv_move (v := .int .i64 0) rfl) (nq ?_))))))
 obtain ⟨aF, aZ, a0⟩ := ob aS
 refine wc_cutg (fun E' w' => ∃ o q s x y C R, E' = [(2, pt T), (3, pt O)] ∧ SH w K [] w' R [obj T [.slice none 0 0, .slice none 0 0] 26, obj O [.slice o q s, .slice x y C] 26, tail (.slice o q s) 9 1, tail (.slice x y C) 96 2] ∧ KLe aw R ∧ SliceAt tStr R o q s aF.Stops ∧ SliceAt tGSyn R x y C aF.Syns) ?_ ?_
 ·refine wc_block ?_
  obtain ⟨bK, a1, a2⟩ := ob aZ
  have a3 := aE.f1.f2.f2.f3.sb (sk (sk (sk (sk (sd sz)))))
  refine qF (fun (aG : Nat) (ae : GConf) E' w' => ∃ f i k G H I D, E' = [(2, pt T), (3, pt O), (13, .slice B c d), (14, .int .i64 (p0_c.Syns.length : Int)), (15, .int .i64 ((aG : Nat) : Int))] ∧ SH w K [] w' D [obj T [.slice none 0 0, .slice none 0 0] 26, obj O [.slice f i k, .slice G H I] 26, tail (.slice f i k) 9 1, tail (.slice G H I) 96 2] ∧ KLe aw D ∧ SliceAt tStr D f i k ae.Stops ∧ SliceAt tGSyn D G H I ae.Syns) a1 ⟨Y, aa, ab, ac, 0, 0, aw, rfl, a3, kr, (aT.mono ad), aV⟩ ?_ ?_
  ·rintro aG ae _ a4 bL hi84 a5 ⟨f, i, k, G, H, I, D, rfl, af, ag, ax, ay⟩
   refine sr (lv (rv_lss rfl rfl) (ns (wc_cond_t rfl (decide_eq_true (by omega)) (wc_skip (qe_seq (wc_seq (wc_block (sr ?_))))))))
   obtain ⟨l, a6, a7⟩ := ob a5
   refine li underlying24 tf96 (SliceAt.mono (((X.trans au).trans ad).trans ag) ar) a6 fun a8 a9 bM ba bb => ?_
   obtain ⟨U, V, W, rfl, bc, bd⟩ := ba
   have be : AtK _ a8 a9 [.slice U V W, sv l.To] := bb
   refine lv (rv_loadS (cs := [.slice U V W, sv l.To]) tf96 rfl af be rfl) (al tf96 af fun aH bN bf => ?_)
   have bg : SH _ _ _ _ _ [obj aH [.slice none 0 0, sv []] 96, _, _, _, _] := bf
   refine ls [.slice U V W, sv l.To] (.agg #[.slice U V W, sv l.To]) tf96 bg fun bO bh => (nq ?_)
   have ah := bh.drew
   refine wj0 (fun w' => Holds D w' ∧ HasObj aH [.slice U V W, sv l.To] w') (fun w' => HasObj O [.slice f i k, .slice G H I] w') 12 [(1, 10), (1, 11), (1, 12), (10, 11), (10, 12), (11, 12)] mixed ⟨ah.hasK kr, ah.hasObj m0⟩ (fun _ => ah.hasObj (.tail _ (.tail _ (.head _)))) (jv 0 rfl (rv_fieldAddr ff26_1 rfl) (jf 1 rfl (fun _ h => rh_loadm1 tf24 rfl rfl h) (jv 3 rfl (rv_fieldAddr ff96_0 rfl) (jh 4 rfl (fun _ h => rh_loadm1 tf23 rfl rfl h.2) (jv 6 rfl (rv_fieldAddr ff96_1 rfl) (jh 7 rfl (fun _ h => rh_loadm1 tf9 rfl rfl h.2) (j1 2 rfl (b0 tStr underlying23 tf9 ah fun bP bQ bR m bi ai => (jn ⟨ai.hasK m, ai.hasObj m1⟩ (fun _ => ai.hasObj (.tail _ (.tail _ (.tail _ (.head _))))) ?_)))))))))
   refine j1 5 rfl ?_
   obtain ⟨bj, bk, bl⟩ := ob a7
   refine lp underlying23 tf9 bi (bc.mono m) bk ai fun aj ak am bS bT J bm an => (jn ⟨an.hasK (m.trans J), an.hasObj m1⟩ (fun _ => an.hasObj (.tail _ (.tail _ (.tail _ (.head _))))) (jv 8 rfl (rv_build (cs := #[.slice aj ak am, sv l.To]) sp96 tf96 rfl (by kernel_rfl)) (j1 9 rfl (lb tGSyn (.agg #[.slice aj ak am, sv l.To]) [.slice aj ak am, sv l.To] (GSyn.mk bj l.To) underlying24 tf96 ⟨aj, ak, am, rfl, bm, bd⟩ an fun bU bV bW S bn ao => (jn ⟨ao.hasK ((m.trans J).trans S), ao.hasObj m2⟩ (fun _ => ao.hasObj (.tail _ (.tail _ (.tail _ (.tail _ (.head _)))))) (j1 10 rfl ?_))))))
   obtain ⟨bX, bo, bp⟩ := ob bl
   refine lp underlying24 tf96 (ay.mono ((m.trans J).trans S)) bn bo ao.f6 fun az aA aB bY bq ap br aq => (jn ⟨aq.hasK (((m.trans J).trans S).trans ap), aq.hasObj m3⟩ (fun _ => aq.hasObj (.tail _ (.tail _ (.tail _ (.tail _ (.tail _ (.head _))))))) (jv 11 rfl (rv_fieldAddr ff26_1 rfl) (j1 12 rfl (ls [.slice f i k, .slice az aA aB] (.slice az aA aB) tf24 aq.f5 fun bZ aC => (jn ⟨aC.hasK (((m.trans J).trans S).trans ap), aC.hasObj m4⟩ (fun h => nomatch h) (jd (qe_block (qg (lv (rv_add_to rfl rfl (w64_succ hi84 (SliceAt.max (ar.mono ((X.trans au).trans ad))))) ?_)))))))))
   refine mv rfl (wl_nil ?_)
   cases oi bp
   exact qd ⟨f, i, k, az, aA, aB, bq, rfl, aC.f1.f6.f2.f6.s, ((((ag.trans m).trans J).trans S).trans ap), (SliceAt.mono (((m.trans J).trans S).trans ap) ax), br⟩
  rintro ae _ a4 bs ⟨f, i, k, G, H, I, D, rfl, af, ag, ax, ay⟩
  subst bs
  refine sr (lv (rv_lss rfl rfl) (ns (wc_cond_f rfl (decide_eq_false (by omega)) (wc_exit (qe_then_exit (qe_then_exit (qe_block_eq ?_)))))))
  cases oi a2
  exact qd ⟨f, i, k, G, H, I, D, rfl, af, ag, ax, ay⟩
 rintro _ b1 ⟨o, q, s, x, y, C, R, rfl, aI, b2, bu, bv⟩
 refine qr (lv (rv_loadmS (ds := [.slice o q s, .slice x y C]) tf26 rfl m1 aI rfl rfl) (ls [.slice o q s, .slice x y C] (.agg #[.slice o q s, .slice x y C]) tf26 aI fun b3 aJ => (nq (wc_ret ?_))))
 cases oi a0
 exact ez results53 tf26 aJ m0 ⟨o, q, s, x, y, C, R, rfl, aJ.s, bu, bv⟩
end Go.Proofs.YtmkhlppjphodfaaGreatDoor
