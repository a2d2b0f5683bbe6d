/-
 Walks of the functions. Printed by gen.py.
-/
import Derived.Test.YtmkhlppjphodfaaGreatDoorWalkA0
set_option linter.unusedVariables false
set_option linter.unusedSectionVars false
set_option maxRecDepth 100000
namespace Go.Proofs.YtmkhlppjphodfaaGreatDoor
open Go Go.Fk Go.RowKit Tryz
variable (F : Nat) {w : World} {K : KMap} {Z : List Nat} {g1 g2 g3 : Nat} {A B C D G H I J O R S T : Option Addr} {a b c d f i k l m n o p q s v x y aa ab ac ad ae af ag : Nat}
variable [dr : Dr]

theorem ok_impl_IndexNew {p0_c : GConf} {r : GIndex} (hS : SH w K [] w K []) (C : SliceAt tStr K A a b p0_c.Stops) (D : SliceAt tGSyn K B c d p0_c.Syns) (hm : M.impl_IndexNew F p0_c = some r) :
  Calls prog 16 #[.agg #[.slice A a b, .slice B c d]] w fun e w' => ∃ a_1 n_2 c_3 a_5 n_6 c_7 a_9 n_10 c_11 K', e = .returned (.agg #[.slice a_1 n_2 c_3, .slice a_5 n_6 c_7, .slice a_9 n_10 c_11]) ∧ SH w K [] w' K' [tail (.slice a_9 n_10 c_11) 93 3] ∧ SliceAt tStr K' a_1 n_2 c_3 r.Conf.Stops ∧ SliceAt tGSyn K' a_5 n_6 c_7 r.Conf.Syns ∧ SliceAt tGLive K' a_9 n_10 c_11 r.Segs := by
 rw [M.impl_IndexNew] at hm
 refine ci func16 rfl ntmps16 (sr (bx rfl hS fun J aj O => ?_))
 have R : SH _ _ _ _ _ [obj J [.slice A a b, .slice B c d] 26] := O
 refine al tf30 R fun S ak T => ?_
 have v : SH _ _ _ _ _ [obj S [.slice none 0 0, .slice none 0 0, .slice none 0 0] 30, _] := T
 refine nsr (lv (rv_loadmS (ds := [.slice A a b, .slice B c d]) tf26 rfl m1 v rfl rfl) ?_)
 obtain ⟨am, U, V⟩ := ob hm
 refine lk co19 ((ok_impl_ConfOk F) v.enter0 C D U) ?_
 rintro an ao ⟨W, rfl, x⟩
 have f := (v.c0 x).t2
 refine lv (rv_not rfl) (nq (wcc V rfl (fun X y => ?_) (fun X y => ?_)))
 ·refine sr (lv (rv_build (cs := #[.slice none 0 0, .slice none 0 0, .slice none 0 0]) sp30 tf30 rfl (by kernel_rfl)) (ls [.slice none 0 0, .slice none 0 0, .slice none 0 0] (.agg #[.slice none 0 0, .slice none 0 0, .slice none 0 0]) tf30 f fun ap G => (nq (rr ?_))))
  cases oi y
  have Y := G.nil 93 3
  exact ez results16 tf30 G m0 ⟨none, 0, 0, none, 0, 0, none, 0, 0, W, rfl, Y.s, (SliceAt.nil _ _), (SliceAt.nil _ _), (SliceAt.nil _ _)⟩
 refine wc_skip (qr (lv (rv_loadmS (ds := [.slice A a b, .slice B c d]) tf26 rfl m1 f rfl rfl) ?_))
 obtain ⟨aq, aa, ab⟩ := ob y
 refine lk co53 ((ok_impl_cloneConf F) f.enter0 (C.mono x.le) (D.mono x.le) aa) ?_
 rintro ar au ⟨i, k, l, m, o, q, aw, rfl, ac, ad, ae⟩
 have af := (f.c0 ac).t4
 refine b0 tGLive underlying28 tf93 af fun s ax ag H ah ai => (lv (rv_build (cs := #[.slice i k l, .slice m o q, .slice s 0 0]) sp30 tf30 rfl (by kernel_rfl)) (ls [.slice i k l, .slice m o q, .slice s 0 0] (.agg #[.slice i k l, .slice m o q, .slice s 0 0]) tf30 ai.f3 fun ay I => (nq (wc_ret ?_))))
 cases oi ab
 exact ez results16 tf30 I m0 ⟨i, k, l, m, o, q, s, 0, 0, ag, rfl, I.s, (ad.mono H), (ae.mono H), ah⟩

theorem ok_laws_foTexts {p0_a : List Str} {p1_b : List Str} {r : Bool} (hS : SH w K [] w K []) (k : SliceAt tStr K A a b p0_a) (x : SliceAt tStr K B c d p1_b) (hm : M.laws_foTexts F p0_a p1_b = some r) :
  Calls prog 66 #[.slice A a b, .slice B c d] w fun e w' => ∃ K', e = .returned (.bool r) ∧ SH w K [] w' K' [] := by
 rw [M.laws_foTexts] at hm
 refine ci func66 rfl ntmps66 (sr (lv (rv_assign (v := .bool false) rfl) (nsr (mv rfl (lv (rv_len (t := tStr) underlying23 rfl k) (mv rfl (lv (rv_len (t := tStr) underlying23 rfl x) (lv (rv_neq rfl rfl) (nq ?_)))))))))
 refine wc_cond rfl (fun l => ?_) (fun l => ?_)
 ·have m := cond_t l hm
  refine sr (lv (rv_assign (v := .bool false) rfl) (nq (rr ?_)))
  cases oi m
  exact ey results66 ⟨K, rfl, hS⟩
 have m := cond_f l hm
 refine wc_skip (qs (sr (lv (rv_assign (v := .int .i64 0) rfl) (nq ?_))))
 obtain ⟨I, J, i⟩ := ob m
 refine wc_cutg (IE I w K [] K [] []) ?_ ?_
 ·refine wc_block ?_
  obtain ⟨ap, O, y⟩ := ob J
  refine qw (fun (o : Int) => IW w K [] K [(0, .slice A a b), (1, .slice B c d), (5, .int .i64 o)] [] (rng64 o)) O ⟨K, rfl, hS, kr, (by decide : rng64 0)⟩ ?_
  rintro o _ aq ar R C ⟨S, rfl, D, f, au⟩
  refine wc_seq (sr (mv rfl (mv rfl (lv (rv_len (t := tStr) underlying23 rfl (k.mono f)) (lv (rv_lss rfl rfl) (nq (wcc R rfl (fun T q => ?_) (fun T q => ?_))))))))
  ·refine wc_skip (qs (wc_block (wc_seq (wc_quiet mixed (by kernel_rfl) D (km rfl (km rfl ?_))))))
   obtain ⟨U, V, W⟩ := ob q
   refine ki underlying23 tf9 (k.mono f) V fun X Y aw aa ab => ?_
   obtain ⟨rfl, ax⟩ := aa
   have ac : AtK _ X Y [sv U] := ab
   refine kh (rq_load1 tf9 rfl (ac 0 _ rfl)) (km rfl (km rfl ?_))
   obtain ⟨ad, ae, af⟩ := ob W
   refine ki underlying23 tf9 (x.mono f) ae fun ag ah ay ai aj => ?_
   obtain ⟨rfl, az⟩ := ai
   have ak : AtK _ ag ah [sv ad] := aj
   refine kh (rq_load1 tf9 rfl (ak 0 _ rfl)) (kv (rv_sneq rfl rfl) (wq_nil ?_))
   rintro aA ⟨G, H, al⟩
   refine qe_seq (wcc af rfl (fun am s => ?_) (fun am s => ?_))
   ·refine sr (lv (rv_assign (v := .bool false) rfl) (nq (wc_ret (qe_block_ret (qe_then_ret (qe_then_ret ?_))))))
    cases oi s
    cases C _ rfl
    refine qe_block_ret (qe_then_ret ?_)
    cases oi y
    refine qe_then_ret ?_
    cases oi i
    exact ey results66 ⟨G, rfl, H⟩
   refine wc_skip (qe_block (qe_seq (wc_region (mv rfl (lv (rv_add rfl rfl) (av rfl (wl_nil ?_)))))))
   cases oi s
   exact qd ⟨_, rfl, G, rfl, H, (f.trans al), (w64_rng _)⟩
  refine wc_exit (qe_then_exit (qe_then_exit ?_))
  cases oi q
  cases C _ rfl
  refine qe_block_eq ?_
  cases oi y
  exact qe_mid' ⟨_, S, rfl, rfl, D, f⟩ trivial
 rintro _ aB ⟨aC, an, rfl, rfl, ao, aD⟩
 have i := elim_l i
 refine qr (lv (rv_assign (v := .bool true) rfl) (nq (wc_ret ?_)))
 cases oi i
 exact ey results66 ⟨an, rfl, ao⟩

set_option maxHeartbeats 2000000 in
theorem ok_laws_foConf {p0_a : GConf} {p1_b : GConf} {r : Bool} (hS : SH w K [] w K []) (aj : SliceAt tStr K A a b p0_a.Stops) (H : SliceAt tGSyn K B c d p0_a.Syns) (ak : SliceAt tStr K C f i p1_b.Stops) (T : SliceAt tGSyn K D k l p1_b.Syns) (hm : M.laws_foConf F p0_a p1_b = some r) :
  Calls prog 22 #[.agg #[.slice A a b, .slice B c d], .agg #[.slice C f i, .slice D k l]] w fun e w' => ∃ K', e = .returned (.bool r) ∧ SH w K [] w' K' [] := by
 rw [M.laws_foConf] at hm
 refine ci func22 rfl ntmps22 (sr (bx rfl hS fun q bG al => ?_))
 have am : SH _ _ _ _ _ [obj q [.slice A a b, .slice B c d] 26] := al
 refine bx rfl am fun s bH an => ?_
 have I : SH _ _ _ _ _ [obj s [.slice C f i, .slice D k l] 26, _] := an
 refine lv (rv_assign (v := .bool false) rfl) (ns (wc_seq ?_))
 obtain ⟨ao, ap, aq⟩ := ob hm
 refine wc_cutg (IV w K [] K [(2, pt q), (3, pt s), (20, .bool ao)] [obj q [.slice A a b, .slice B c d] 26, obj s [.slice C f i, .slice D k l] 26]) ?_ ?_
 ·refine wc_region (fa ff26_0 rfl (lv (rv_loadm1 tf23 rfl m1 I rfl) (fa ff26_0 rfl (lv (rv_loadm1 tf23 rfl m0 I rfl) ?_))))
  obtain ⟨bI, ar, au⟩ := ob ap
  refine lk co66 ((ok_laws_foTexts F) I.enter0 aj ak ar) ?_
  rintro bJ bK ⟨ab, rfl, y⟩
  have J := (I.c0 y).t2
  refine lv (rv_not rfl) (mv rfl (bt au (fun o U => ?_) (fun o U => ?_)))
  ·iterate 7 refine lu o ?_
   refine lv (rv_pick_t (v := .bool true) rfl o rfl) (wl_nil ?_)
   cases oi U
   exact qd ⟨ab, rfl, J.f1, y.le⟩
  refine lg o (rv_fieldAddr ff26_1 rfl) (lg o (rv_loadm1 tf24 rfl m1 J rfl) (lg o (rv_len (t := tGSyn) underlying24 rfl (H.mono y.le)) (lg o (rv_fieldAddr ff26_1 rfl) (lg o (rv_loadm1 tf24 rfl m0 J rfl) (lg o (rv_len (t := tGSyn) underlying24 rfl (T.mono y.le)) (lg o (rv_neq rfl rfl) (lv (rv_pick_f rfl o rfl) (wl_nil ?_))))))))
  cases oi U
  exact qd ⟨ab, rfl, J.f1, y.le⟩
 rintro _ bL ⟨O, rfl, ac, G⟩
 refine qe_seq (wcc aq rfl (fun aw V => ?_) (fun aw V => ?_))
 ·refine sr (lv (rv_assign (v := .bool false) rfl) (nq (rr ?_)))
  cases oi V
  exact ey results22 ⟨O, rfl, ac.s⟩
 refine wc_skip (qs (sr (lv (rv_assign (v := .int .i64 0) rfl) (nq ?_))))
 obtain ⟨ax, ay, R⟩ := ob V
 refine wc_cutg (IE ax w K [] O [] []) ?_ ?_
 ·refine wc_block ?_
  obtain ⟨bM, az, ad⟩ := ob ay
  refine qw (fun (S : Int) => IW w K [] O [(2, pt q), (3, pt s), (5, .int .i64 S)] [obj q [.slice A a b, .slice B c d] 26, obj s [.slice C f i, .slice D k l] 26] (rng64 S)) az ⟨O, rfl, ac, kr, (by decide : rng64 0)⟩ ?_
  rintro S _ bN bO aA ae ⟨af, rfl, W, x, bP⟩
  refine wc_seq (sr (mv rfl (fa ff26_1 rfl (lv (rv_loadm1 tf24 rfl m0 W rfl) (lv (rv_len (t := tGSyn) underlying24 rfl (H.mono (G.trans x))) (lv (rv_lss rfl rfl) (nq (wcc aA rfl (fun aB X => ?_) (fun aB X => ?_)))))))))
  ·refine wc_skip (qs (wc_block (wc_seq ?_)))
   obtain ⟨aC, aD, aE⟩ := ob X
   refine wc_cutg (IV w K [] af [(2, pt q), (3, pt s), (5, .int .i64 S), (56, .bool aC)] [obj q [.slice A a b, .slice B c d] 26, obj s [.slice C f i, .slice D k l] 26]) ?_ ?_
   ·refine wc_quiet mixed (by kernel_rfl) W (kv (rv_fieldAddr ff26_1 rfl) (kh (rq_loadm1 tf24 rfl m0 rfl) (km rfl ?_)))
    obtain ⟨aF, aG, aH⟩ := ob aD
    refine ki underlying24 tf96 (H.mono (G.trans x)) aG fun aI aJ bQ aK aL => ?_
    obtain ⟨aM, aN, aO, rfl, bR, bS⟩ := aK
    have aP : AtK _ aI aJ [.slice aM aN aO, sv aF.To] := aL
    refine kv (rv_fieldAddr ff96_1 rfl) (kh (rq_load1 tf9 rfl (aP 1 _ rfl)) (kv (rv_fieldAddr ff26_1 rfl) (kh (rq_loadm1 tf24 rfl m1 rfl) (km rfl ?_))))
    obtain ⟨aQ, aR, aS⟩ := ob aH
    refine ki underlying24 tf96 (T.mono (G.trans x)) aR fun aT aU bT aV aW => ?_
    obtain ⟨aX, aY, aZ, rfl, bU, bV⟩ := aV
    have a0 : AtK _ aT aU [.slice aX aY aZ, sv aQ.To] := aW
    refine kv (rv_fieldAddr ff96_1 rfl) (kh (rq_load1 tf9 rfl (a0 1 _ rfl)) (kv (rv_sneq rfl rfl) (km rfl (bt aS (fun m Y => ?_) (fun m Y => ?_)))))
    ·iterate 14 refine kn m ?_
     refine kv (rv_pick_t (v := .bool true) rfl m rfl) (wq_nil ?_)
     rintro bW ⟨a1, a2, a3⟩
     cases oi Y
     exact qd ⟨a1, rfl, a2, a3⟩
    refine kg m (rv_fieldAddr ff26_1 rfl) (kgh m (rq_loadm1 tf24 rfl m0 rfl) (kg m (rv_move rfl) ?_))
    obtain ⟨a4, a5, a6⟩ := ob Y
    refine wq_indexAddr (t := tGSyn) (wg rfl rfl m) rfl underlying24 tf96 rfl rfl (H.mono (G.trans x)) a5 fun a7 a8 bX a9 ba => ?_
    obtain ⟨bb, bc, bd, rfl, be, bY⟩ := a9
    have bf : AtK _ a7 a8 [.slice bb bc bd, sv a4.To] := ba
    refine kg m (rv_fieldAddr ff96_0 rfl) (kgh m (rq_load1 tf23 rfl (bf 0 _ rfl)) (kg m (rv_fieldAddr ff26_1 rfl) (kgh m (rq_loadm1 tf24 rfl m1 rfl) (kg m (rv_move rfl) ?_))))
    obtain ⟨bg, bh, bi⟩ := ob a6
    refine wq_indexAddr (t := tGSyn) (wg rfl rfl m) rfl underlying24 tf96 rfl rfl (T.mono (G.trans x)) bh fun bj bk bZ bl bm => ?_
    obtain ⟨bn, bo, bp, rfl, bq, b0⟩ := bl
    have br : AtK _ bj bk [.slice bn bo bp, sv bg.To] := bm
    refine kg m (rv_fieldAddr ff96_0 rfl) (kgh m (rq_load1 tf23 rfl (br 0 _ rfl)) ?_)
    obtain ⟨b1, bs, bu⟩ := ob bi
    refine kcg m co66 (fun _ _ bv ag => (ok_laws_foTexts F) bv.enter0 (be.mono ag) (bq.mono ag) bs) (kg m (rv_not rfl) (kv (rv_pick_f rfl m rfl) (wq_nil ?_)))
    rintro b2 ⟨bz, bA, bB⟩
    cases oi bu
    exact qd ⟨bz, rfl, bA, bB⟩
   rintro _ b3 ⟨ah, rfl, ai, bC⟩
   refine qe_seq (wcc aE rfl (fun bD aa => ?_) (fun bD aa => ?_))
   ·refine sr (lv (rv_assign (v := .bool false) rfl) (nq (wc_ret (qe_block_ret (qe_then_ret (qe_then_ret ?_))))))
    cases oi aa
    cases ae _ rfl
    refine qe_block_ret (qe_then_ret ?_)
    cases oi ad
    refine qe_then_ret ?_
    cases oi R
    exact ey results22 ⟨ah, rfl, ai.s⟩
   refine wc_skip (qe_block (qe_seq (wc_region (mv rfl (lv (rv_add rfl rfl) (av rfl (wl_nil ?_)))))))
   cases oi aa
   exact qd ⟨_, rfl, ah, rfl, ai, (x.trans bC), (w64_rng _)⟩
  refine wc_exit (qe_then_exit (qe_then_exit ?_))
  cases oi X
  cases ae _ rfl
  refine qe_block_eq ?_
  cases oi ad
  exact qe_mid' ⟨_, af, rfl, rfl, W.s, x⟩ trivial
 rintro _ b4 ⟨b5, bE, rfl, rfl, bF, b6⟩
 have R := elim_l R
 refine qr (lv (rv_assign (v := .bool true) rfl) (nq (wc_ret ?_)))
 cases oi R
 exact ey results22 ⟨bE, rfl, bF⟩

theorem ok_laws_foInts {p0_a : List Int} {p1_b : List Int} {r : Bool} (hS : SH w K [] w K []) (k : SliceAt tInt K A a b p0_a) (x : SliceAt tInt K B c d p1_b) (hm : M.laws_foInts F p0_a p1_b = some r) :
  Calls prog 44 #[.slice A a b, .slice B c d] w fun e w' => ∃ K', e = .returned (.bool r) ∧ SH w K [] w' K' [] := by
 rw [M.laws_foInts] at hm
 refine ci func44 rfl ntmps44 (sr (lv (rv_assign (v := .bool false) rfl) (nsr (mv rfl (lv (rv_len (t := tInt) underlying55 rfl k) (mv rfl (lv (rv_len (t := tInt) underlying55 rfl x) (lv (rv_neq rfl rfl) (nq ?_)))))))))
 refine wc_cond rfl (fun l => ?_) (fun l => ?_)
 ·have m := cond_t l hm
  refine sr (lv (rv_assign (v := .bool false) rfl) (nq (rr ?_)))
  cases oi m
  exact ey results44 ⟨K, rfl, hS⟩
 have m := cond_f l hm
 refine wc_skip (qs (sr (lv (rv_assign (v := .int .i64 0) rfl) (nq ?_))))
 obtain ⟨I, J, i⟩ := ob m
 refine wc_cutg (IE I w K [] K [] []) ?_ ?_
 ·refine wc_block ?_
  obtain ⟨ap, O, y⟩ := ob J
  refine qw (fun (o : Int) => IW w K [] K [(0, .slice A a b), (1, .slice B c d), (5, .int .i64 o)] [] (rng64 o)) O ⟨K, rfl, hS, kr, (by decide : rng64 0)⟩ ?_
  rintro o _ aq ar R C ⟨S, rfl, D, f, au⟩
  refine wc_seq (sr (mv rfl (mv rfl (lv (rv_len (t := tInt) underlying55 rfl (k.mono f)) (lv (rv_lss rfl rfl) (nq (wcc R rfl (fun T q => ?_) (fun T q => ?_))))))))
  ·refine wc_skip (qs (wc_block (wc_seq (wc_quiet mixed (by kernel_rfl) D (km rfl (km rfl ?_))))))
   obtain ⟨U, V, W⟩ := ob q
   refine ki underlying55 tf3 (k.mono f) V fun X Y aw aa ab => ?_
   obtain ⟨rfl, ax⟩ := aa
   have ac : AtK _ X Y [.int .i64 U] := ab
   refine kh (rq_load1 tf3 rfl (ac 0 _ rfl)) (km rfl (km rfl ?_))
   obtain ⟨ad, ae, af⟩ := ob W
   refine ki underlying55 tf3 (x.mono f) ae fun ag ah ay ai aj => ?_
   obtain ⟨rfl, az⟩ := ai
   have ak : AtK _ ag ah [.int .i64 ad] := aj
   refine kh (rq_load1 tf3 rfl (ak 0 _ rfl)) (kv (rv_neq rfl rfl) (wq_nil ?_))
   rintro aA ⟨G, H, al⟩
   refine qe_seq (wcc af rfl (fun am s => ?_) (fun am s => ?_))
   ·refine sr (lv (rv_assign (v := .bool false) rfl) (nq (wc_ret (qe_block_ret (qe_then_ret (qe_then_ret ?_))))))
    cases oi s
    cases C _ rfl
    refine qe_block_ret (qe_then_ret ?_)
    cases oi y
    refine qe_then_ret ?_
    cases oi i
    exact ey results44 ⟨G, rfl, H⟩
   refine wc_skip (qe_block (qe_seq (wc_region (mv rfl (lv (rv_add rfl rfl) (av rfl (wl_nil ?_)))))))
   cases oi s
   exact qd ⟨_, rfl, G, rfl, H, (f.trans al), (w64_rng _)⟩
  refine wc_exit (qe_then_exit (qe_then_exit ?_))
  cases oi q
  cases C _ rfl
  refine qe_block_eq ?_
  cases oi y
  exact qe_mid' ⟨_, S, rfl, rfl, D, f⟩ trivial
 rintro _ aB ⟨aC, an, rfl, rfl, ao, aD⟩
 have i := elim_l i
 refine qr (lv (rv_assign (v := .bool true) rfl) (nq (wc_ret ?_)))
 cases oi i
 exact ey results44 ⟨an, rfl, ao⟩

set_option maxHeartbeats 2000000 in
theorem ok_laws_foDoc {p0_a : GDoc} {p1_b : GDoc} {r : Bool} (hS : SH w K [] w K []) (br : rng64 p0_a.Id) (V : SliceAt tGField K A a b p0_a.Fields) (W : SliceAt tGAttr K B c d p0_a.Nums) (bs : rng64 p1_b.Id) (al : SliceAt tGField K C f i p1_b.Fields) (am : SliceAt tGAttr K D k l p1_b.Nums) (hm : M.laws_foDoc F p0_a p1_b = some r) :
  Calls prog 198 #[.agg #[.int .i64 p0_a.Id, .slice A a b, .slice B c d], .agg #[.int .i64 p1_b.Id, .slice C f i, .slice D k l]] w fun e w' => ∃ K', e = .returned (.bool r) ∧ SH w K [] w' K' [] := by
 rw [M.laws_foDoc] at hm
 refine ci func198 rfl ntmps198 (sr (bx rfl hS fun q bu az => ?_))
 have aA : SH _ _ _ _ _ [obj q [.int .i64 p0_a.Id, .slice A a b, .slice B c d] 54] := az
 refine bx rfl aA fun s bv aB => ?_
 have x : SH _ _ _ _ _ [obj s [.int .i64 p1_b.Id, .slice C f i, .slice D k l] 54, _] := aB
 refine lv (rv_assign (v := .bool false) rfl) (ns (wc_seq ?_))
 obtain ⟨aC, aD, aE⟩ := ob hm
 refine wc_cutg (IV w K [] K [(2, pt q), (3, pt s), (29, .bool aC)] [obj q [.int .i64 p0_a.Id, .slice A a b, .slice B c d] 54, obj s [.int .i64 p1_b.Id, .slice C f i, .slice D k l] 54]) ?_ ?_
 ·refine wc_region (fa ff54_0 rfl (lv (rv_loadm1 tf3 rfl m1 x rfl) (fa ff54_0 rfl (lv (rv_loadm1 tf3 rfl m0 x rfl) (lv (rv_neq rfl rfl) (mv rfl (bt aD (fun m X => ?_) (fun m X => ?_))))))))
  ·iterate 7 refine lu m ?_
   refine lv (rv_pick_t (v := .bool true) rfl m rfl) (mv rfl ?_)
   iterate 7 refine lu rfl ?_
   refine lv (rv_pick_t (v := .bool true) rfl rfl rfl) (wl_nil ?_)
   cases oi X
   exact qd ⟨K, rfl, x.f1, kr⟩
  refine lg m (rv_fieldAddr ff54_1 rfl) (lg m (rv_loadm1 tf51 rfl m1 x rfl) (lg m (rv_len (t := tGField) underlying51 rfl V) (lg m (rv_fieldAddr ff54_1 rfl) (lg m (rv_loadm1 tf51 rfl m0 x rfl) (lg m (rv_len (t := tGField) underlying51 rfl al) (lg m (rv_neq rfl rfl) (lv (rv_pick_f rfl m rfl) (mv rfl (bt X (fun o Y => ?_) (fun o Y => ?_))))))))))
  ·iterate 7 refine lu o ?_
   refine lv (rv_pick_t (v := .bool true) rfl o rfl) (wl_nil ?_)
   cases oi Y
   exact qd ⟨K, rfl, x.f1, kr⟩
  refine lg o (rv_fieldAddr ff54_2 rfl) (lg o (rv_loadm1 tf52 rfl m1 x rfl) (lg o (rv_len (t := tGAttr) underlying52 rfl W) (lg o (rv_fieldAddr ff54_2 rfl) (lg o (rv_loadm1 tf52 rfl m0 x rfl) (lg o (rv_len (t := tGAttr) underlying52 rfl am) (lg o (rv_neq rfl rfl) (lv (rv_pick_f rfl o rfl) (wl_nil ?_))))))))
  cases oi Y
  exact qd ⟨K, rfl, x.f1, kr⟩
 rintro _ w32 ⟨S, rfl, an, y⟩
 refine qe_seq (wcc aE rfl (fun aF aa => ?_) (fun aF aa => ?_))
 ·refine sr (lv (rv_assign (v := .bool false) rfl) (nq (rr ?_)))
  cases oi aa
  exact ey results198 ⟨S, rfl, an.s⟩
 refine wc_skip (qs (sr (lv (rv_assign (v := .int .i64 0) rfl) (nq ?_))))
 obtain ⟨aG, aH, T⟩ := ob aa
 refine wc_cutg (IE aG w K [] S [(2, pt q), (3, pt s)] [obj q [.int .i64 p0_a.Id, .slice A a b, .slice B c d] 54, obj s [.int .i64 p1_b.Id, .slice C f i, .slice D k l] 54]) ?_ ?_
 ·refine wc_block ?_
  obtain ⟨bz, aI, ao⟩ := ob aH
  refine qw (fun (ab : Int) => IW w K [] S [(2, pt q), (3, pt s), (5, .int .i64 ab)] [obj q [.int .i64 p0_a.Id, .slice A a b, .slice B c d] 54, obj s [.int .i64 p1_b.Id, .slice C f i, .slice D k l] 54] (rng64 ab)) aI ⟨S, rfl, an, kr, (by decide : rng64 0)⟩ ?_
  rintro ab _ bA bB aJ ap ⟨aK, rfl, ac, O, bC⟩
  refine wc_seq (sr (mv rfl (fa ff54_1 rfl (lv (rv_loadm1 tf51 rfl m0 ac rfl) (lv (rv_len (t := tGField) underlying51 rfl (V.mono (y.trans O))) (lv (rv_lss rfl rfl) (nq (wcc aJ rfl (fun aL ad => ?_) (fun aL ad => ?_)))))))))
  ·refine wc_skip (qs (wc_block (wc_seq (wc_quiet mixed (by kernel_rfl) ac (kv (rv_fieldAddr ff54_1 rfl) (kh (rq_loadm1 tf51 rfl m0 rfl) (km rfl ?_)))))))
   obtain ⟨G, aM, aN⟩ := ob ad
   refine ki underlying51 tf158 (V.mono (y.trans O)) aM fun aO aP bD aQ aR => ?_
   obtain ⟨rfl, bE, bF⟩ := aQ
   have aS : AtK _ aO aP [sv G.Name, sv G.Text] := aR
   refine kh (rq_loadS (cs := [sv G.Name, sv G.Text]) tf158 rfl aS rfl) (kv (rv_fieldAddr ff54_1 rfl) (kh (rq_loadm1 tf51 rfl m1 rfl) (km rfl ?_)))
   obtain ⟨H, aT, aU⟩ := ob aN
   refine ki underlying51 tf158 (al.mono (y.trans O)) aT fun aV aW bG aX aY => ?_
   obtain ⟨rfl, bH, bI⟩ := aX
   have aZ : AtK _ aV aW [sv H.Name, sv H.Text] := aY
   refine kh (rq_loadS (cs := [sv H.Name, sv H.Text]) tf158 rfl aZ rfl) (kv (rv_neS eqg158 rfl rfl (eqs158 G.Name G.Text H.Name H.Text)) (wq_nil ?_))
   rintro bJ ⟨aq, ar, a0⟩
   refine qe_seq (wcc aU rfl (fun a1 ae => ?_) (fun a1 ae => ?_))
   ·refine sr (lv (rv_assign (v := .bool false) rfl) (nq (wc_ret (qe_block_ret (qe_then_ret (qe_then_ret ?_))))))
    cases oi ae
    cases ap _ rfl
    refine qe_block_ret (qe_then_ret ?_)
    cases oi ao
    refine qe_then_ret ?_
    cases oi T
    exact ey results198 ⟨aq, rfl, ar.s⟩
   refine wc_skip (qe_block (qe_seq (wc_region (mv rfl (lv (rv_add rfl rfl) (av rfl (wl_nil ?_)))))))
   cases oi ae
   exact qd ⟨_, rfl, aq, rfl, ar, (O.trans a0), (w64_rng _)⟩
  refine wc_exit (qe_then_exit (qe_then_exit ?_))
  cases oi ad
  cases ap _ rfl
  refine qe_block_eq ?_
  cases oi ao
  exact qd ⟨_, aK, rfl, rfl, ac, O⟩
 rintro _ bK ⟨bL, af, rfl, rfl, a2, ag⟩
 have T := elim_l T
 refine qs (sr (lv (rv_assign (v := .int .i64 0) rfl) (nq ?_)))
 obtain ⟨a3, a4, U⟩ := ob T
 refine wc_cutg (IE a3 w K [] af [] []) ?_ ?_
 ·refine wc_block ?_
  obtain ⟨bM, a5, au⟩ := ob a4
  refine qw (fun (ah : Int) => IW w K [] af [(2, pt q), (3, pt s), (6, .int .i64 ah)] [obj q [.int .i64 p0_a.Id, .slice A a b, .slice B c d] 54, obj s [.int .i64 p1_b.Id, .slice C f i, .slice D k l] 54] (rng64 ah)) a5 ⟨af, rfl, a2, kr, (by decide : rng64 0)⟩ ?_
  rintro ah _ bN bO a6 aw ⟨a7, rfl, ai, R, bP⟩
  refine wc_seq (sr (mv rfl (fa ff54_2 rfl (lv (rv_loadm1 tf52 rfl m0 ai rfl) (lv (rv_len (t := tGAttr) underlying52 rfl (W.mono ((y.trans ag).trans R))) (lv (rv_lss rfl rfl) (nq (wcc a6 rfl (fun a8 aj => ?_) (fun a8 aj => ?_)))))))))
  ·refine wc_skip (qs (wc_block (wc_seq (wc_quiet mixed (by kernel_rfl) ai (kv (rv_fieldAddr ff54_2 rfl) (kh (rq_loadm1 tf52 rfl m0 rfl) (km rfl ?_)))))))
   obtain ⟨I, a9, ba⟩ := ob aj
   refine ki underlying52 tf197 (W.mono ((y.trans ag).trans R)) a9 fun bb bc bQ bd be => ?_
   obtain ⟨rfl, bR, bS⟩ := bd
   have bf : AtK _ bb bc [sv I.Name, .int .i64 I.Num] := be
   refine kh (rq_loadS (cs := [sv I.Name, .int .i64 I.Num]) tf197 rfl bf rfl) (kv (rv_fieldAddr ff54_2 rfl) (kh (rq_loadm1 tf52 rfl m1 rfl) (km rfl ?_)))
   obtain ⟨J, bg, bh⟩ := ob ba
   refine ki underlying52 tf197 (am.mono ((y.trans ag).trans R)) bg fun bi bj bT bk bl => ?_
   obtain ⟨rfl, bU, bV⟩ := bk
   have bm : AtK _ bi bj [sv J.Name, .int .i64 J.Num] := bl
   refine kh (rq_loadS (cs := [sv J.Name, .int .i64 J.Num]) tf197 rfl bm rfl) (kv (rv_neS eqg197 rfl rfl (eqs197 I.Name I.Num J.Name J.Num)) (wq_nil ?_))
   rintro bW ⟨ax, ay, bn⟩
   refine qe_seq (wcc bh rfl (fun bo ak => ?_) (fun bo ak => ?_))
   ·refine sr (lv (rv_assign (v := .bool false) rfl) (nq (wc_ret (qe_block_ret (qe_then_ret (qe_then_ret ?_))))))
    cases oi ak
    cases aw _ rfl
    refine qe_block_ret (qe_then_ret ?_)
    cases oi au
    refine qe_then_ret ?_
    cases oi U
    exact ey results198 ⟨ax, rfl, ay.s⟩
   refine wc_skip (qe_block (qe_seq (wc_region (mv rfl (lv (rv_add rfl rfl) (av rfl (wl_nil ?_)))))))
   cases oi ak
   exact qd ⟨_, rfl, ax, rfl, ay, (R.trans bn), (w64_rng _)⟩
  refine wc_exit (qe_then_exit (qe_then_exit ?_))
  cases oi aj
  cases aw _ rfl
  refine qe_block_eq ?_
  cases oi au
  exact qe_mid' ⟨_, a7, rfl, rfl, ai.s, R⟩ trivial
 rintro _ bX ⟨bY, bp, rfl, rfl, bq, bZ⟩
 have U := elim_l U
 refine qr (lv (rv_assign (v := .bool true) rfl) (nq (wc_ret ?_)))
 cases oi U
 exact ey results198 ⟨bp, rfl, bq⟩

theorem ok_laws_foDocs {p0_a : List GDoc} {p1_b : List GDoc} {r : Bool} (hS : SH w K [] w K []) (l : SliceAt tGDoc K A a b p0_a) (y : SliceAt tGDoc K B c d p1_b) (hm : M.laws_foDocs F p0_a p1_b = some r) :
  Calls prog 157 #[.slice A a b, .slice B c d] w fun e w' => ∃ K', e = .returned (.bool r) ∧ SH w K [] w' K' [] := by
 rw [M.laws_foDocs] at hm
 refine ci func157 rfl ntmps157 (sr (lv (rv_assign (v := .bool false) rfl) (nsr (mv rfl (lv (rv_len (t := tGDoc) underlying35 rfl l) (mv rfl (lv (rv_len (t := tGDoc) underlying35 rfl y) (lv (rv_neq rfl rfl) (nq ?_)))))))))
 refine wc_cond rfl (fun m => ?_) (fun m => ?_)
 ·have o := cond_t m hm
  refine sr (lv (rv_assign (v := .bool false) rfl) (nq (rr ?_)))
  cases oi o
  exact ey results157 ⟨K, rfl, hS⟩
 have o := cond_f m hm
 refine wc_skip (qs (sr (lv (rv_assign (v := .int .i64 0) rfl) (nq ?_))))
 obtain ⟨ae, af, i⟩ := ob o
 refine wc_cutg (IE ae w K [] K [] []) ?_ ?_
 ·refine wc_block ?_
  obtain ⟨aO, ag, C⟩ := ob af
  refine qw (fun (q : Int) => IW w K [] K [(0, .slice A a b), (1, .slice B c d), (5, .int .i64 q)] [] (rng64 q)) ag ⟨K, rfl, hS, kr, (by decide : rng64 0)⟩ ?_
  rintro q _ aP aQ ah D ⟨ai, rfl, G, f, aR⟩
  refine wc_seq (sr (mv rfl (mv rfl (lv (rv_len (t := tGDoc) underlying35 rfl (l.mono f)) (lv (rv_lss rfl rfl) (nq (wcc ah rfl (fun aj s => ?_) (fun aj s => ?_))))))))
  ·refine wc_skip (qs (wc_block (wc_seq (wc_quiet mixed (by kernel_rfl) G (km rfl (km rfl ?_))))))
   obtain ⟨H, ak, al⟩ := ob s
   refine ki underlying35 tf54 (l.mono f) ak fun am an aS ao ap => ?_
   obtain ⟨I, J, O, R, S, T, rfl, aq, ar, au⟩ := ao
   have aw : AtK _ am an [.int .i64 H.Id, .slice I J O, .slice R S T] := ap
   refine kh (rq_loadS (cs := [.int .i64 H.Id, .slice I J O, .slice R S T]) tf54 rfl aw rfl) (km rfl (km rfl ?_))
   obtain ⟨U, ax, ay⟩ := ob al
   refine ki underlying35 tf54 (y.mono f) ax fun az aA aT aB aC => ?_
   obtain ⟨V, W, X, Y, aa, ab, rfl, aD, aE, aF⟩ := aB
   have aG : AtK _ az aA [.int .i64 U.Id, .slice V W X, .slice Y aa ab] := aC
   refine kh (rq_loadS (cs := [.int .i64 U.Id, .slice V W X, .slice Y aa ab]) tf54 rfl aG rfl) ?_
   obtain ⟨aU, aH, aI⟩ := ob ay
   refine kc co198 (fun _ _ aJ k => (ok_laws_foDoc F) aJ.enter0 aq (ar.mono k) (au.mono k) aD (aE.mono k) (aF.mono k) aH) (kv (rv_not rfl) (wq_nil ?_))
   rintro aV ⟨ac, ad, aK⟩
   refine qe_seq (wcc aI rfl (fun aL x => ?_) (fun aL x => ?_))
   ·refine sr (lv (rv_assign (v := .bool false) rfl) (nq (wc_ret (qe_block_ret (qe_then_ret (qe_then_ret ?_))))))
    cases oi x
    cases D _ rfl
    refine qe_block_ret (qe_then_ret ?_)
    cases oi C
    refine qe_then_ret ?_
    cases oi i
    exact ey results157 ⟨ac, rfl, ad⟩
   refine wc_skip (qe_block (qe_seq (wc_region (mv rfl (lv (rv_add rfl rfl) (av rfl (wl_nil ?_)))))))
   cases oi x
   exact qd ⟨_, rfl, ac, rfl, ad, (f.trans aK), (w64_rng _)⟩
  refine wc_exit (qe_then_exit (qe_then_exit ?_))
  cases oi s
  cases D _ rfl
  refine qe_block_eq ?_
  cases oi C
  exact qe_mid' ⟨_, ai, rfl, rfl, G, f⟩ trivial
 rintro _ aW ⟨aX, aM, rfl, rfl, aN, aY⟩
 have i := elim_l i
 refine qr (lv (rv_assign (v := .bool true) rfl) (nq (wc_ret ?_)))
 cases oi i
 exact ey results157 ⟨aM, rfl, aN⟩

set_option maxHeartbeats 2000000 in
theorem ok_laws_foPosts {p0_a : List GPost} {p1_b : List GPost} {r : Bool} (hS : SH w K [] w K []) (k : SliceAt tGPost K A a b p0_a) (o : SliceAt tGPost K B c d p1_b) (hm : M.laws_foPosts F p0_a p1_b = some r) :
  Calls prog 158 #[.slice A a b, .slice B c d] w fun e w' => ∃ K', e = .returned (.bool r) ∧ SH w K [] w' K' [] := by
 rw [M.laws_foPosts] at hm
 refine ci func158 rfl ntmps158 (sr (lv (rv_assign (v := .bool false) rfl) (nsr (mv rfl (lv (rv_len (t := tGPost) underlying57 rfl k) (mv rfl (lv (rv_len (t := tGPost) underlying57 rfl o) (lv (rv_neq rfl rfl) (nq ?_)))))))))
 refine wc_cond rfl (fun q => ?_) (fun q => ?_)
 ·have s := cond_t q hm
  refine sr (lv (rv_assign (v := .bool false) rfl) (nq (rr ?_)))
  cases oi s
  exact ey results158 ⟨K, rfl, hS⟩
 have s := cond_f q hm
 refine wc_skip (qs (sr (lv (rv_assign (v := .int .i64 0) rfl) (nq ?_))))
 obtain ⟨S, T, l⟩ := ob s
 refine wc_cutg (IE S w K [] K [] []) ?_ ?_
 ·refine wc_block ?_
  obtain ⟨bb, U, D⟩ := ob T
  refine qw (fun (m : Int) => IW w K [] K [(0, .slice A a b), (1, .slice B c d), (5, .int .i64 m)] [] (rng64 m)) U ⟨K, rfl, hS, kr, (by decide : rng64 0)⟩ ?_
  rintro m _ bc bd V G ⟨H, rfl, I, i, be⟩
  refine wc_seq (sr (mv rfl (mv rfl (lv (rv_len (t := tGPost) underlying57 rfl (k.mono i)) (lv (rv_lss rfl rfl) (nq (wcc V rfl (fun W x => ?_) (fun W x => ?_))))))))
  ·refine wc_skip (qs (wc_block (wc_seq ?_)))
   obtain ⟨X, Y, aa⟩ := ob x
   refine wc_cutg (IV w K [] H [(0, .slice A a b), (1, .slice B c d), (5, .int .i64 m), (41, .bool X)] []) ?_ ?_
   ·refine wc_quiet mixed (by kernel_rfl) I (km rfl (km rfl ?_))
    obtain ⟨ab, ac, ad⟩ := ob Y
    refine ki underlying57 tf71 (k.mono i) ac fun ae af bf ag ah => ?_
    obtain ⟨ai, aj, ak, rfl, bg, bh⟩ := ag
    have al : AtK _ ae af [.int .i64 ab.Doc, .slice ai aj ak] := ah
    refine kv (rv_fieldAddr ff71_0 rfl) (kh (rq_load1 tf3 rfl (al 0 _ rfl)) (km rfl (km rfl ?_)))
    obtain ⟨am, an, ao⟩ := ob ad
    refine ki underlying57 tf71 (o.mono i) an fun ap aq bi ar au => ?_
    obtain ⟨aw, ax, ay, rfl, bj, bk⟩ := ar
    have az : AtK _ ap aq [.int .i64 am.Doc, .slice aw ax ay] := au
    refine kv (rv_fieldAddr ff71_0 rfl) (kh (rq_load1 tf3 rfl (az 0 _ rfl)) (kv (rv_neq rfl rfl) (km rfl (bt ao (fun f y => ?_) (fun f y => ?_)))))
    ·iterate 12 refine kn f ?_
     refine kv (rv_pick_t (v := .bool true) rfl f rfl) (wq_nil ?_)
     rintro bl ⟨aA, aB, aC⟩
     cases oi y
     exact qd ⟨aA, rfl, aB, aC⟩
    refine kg f (rv_move rfl) (kg f (rv_move rfl) ?_)
    obtain ⟨aD, aE, aF⟩ := ob y
    refine wq_indexAddr (t := tGPost) (wg rfl rfl f) rfl underlying57 tf71 rfl rfl (k.mono i) aE fun aG aH bm aI aJ => ?_
    obtain ⟨aK, aL, aM, rfl, bn, aN⟩ := aI
    have aO : AtK _ aG aH [.int .i64 aD.Doc, .slice aK aL aM] := aJ
    refine kg f (rv_fieldAddr ff71_1 rfl) (kgh f (rq_load1 tf55 rfl (aO 1 _ rfl)) (kg f (rv_move rfl) (kg f (rv_move rfl) ?_)))
    obtain ⟨aP, aQ, aR⟩ := ob aF
    refine wq_indexAddr (t := tGPost) (wg rfl rfl f) rfl underlying57 tf71 rfl rfl (o.mono i) aQ fun aS aT bo aU aV => ?_
    obtain ⟨aW, aX, aY, rfl, bp, aZ⟩ := aU
    have a0 : AtK _ aS aT [.int .i64 aP.Doc, .slice aW aX aY] := aV
    refine kg f (rv_fieldAddr ff71_1 rfl) (kgh f (rq_load1 tf55 rfl (a0 1 _ rfl)) ?_)
    obtain ⟨bq, a1, a2⟩ := ob aR
    refine kcg f co44 (fun _ _ a3 J => (ok_laws_foInts F) a3.enter0 (aN.mono J) (aZ.mono J) a1) (kg f (rv_not rfl) (kv (rv_pick_f rfl f rfl) (wq_nil ?_)))
    rintro br ⟨a4, a5, a6⟩
    cases oi a2
    exact qd ⟨a4, rfl, a5, a6⟩
   rintro _ bs ⟨O, rfl, R, a7⟩
   refine qe_seq (wcc aa rfl (fun a8 C => ?_) (fun a8 C => ?_))
   ·refine sr (lv (rv_assign (v := .bool false) rfl) (nq (wc_ret (qe_block_ret (qe_then_ret (qe_then_ret ?_))))))
    cases oi C
    cases G _ rfl
    refine qe_block_ret (qe_then_ret ?_)
    cases oi D
    refine qe_then_ret ?_
    cases oi l
    exact ey results158 ⟨O, rfl, R⟩
   refine wc_skip (qe_block (qe_seq (wc_region (mv rfl (lv (rv_add rfl rfl) (av rfl (wl_nil ?_)))))))
   cases oi C
   exact qd ⟨_, rfl, O, rfl, R, (i.trans a7), (w64_rng _)⟩
  refine wc_exit (qe_then_exit (qe_then_exit ?_))
  cases oi x
  cases G _ rfl
  refine qe_block_eq ?_
  cases oi D
  exact qe_mid' ⟨_, H, rfl, rfl, I, i⟩ trivial
 rintro _ bu ⟨bv, a9, rfl, rfl, ba, bx⟩
 have l := elim_l l
 refine qr (lv (rv_assign (v := .bool true) rfl) (nq (wc_ret ?_)))
 cases oi l
 exact ey results158 ⟨a9, rfl, ba⟩

set_option maxHeartbeats 2000000 in
theorem ok_laws_foSeg {p0_a : GSeg} {p1_b : GSeg} {r : Bool} (hS : SH w K [] w K []) (ar : SliceAt tGDoc K A a b p0_a.Docs) (H : SliceAt tGEntry K B c d p0_a.Entries) (au : SliceAt tGDoc K C f i p1_b.Docs) (J : SliceAt tGEntry K D k l p1_b.Entries) (hm : M.laws_foSeg F p0_a p1_b = some r) :
  Calls prog 104 #[.agg #[.slice A a b, .slice B c d], .agg #[.slice C f i, .slice D k l]] w fun e w' => ∃ K', e = .returned (.bool r) ∧ SH w K [] w' K' [] := by
 rw [M.laws_foSeg] at hm
 refine ci func104 rfl ntmps104 (sr (bx rfl hS fun x b7 aw => ?_))
 have ax : SH _ _ _ _ _ [obj x [.slice A a b, .slice B c d] 46] := aw
 refine bx rfl ax fun y b8 ay => ?_
 have O : SH _ _ _ _ _ [obj y [.slice C f i, .slice D k l] 46, _] := ay
 refine lv (rv_assign (v := .bool false) rfl) (ns (wc_seq ?_))
 obtain ⟨az, aA, aB⟩ := ob hm
 refine wc_cutg (IV w K [] K [(2, pt x), (3, pt y), (20, .bool az)] [obj x [.slice A a b, .slice B c d] 46, obj y [.slice C f i, .slice D k l] 46]) ?_ ?_
 ·refine wc_region (fa ff46_0 rfl (lv (rv_loadm1 tf35 rfl m1 O rfl) (fa ff46_0 rfl (lv (rv_loadm1 tf35 rfl m0 O rfl) ?_))))
  obtain ⟨b9, aC, aD⟩ := ob aA
  refine lk co157 ((ok_laws_foDocs F) O.enter0 ar au aC) ?_
  rintro ca cb ⟨ad, rfl, I⟩
  have R := (O.c0 I).t2
  refine lv (rv_not rfl) (mv rfl (bt aD (fun q V => ?_) (fun q V => ?_)))
  ·iterate 7 refine lu q ?_
   refine lv (rv_pick_t (v := .bool true) rfl q rfl) (wl_nil ?_)
   cases oi V
   exact qd ⟨ad, rfl, R.f1, I.le⟩
  refine lg q (rv_fieldAddr ff46_1 rfl) (lg q (rv_loadm1 tf44 rfl m1 R rfl) (lg q (rv_len (t := tGEntry) underlying44 rfl (H.mono I.le)) (lg q (rv_fieldAddr ff46_1 rfl) (lg q (rv_loadm1 tf44 rfl m0 R rfl) (lg q (rv_len (t := tGEntry) underlying44 rfl (J.mono I.le)) (lg q (rv_neq rfl rfl) (lv (rv_pick_f rfl q rfl) (wl_nil ?_))))))))
  cases oi V
  exact qd ⟨ad, rfl, R.f1, I.le⟩
 rintro _ cc ⟨S, rfl, ae, G⟩
 refine qe_seq (wcc aB rfl (fun aE W => ?_) (fun aE W => ?_))
 ·refine sr (lv (rv_assign (v := .bool false) rfl) (nq (rr ?_)))
  cases oi W
  exact ey results104 ⟨S, rfl, ae.s⟩
 refine wc_skip (qs (sr (lv (rv_assign (v := .int .i64 0) rfl) (nq ?_))))
 obtain ⟨aF, aG, T⟩ := ob W
 refine wc_cutg (IE aF w K [] S [] []) ?_ ?_
 ·refine wc_block ?_
  obtain ⟨cd, aH, af⟩ := ob aG
  refine qw (fun (U : Int) => IW w K [] S [(2, pt x), (3, pt y), (5, .int .i64 U)] [obj x [.slice A a b, .slice B c d] 46, obj y [.slice C f i, .slice D k l] 46] (rng64 U)) aH ⟨S, rfl, ae, kr, (by decide : rng64 0)⟩ ?_
  rintro U _ ce cf aI ag ⟨ah, rfl, X, s, cg⟩
  refine wc_seq (sr (mv rfl (fa ff46_1 rfl (lv (rv_loadm1 tf44 rfl m0 X rfl) (lv (rv_len (t := tGEntry) underlying44 rfl (H.mono (G.trans s))) (lv (rv_lss rfl rfl) (nq (wcc aI rfl (fun aJ Y => ?_) (fun aJ Y => ?_)))))))))
  ·refine wc_skip (qs (wc_block (wc_seq ?_)))
   obtain ⟨aK, aL, aM⟩ := ob Y
   refine wc_cutg (IV w K [] ah [(2, pt x), (3, pt y), (5, .int .i64 U), (71, .bool aK)] [obj x [.slice A a b, .slice B c d] 46, obj y [.slice C f i, .slice D k l] 46]) ?_ ?_
   ·refine wc_quiet mixed (by kernel_rfl) X (kv (rv_fieldAddr ff46_1 rfl) (kh (rq_loadm1 tf44 rfl m0 rfl) (km rfl ?_)))
    obtain ⟨ai, aN, aO⟩ := ob aL
    refine ki underlying44 tf112 (H.mono (G.trans s)) aN fun aP aQ ch aR aS => ?_
    obtain ⟨aT, aU, aV, rfl, cj, ck, cl⟩ := aR
    have aW : AtK _ aP aQ [sv ai.Field, sv ai.Term, .slice aT aU aV] := aS
    refine kv (rv_fieldAddr ff112_0 rfl) (kh (rq_load1 tf9 rfl (aW 0 _ rfl)) (kv (rv_fieldAddr ff46_1 rfl) (kh (rq_loadm1 tf44 rfl m1 rfl) (km rfl ?_))))
    obtain ⟨aj, aX, aY⟩ := ob aO
    refine ki underlying44 tf112 (J.mono (G.trans s)) aX fun aZ a0 cm a1 a2 => ?_
    obtain ⟨a3, a4, a5, rfl, cn, cp, cq⟩ := a1
    have a6 : AtK _ aZ a0 [sv aj.Field, sv aj.Term, .slice a3 a4 a5] := a2
    refine kv (rv_fieldAddr ff112_0 rfl) (kh (rq_load1 tf9 rfl (a6 0 _ rfl)) (kv (rv_sneq rfl rfl) (km rfl (bt aY (fun o aa => ?_) (fun o aa => ?_)))))
    ·iterate 13 refine kn o ?_
     refine kv (rv_pick_t (v := .bool true) rfl o rfl) (km rfl ?_)
     iterate 14 refine qv rfl rfl rfl rfl ?_
     refine kv (rv_pick_t (v := .bool true) rfl rfl rfl) (wq_nil ?_)
     rintro cr ⟨a7, a8, a9⟩
     cases oi aa
     exact qd ⟨a7, rfl, a8, a9⟩
    refine kg o (rv_fieldAddr ff46_1 rfl) (kgh o (rq_loadm1 tf44 rfl m0 rfl) (kg o (rv_move rfl) ?_))
    obtain ⟨ak, ba, bb⟩ := ob aa
    refine wq_indexAddr (t := tGEntry) (wg rfl rfl o) rfl underlying44 tf112 rfl rfl (H.mono (G.trans s)) ba fun bc bd cs be bf => ?_
    obtain ⟨bg, bh, bi, rfl, ct, cu, cv⟩ := be
    have bj : AtK _ bc bd [sv ak.Field, sv ak.Term, .slice bg bh bi] := bf
    refine kg o (rv_fieldAddr ff112_1 rfl) (kgh o (rq_load1 tf9 rfl (bj 1 _ rfl)) (kg o (rv_fieldAddr ff46_1 rfl) (kgh o (rq_loadm1 tf44 rfl m1 rfl) (kg o (rv_move rfl) ?_))))
    obtain ⟨al, bk, bl⟩ := ob bb
    refine wq_indexAddr (t := tGEntry) (wg rfl rfl o) rfl underlying44 tf112 rfl rfl (J.mono (G.trans s)) bk fun bm bn cw bo bp => ?_
    obtain ⟨bq, br, bs, rfl, cx, cy, cz⟩ := bo
    have bu : AtK _ bm bn [sv al.Field, sv al.Term, .slice bq br bs] := bp
    refine kg o (rv_fieldAddr ff112_1 rfl) (kgh o (rq_load1 tf9 rfl (bu 1 _ rfl)) (kg o (rv_sneq rfl rfl) (kv (rv_pick_f rfl o rfl) (km rfl (bt bl (fun m ab => ?_) (fun m ab => ?_))))))
    ·iterate 14 refine kn m ?_
     refine kv (rv_pick_t (v := .bool true) rfl m rfl) (wq_nil ?_)
     rintro cA ⟨bv, bz, bA⟩
     cases oi ab
     exact qd ⟨bv, rfl, bz, bA⟩
    refine kg m (rv_fieldAddr ff46_1 rfl) (kgh m (rq_loadm1 tf44 rfl m0 rfl) (kg m (rv_move rfl) ?_))
    obtain ⟨am, bB, bC⟩ := ob ab
    refine wq_indexAddr (t := tGEntry) (wg rfl rfl m) rfl underlying44 tf112 rfl rfl (H.mono (G.trans s)) bB fun bD bE cB bF bG => ?_
    obtain ⟨bH, bI, bJ, rfl, cC, cD, bK⟩ := bF
    have bL : AtK _ bD bE [sv am.Field, sv am.Term, .slice bH bI bJ] := bG
    refine kg m (rv_fieldAddr ff112_2 rfl) (kgh m (rq_load1 tf57 rfl (bL 2 _ rfl)) (kg m (rv_fieldAddr ff46_1 rfl) (kgh m (rq_loadm1 tf44 rfl m1 rfl) (kg m (rv_move rfl) ?_))))
    obtain ⟨an, bM, bN⟩ := ob bC
    refine wq_indexAddr (t := tGEntry) (wg rfl rfl m) rfl underlying44 tf112 rfl rfl (J.mono (G.trans s)) bM fun bO bP cE bQ bR => ?_
    obtain ⟨bS, bT, bU, rfl, cF, cG, bV⟩ := bQ
    have bW : AtK _ bO bP [sv an.Field, sv an.Term, .slice bS bT bU] := bR
    refine kg m (rv_fieldAddr ff112_2 rfl) (kgh m (rq_load1 tf57 rfl (bW 2 _ rfl)) ?_)
    obtain ⟨cH, bX, bY⟩ := ob bN
    refine kcg m co158 (fun _ _ bZ ao => (ok_laws_foPosts F) bZ.enter0 (bK.mono ao) (bV.mono ao) bX) (kg m (rv_not rfl) (kv (rv_pick_f rfl m rfl) (wq_nil ?_)))
    rintro cI ⟨b0, b1, b2⟩
    cases oi bY
    exact qd ⟨b0, rfl, b1, b2⟩
   rintro _ cJ ⟨ap, rfl, aq, b3⟩
   refine qe_seq (wcc aM rfl (fun b4 ac => ?_) (fun b4 ac => ?_))
   ·refine sr (lv (rv_assign (v := .bool false) rfl) (nq (wc_ret (qe_block_ret (qe_then_ret (qe_then_ret ?_))))))
    cases oi ac
    cases ag _ rfl
    refine qe_block_ret (qe_then_ret ?_)
    cases oi af
    refine qe_then_ret ?_
    cases oi T
    exact ey results104 ⟨ap, rfl, aq.s⟩
   refine wc_skip (qe_block (qe_seq (wc_region (mv rfl (lv (rv_add rfl rfl) (av rfl (wl_nil ?_)))))))
   cases oi ac
   exact qd ⟨_, rfl, ap, rfl, aq, (s.trans b3), (w64_rng _)⟩
  refine wc_exit (qe_then_exit (qe_then_exit ?_))
  cases oi Y
  cases ag _ rfl
  refine qe_block_eq ?_
  cases oi af
  exact qe_mid' ⟨_, ah, rfl, rfl, X.s, s⟩ trivial
 rintro _ cK ⟨cL, b5, rfl, rfl, b6, cM⟩
 have T := elim_l T
 refine qr (lv (rv_assign (v := .bool true) rfl) (nq (wc_ret ?_)))
 cases oi T
 exact ey results104 ⟨b5, rfl, b6⟩

theorem ok_laws_foLive {p0_a : GLive} {p1_b : GLive} {r : Bool} (hS : SH w K [] w K []) (J : SliceAt tGDoc K A a b p0_a.Seg.Docs) (O : SliceAt tGEntry K B c d p0_a.Seg.Entries) (R : SliceAt tInt K C f i p0_a.Dead) (S : SliceAt tGDoc K D k l p1_b.Seg.Docs) (T : SliceAt tGEntry K G m n p1_b.Seg.Entries) (U : SliceAt tInt K H o p p1_b.Dead) (hm : M.laws_foLive F p0_a p1_b = some r) :
  Calls prog 54 #[.agg #[.slice A a b, .slice B c d, .slice C f i], .agg #[.slice D k l, .slice G m n, .slice H o p]] w fun e w' => ∃ K', e = .returned (.bool r) ∧ SH w K [] w' K' [] := by
 rw [M.laws_foLive] at hm
 refine ci func54 rfl ntmps54 (sr (bx rfl hS fun V aj W => ?_))
 have X : SH _ _ _ _ _ [obj V [.slice A a b, .slice B c d, .slice C f i] 93] := W
 refine bx rfl X fun Y ak aa => ?_
 have x : SH _ _ _ _ _ [obj Y [.slice D k l, .slice G m n, .slice H o p] 93, _] := aa
 refine lv (rv_assign (v := .bool false) rfl) (nr (fa ff93_0 rfl (lv (rv_loadmS (ds := [.slice A a b, .slice B c d]) tf46 rfl m1 x rfl rfl) (fa ff93_0 rfl (lv (rv_loadmS (ds := [.slice D k l, .slice G m n]) tf46 rfl m0 x rfl rfl) ?_)))))
 obtain ⟨al, ab, ac⟩ := ob hm
 refine lk co104 ((ok_laws_foSeg F) x.enter0 J O S T ab) ?_
 rintro am an ⟨ad, rfl, y⟩
 have s := (x.c0 y).t2
 refine mv rfl (bt ac (fun q I => ?_) (fun q I => ?_))
 ·refine lg q (rv_fieldAddr ff93_1 rfl) (lg q (rv_loadm1 tf55 rfl m1 s rfl) (lg q (rv_fieldAddr ff93_1 rfl) (lg q (rv_loadm1 tf55 rfl m0 s rfl) ?_)))
  obtain ⟨ao, ae, af⟩ := ob I
  refine wl_call (wg rfl rfl q) rfl (rt_call (vs := [.slice C f i, .slice H o p]) co44 rfl) ((ok_laws_foInts F) s.enter0 (R.mono y.le) (U.mono y.le) ae) ?_
  rintro ap aq ⟨ag, rfl, ah⟩
  refine ⟨_, rfl, ?_⟩
  have ai := (s.c0 ah).t2
  refine lv (rv_pick_t rfl q rfl) (av rfl (nq (wc_ret ?_)))
  cases oi af
  exact ey results54 ⟨ag, rfl, ai.s⟩
 iterate 5 refine lu q ?_
 refine lv (rv_pick_f (v := .bool false) rfl q rfl) (av rfl (nq (wc_ret ?_)))
 cases oi I
 exact ey results54 ⟨ad, rfl, s.s⟩

set_option maxHeartbeats 2000000 in
theorem ok_laws_foIndex {p0_a : GIndex} {p1_b : GIndex} {r : Bool} (hS : SH w K [] w K []) (aF : SliceAt tStr K A a b p0_a.Conf.Stops) (aG : SliceAt tGSyn K B c d p0_a.Conf.Syns) (U : SliceAt tGLive K C f i p0_a.Segs) (aH : SliceAt tStr K D k l p1_b.Conf.Stops) (aI : SliceAt tGSyn K G m n p1_b.Conf.Syns) (ad : SliceAt tGLive K H o p p1_b.Segs) (hm : M.laws_foIndex F p0_a p1_b = some r) :
  Calls prog 17 #[.agg #[.slice A a b, .slice B c d, .slice C f i], .agg #[.slice D k l, .slice G m n, .slice H o p]] w fun e w' => ∃ K', e = .returned (.bool r) ∧ SH w K [] w' K' [] := by
 rw [M.laws_foIndex] at hm
 refine ci func17 rfl ntmps17 (sr (bx rfl hS fun x bp aJ => ?_))
 have aK : SH _ _ _ _ _ [obj x [.slice A a b, .slice B c d, .slice C f i] 30] := aJ
 refine bx rfl aK fun y bq aL => ?_
 have O : SH _ _ _ _ _ [obj y [.slice D k l, .slice G m n, .slice H o p] 30, _] := aL
 refine lv (rv_assign (v := .bool false) rfl) (ns (wc_seq ?_))
 obtain ⟨aM, aN, aO⟩ := ob hm
 refine wc_cutg (IV w K [] K [(2, pt x), (3, pt y), (20, .bool aM)] [obj x [.slice A a b, .slice B c d, .slice C f i] 30, obj y [.slice D k l, .slice G m n, .slice H o p] 30]) ?_ ?_
 ·refine wc_region (fa ff30_0 rfl (lv (rv_loadmS (ds := [.slice A a b, .slice B c d]) tf26 rfl m1 O rfl rfl) (fa ff30_0 rfl (lv (rv_loadmS (ds := [.slice D k l, .slice G m n]) tf26 rfl m0 O rfl rfl) ?_))))
  obtain ⟨br, aP, aQ⟩ := ob aN
  refine lk co22 ((ok_laws_foConf F) O.enter0 aF aG aH aI aP) ?_
  rintro bs bu ⟨ae, rfl, I⟩
  have R := (O.c0 I).t2
  refine lv (rv_not rfl) (mv rfl (bt aQ (fun q V => ?_) (fun q V => ?_)))
  ·iterate 7 refine lu q ?_
   refine lv (rv_pick_t (v := .bool true) rfl q rfl) (wl_nil ?_)
   cases oi V
   exact qd ⟨ae, rfl, R.f1, I.le⟩
  refine lg q (rv_fieldAddr ff30_1 rfl) (lg q (rv_loadm1 tf28 rfl m1 R rfl) (lg q (rv_len (t := tGLive) underlying28 rfl (U.mono I.le)) (lg q (rv_fieldAddr ff30_1 rfl) (lg q (rv_loadm1 tf28 rfl m0 R rfl) (lg q (rv_len (t := tGLive) underlying28 rfl (ad.mono I.le)) (lg q (rv_neq rfl rfl) (lv (rv_pick_f rfl q rfl) (wl_nil ?_))))))))
  cases oi V
  exact qd ⟨ae, rfl, R.f1, I.le⟩
 rintro _ bv ⟨S, rfl, af, W⟩
 refine qe_seq (wcc aO rfl (fun aR X => ?_) (fun aR X => ?_))
 ·refine sr (lv (rv_assign (v := .bool false) rfl) (nq (rr ?_)))
  cases oi X
  exact ey results17 ⟨S, rfl, af.s⟩
 refine wc_skip (qs (sr (lv (rv_assign (v := .int .i64 0) rfl) (nq ?_))))
 obtain ⟨aS, aT, T⟩ := ob X
 refine wc_cutg (IE aS w K [] S [] []) ?_ ?_
 ·refine wc_block ?_
  obtain ⟨bz, aU, ag⟩ := ob aT
  refine qw (fun (Y : Int) => IW w K [] S [(2, pt x), (3, pt y), (5, .int .i64 Y)] [obj x [.slice A a b, .slice B c d, .slice C f i] 30, obj y [.slice D k l, .slice G m n, .slice H o p] 30] (rng64 Y)) aU ⟨S, rfl, af, kr, (by decide : rng64 0)⟩ ?_
  rintro Y _ bA bB aV ah ⟨aW, rfl, aa, J, bC⟩
  refine wc_seq (sr (mv rfl (fa ff30_1 rfl (lv (rv_loadm1 tf28 rfl m0 aa rfl) (lv (rv_len (t := tGLive) underlying28 rfl (U.mono (W.trans J))) (lv (rv_lss rfl rfl) (nq (wcc aV rfl (fun aX ab => ?_) (fun aX ab => ?_)))))))))
  ·refine wc_skip (qs (wc_block (wc_seq (wc_quiet mixed (by kernel_rfl) aa (kv (rv_fieldAddr ff30_1 rfl) (kh (rq_loadm1 tf28 rfl m0 rfl) (km rfl ?_)))))))
   obtain ⟨bD, aY, aZ⟩ := ob ab
   refine ki underlying28 tf93 (U.mono (W.trans J)) aY fun a0 a1 bE a2 a3 => ?_
   obtain ⟨ai, aj, ak, al, am, an, ao, ap, aq, rfl, a4, a5, a6⟩ := a2
   have a7 : AtK _ a0 a1 [.slice ai aj ak, .slice al am an, .slice ao ap aq] := a3
   refine kh (rq_loadS (cs := [.slice ai aj ak, .slice al am an, .slice ao ap aq]) tf93 rfl a7 rfl) (kv (rv_fieldAddr ff30_1 rfl) (kh (rq_loadm1 tf28 rfl m1 rfl) (km rfl ?_)))
   obtain ⟨bF, a8, a9⟩ := ob aZ
   refine ki underlying28 tf93 (ad.mono (W.trans J)) a8 fun ba bb bG bc bd => ?_
   obtain ⟨ar, au, aw, ax, ay, az, aA, aB, aC, rfl, be, bf, bg⟩ := bc
   have bh : AtK _ ba bb [.slice ar au aw, .slice ax ay az, .slice aA aB aC] := bd
   refine kh (rq_loadS (cs := [.slice ar au aw, .slice ax ay az, .slice aA aB aC]) tf93 rfl bh rfl) ?_
   obtain ⟨bH, bi, bj⟩ := ob a9
   refine kc co54 (fun _ _ bk s => (ok_laws_foLive F) bk.enter0 (a4.mono s) (a5.mono s) (a6.mono s) (be.mono s) (bf.mono s) (bg.mono s) bi) (kv (rv_not rfl) (wq_nil ?_))
   rintro bI ⟨aD, aE, bl⟩
   refine qe_seq (wcc bj rfl (fun bm ac => ?_) (fun bm ac => ?_))
   ·refine sr (lv (rv_assign (v := .bool false) rfl) (nq (wc_ret (qe_block_ret (qe_then_ret (qe_then_ret ?_))))))
    cases oi ac
    cases ah _ rfl
    refine qe_block_ret (qe_then_ret ?_)
    cases oi ag
    refine qe_then_ret ?_
    cases oi T
    exact ey results17 ⟨aD, rfl, aE.s⟩
   refine wc_skip (qe_block (qe_seq (wc_region (mv rfl (lv (rv_add rfl rfl) (av rfl (wl_nil ?_)))))))
   cases oi ac
   exact qd ⟨_, rfl, aD, rfl, aE, (J.trans bl), (w64_rng _)⟩
  refine wc_exit (qe_then_exit (qe_then_exit ?_))
  cases oi ab
  cases ah _ rfl
  refine qe_block_eq ?_
  cases oi ag
  exact qe_mid' ⟨_, aW, rfl, rfl, aa.s, J⟩ trivial
 rintro _ bJ ⟨bK, bn, rfl, rfl, bo, bL⟩
 have T := elim_l T
 refine qr (lv (rv_assign (v := .bool true) rfl) (nq (wc_ret ?_)))
 cases oi T
 exact ey results17 ⟨bn, rfl, bo⟩

theorem ok_spec_l1In {p0_n : Int} {p1_low : Int} {p2_high : Int} {r : Bool} (hS : SH w K [] w K []) (c : rng64 p0_n) (d : rng64 p1_low) (f : rng64 p2_high) (hm : M.spec_l1In F p0_n p1_low p2_high = some r) :
  Calls prog 87 #[.int .i64 p0_n, .int .i64 p1_low, .int .i64 p2_high] w fun e w' => ∃ K', e = .returned (.bool r) ∧ SH w K [] w' K' [] := by
 rw [M.spec_l1In] at hm
 refine ci func87 rfl ntmps87 (sr (lv (rv_assign (v := .bool false) rfl) (nr (mv rfl (mv rfl (lv (rv_geq rfl rfl) (mv rfl (bt hm (fun a b => ?_) (fun a b => ?_)))))))))
 ·refine lg a (rv_move rfl) (lg a (rv_move rfl) (lg a (rv_leq rfl rfl) (lv (rv_pick_t rfl a rfl) (av rfl (nq (wc_ret ?_))))))
  cases oi b
  exact ey results87 ⟨K, rfl, hS⟩
 refine lu a (lu a (lu a (lv (rv_pick_f (v := .bool false) rfl a rfl) (av rfl (nq (wc_ret ?_))))))
 cases oi b
 exact ey results87 ⟨K, rfl, hS⟩

set_option maxHeartbeats 2000000 in
theorem ok_spec_l1Fold {p0_b : UInt8} {r : UInt8} (hS : SH w K [] w K []) (hm : M.spec_l1Fold F p0_b = some r) :
  Calls prog 138 #[iv8 p0_b] w fun e w' => ∃ K', e = .returned (iv8 r) ∧ SH w K [] w' K' [] := by
 rw [M.spec_l1Fold] at hm
 refine ci func138 rfl ntmps138 (sr (lv (rv_assign (v := iv8 0) rfl) (ns (wc_block (wc_seq ?_)))))
 obtain ⟨D, G, H⟩ := ob hm
 refine wc_cutg (IV w K [] K [(0, iv8 p0_b), (3, .bool D)] []) ?_ ?_
 ·refine wc_region (mv rfl (lv (rv_bge (b := (65 : UInt8)) rfl rfl) (mv rfl (bt G (fun c m => ?_) (fun c m => ?_)))))
  ·refine lg c (rv_move rfl) (lg c (rv_ble (b := (90 : UInt8)) rfl rfl) (lv (rv_pick_t rfl c rfl) (av rfl (wl_nil ?_))))
   cases oi m
   exact qd ⟨K, rfl, hS, kr⟩
  refine lu c (lu c (lv (rv_pick_f (v := .bool false) rfl c rfl) (av rfl (wl_nil ?_))))
  cases oi m
  exact qd ⟨K, rfl, hS, kr⟩
 rintro _ T ⟨d, rfl, l, U⟩
 refine qe_seq (wcc H rfl (fun I o => ?_) (fun I o => ?_))
 ·refine sr (mv rfl (lv (rv_badd (b := (32 : UInt8)) rfl rfl) (av rfl (nq (wc_ret (qe_block_ret (qe_then_ret ?_)))))))
  cases oi o
  exact ey results138 ⟨d, rfl, l⟩
 refine wc_seq ?_
 obtain ⟨J, O, R⟩ := ob o
 refine wc_cutg (IV w K [] d [(0, iv8 p0_b), (12, .bool J)] []) ?_ ?_
 ·refine wc_region (mv rfl (lv (rv_bge (b := (97 : UInt8)) rfl rfl) (mv rfl (bt O (fun f q => ?_) (fun f q => ?_)))))
  ·refine lg f (rv_move rfl) (lg f (rv_ble (b := (122 : UInt8)) rfl rfl) (lv (rv_pick_t rfl f rfl) (mv rfl (bt q (fun a s => ?_) (fun a s => ?_)))))
   ·refine lu a (lu a (lu a (wl_un (uu rfl rfl) rfl (wl_un (uu rfl rfl) rfl (lu a (lv (rv_pick_t (v := .bool true) rfl a rfl) (av rfl (wl_nil ?_))))))))
    cases oi s
    exact qd ⟨d, rfl, l, kr⟩
   refine lg a (rv_move rfl) (lg a (rv_bge (b := (48 : UInt8)) rfl rfl) (lg a (rv_move rfl) (bt s (fun i x => ?_) (fun i x => ?_))))
   ·refine lg i (rv_move rfl) (lg i (rv_ble (b := (57 : UInt8)) rfl rfl) (lg a (rv_pick_t rfl i rfl) (lv (rv_pick_f rfl a rfl) (av rfl (wl_nil ?_)))))
    cases oi x
    exact qd ⟨d, rfl, l, kr⟩
   refine lu i (lu i (lg a (rv_pick_f (v := .bool false) rfl i rfl) (lv (rv_pick_f rfl a rfl) (av rfl (wl_nil ?_)))))
   cases oi x
   exact qd ⟨d, rfl, l, kr⟩
  refine lu f (lu f (lv (rv_pick_f (v := .bool false) rfl f rfl) (mv rfl (lg rfl (rv_move rfl) (lg rfl (rv_bge (b := (48 : UInt8)) rfl rfl) (lg rfl (rv_move rfl) (bt q (fun k y => ?_) (fun k y => ?_))))))))
  ·refine lg k (rv_move rfl) (lg k (rv_ble (b := (57 : UInt8)) rfl rfl) (lg rfl (rv_pick_t rfl k rfl) (lv (rv_pick_f rfl rfl rfl) (av rfl (wl_nil ?_)))))
   cases oi y
   exact qd ⟨d, rfl, l, kr⟩
  refine lu k (lu k (lg rfl (rv_pick_f (v := .bool false) rfl k rfl) (lv (rv_pick_f rfl rfl rfl) (av rfl (wl_nil ?_)))))
  cases oi y
  exact qd ⟨d, rfl, l, kr⟩
 rintro _ V ⟨B, rfl, C, W⟩
 refine qe_seq (wcc R rfl (fun S A => ?_) (fun S A => ?_))
 ·refine sr (mv rfl (av rfl (nq (wc_ret (qe_block_ret (qe_then_ret ?_))))))
  cases oi A
  exact ey results138 ⟨B, rfl, C⟩
 refine wc_skip (qe_block (qr (lv (rv_assign (v := iv8 0) rfl) (nq (wc_ret ?_)))))
 cases oi A
 exact ey results138 ⟨B, rfl, C⟩

theorem ok_spec_l1WordOk {p0_s : Str} {r : Bool} (hS : SH w K [] w K []) (B : p0_s.length ≤ maxLen) (hm : M.spec_l1WordOk F p0_s = some r) :
  Calls prog 85 #[sv p0_s] w fun e w' => ∃ K', e = .returned (.bool r) ∧ SH w K [] w' K' [] := by
 rw [M.spec_l1WordOk] at hm
 refine ci func85 rfl ntmps85 (sr (lv (rv_assign (v := .bool false) rfl) (nsr (lv (rv_assign (v := .int .i64 0) rfl) (nq ?_)))))
 obtain ⟨C, D, c⟩ := ob hm
 refine wc_cutg (IE C w K [] K [(0, sv p0_s)] []) ?_ ?_
 ·refine wc_block ?_
  obtain ⟨ap, G, l⟩ := ob D
  refine qw (fun (d : Int) => IW w K [] K [(0, sv p0_s), (3, .int .i64 d)] [] (rng64 d)) G ⟨K, rfl, hS, kr, (by decide : rng64 0)⟩ ?_
  rintro d _ aq ar H m ⟨o, rfl, q, s, au⟩
  refine wc_seq (sr (mv rfl (mv rfl (lv (rv_slen underlying9 rfl) (lv (rv_lss rfl rfl) (nq (wcc H rfl (fun I f => ?_) (fun I f => ?_))))))))
  ·refine wc_skip (qs (wc_block (wc_seq ?_)))
   obtain ⟨J, O, R⟩ := ob f
   refine wc_cutg (IV w K [] o [(0, sv p0_s), (3, .int .i64 d), (23, .bool J)] []) ?_ ?_
   ·refine wc_quiet mixed (by kernel_rfl) q (km rfl (km rfl ?_))
    obtain ⟨aw, S, T⟩ := ob O
    refine kv (rv_sidx underlying9 rfl rfl S) ?_
    obtain ⟨ax, U, V⟩ := ob T
    refine kc co138 (fun _ _ W ay => (ok_spec_l1Fold F) W.enter0  U) (km rfl (km rfl ?_))
    obtain ⟨az, X, Y⟩ := ob V
    refine kv (rv_sidx underlying9 rfl rfl X) (kv (rv_bne rfl rfl) (km rfl (bt Y (fun a i => ?_) (fun a i => ?_))))
    ·refine kn a (kn a (kn a (kn a (kv (rv_pick_t (v := .bool true) rfl a rfl) (wq_nil ?_)))))
     rintro aA ⟨aa, ab, ac⟩
     cases oi i
     exact qd ⟨aa, rfl, ab, ac⟩
    refine kg a (rv_move rfl) (kg a (rv_move rfl) ?_)
    obtain ⟨aB, ad, ae⟩ := ob i
    refine kg a (rv_sidx underlying9 rfl rfl ad) (kg a (rv_beq (b := (0 : UInt8)) rfl rfl) (kv (rv_pick_f rfl a rfl) (wq_nil ?_)))
    rintro aC ⟨af, ag, ah⟩
    cases oi ae
    exact qd ⟨af, rfl, ag, ah⟩
   rintro _ aD ⟨x, rfl, y, ai⟩
   refine qe_seq (wcc R rfl (fun aj k => ?_) (fun aj k => ?_))
   ·refine sr (lv (rv_assign (v := .bool false) rfl) (nq (wc_ret (qe_block_ret (qe_then_ret (qe_then_ret ?_))))))
    cases oi k
    cases m _ rfl
    refine qe_block_ret (qe_then_ret ?_)
    cases oi l
    refine qe_then_ret ?_
    cases oi c
    exact ey results85 ⟨x, rfl, y⟩
   refine wc_skip (qe_block (qe_seq (wc_region (mv rfl (lv (rv_add rfl rfl) (av rfl (wl_nil ?_)))))))
   cases oi k
   exact qd ⟨_, rfl, x, rfl, y, (s.trans ai), (w64_rng _)⟩
  refine wc_exit (qe_then_exit (qe_then_exit ?_))
  cases oi f
  cases m _ rfl
  refine qe_block_eq ?_
  cases oi l
  exact qd ⟨_, o, rfl, rfl, q, s⟩
 rintro _ w8 ⟨s5, K6, rfl, rfl, A, aH⟩
 have c := elim_l c
 refine qr (mv rfl (lv (rv_slen underlying9 rfl) ?_))
 obtain ⟨aI, ak, al⟩ := ob c
 refine lk co87 ((ok_spec_l1In F) A.enter0 (rng_nat B) (by decide : rng64 1) (by decide : rng64 12) ak) ?_
 rintro aJ aK ⟨am, rfl, an⟩
 have ao := (A.c0 an).t0
 refine av rfl (nq (wc_ret ?_))
 cases oi al
 exact ey results85 ⟨am, rfl, ao⟩

theorem ok_spec_l2Has {p0_list : List Str} {p1_s : Str} {r : Bool} (hS : SH w K [] w K []) (o : SliceAt tStr K A a b p0_list) (X : p1_s.length ≤ maxLen) (hm : M.spec_l2Has F p0_list p1_s = some r) :
  Calls prog 89 #[.slice A a b, sv p1_s] w fun e w' => ∃ K', e = .returned (.bool r) ∧ SH w K [] w' K' [] := by
 rw [M.spec_l2Has] at hm
 refine ci func89 rfl ntmps89 (sr (lv (rv_assign (v := .bool false) rfl) (nsr (lv (rv_assign (v := .int .i64 0) rfl) (nq ?_)))))
 obtain ⟨x, y, c⟩ := ob hm
 refine wc_cutg (IE x w K [] K [] []) ?_ ?_
 ·refine wc_block ?_
  obtain ⟨Y, B, q⟩ := ob y
  refine qw (fun (i : Int) => IW w K [] K [(0, .slice A a b), (1, sv p1_s), (5, .int .i64 i)] [] (rng64 i)) B ⟨K, rfl, hS, kr, (by decide : rng64 0)⟩ ?_
  rintro i _ aa ab C s ⟨k, rfl, d, f, ac⟩
  refine wc_seq (sr (mv rfl (mv rfl (lv (rv_len (t := tStr) underlying23 rfl (o.mono f)) (lv (rv_lss rfl rfl) (nq (wcc C rfl (fun D l => ?_) (fun D l => ?_))))))))
  ·refine wc_skip (qs (wc_block (sr (mv rfl (mv rfl ?_)))))
   obtain ⟨G, H, I⟩ := ob l
   refine li underlying23 tf9 (o.mono f) H fun J O ad R S => ?_
   obtain ⟨rfl, ae⟩ := R
   have T : AtK _ J O [sv G] := S
   refine lv (rv_load1 tf9 rfl d (T 0 _ rfl)) (mv rfl (lv (rv_seql rfl rfl) (nq (wcc I rfl (fun U m => ?_) (fun U m => ?_)))))
   ·refine sr (lv (rv_assign (v := .bool true) rfl) (nq (wc_ret (qe_block_ret (qe_then_ret (qe_then_ret ?_))))))
    cases oi m
    cases s _ rfl
    refine qe_block_ret (qe_then_ret ?_)
    cases oi q
    refine qe_then_ret ?_
    cases oi c
    exact ey results89 ⟨k, rfl, d⟩
   refine wc_skip (qe_block (qe_seq (wc_region (mv rfl (lv (rv_add rfl rfl) (av rfl (wl_nil ?_)))))))
   cases oi m
   exact qd ⟨_, rfl, k, rfl, d, f, (w64_rng _)⟩
  refine wc_exit (qe_then_exit (qe_then_exit ?_))
  cases oi l
  cases s _ rfl
  refine qe_block_eq ?_
  cases oi q
  exact qe_mid' ⟨_, k, rfl, rfl, d, f⟩ trivial
 rintro _ af ⟨s9, V, rfl, rfl, W, ah⟩
 have c := elim_l c
 refine qr (lv (rv_assign (v := .bool false) rfl) (nq (wc_ret ?_)))
 cases oi c
 exact ey results89 ⟨V, rfl, W⟩

theorem ok_spec_l2Ends {r : (List Str)} (hS : SH w K [] w K []) (hm : M.spec_l2Ends F  = some r) :
  Calls prog 199 #[] w fun e w' => ∃ a_1 n_2 c_3 K', e = .returned (.slice a_1 n_2 c_3) ∧ SH w K [] w' K' [tail (.slice a_1 n_2 c_3) 9 1] ∧ SliceAt tStr K' a_1 n_2 c_3 r := by
 rw [M.spec_l2Ends] at hm
 refine ci func199 rfl ntmps199 (sr (lv (rv_assign (v := .slice none 0 0) rfl) (nr (bw [[105, 110, 103], [101, 100], [101, 115], [108, 121], [115]] underlying23 tf9 hS fun a f b i c d => (av rfl (nq (wc_ret ?_)))))))
 cases oi hm
 exact ey results199 ⟨a, 5, 5, b, rfl, d, c⟩

set_option maxHeartbeats 2000000 in
theorem ok_spec_l2Once {p0_s : Str} {r : Str} (hS : SH w K [] w K []) (q : p0_s.length ≤ maxLen) (hm : M.spec_l2Once F p0_s = some r) :
  Calls prog 159 #[sv p0_s] w fun e w' => ∃ K', e = .returned (sv r) ∧ SH w K [] w' K' [] ∧ r.length ≤ maxLen := by
 rw [M.spec_l2Once] at hm
 refine ci func159 rfl ntmps159 (sr (lv (rv_assign (v := sv []) rfl) (nsr (lv (rv_assign (v := .int .i64 0) rfl) (nq ?_)))))
 obtain ⟨I, J, b⟩ := ob hm
 refine wc_cutg (IE I w K [] K [(0, sv p0_s)] []) ?_ ?_
 ·refine wc_block ?_
  obtain ⟨au, O, s⟩ := ob J
  refine qw (fun (c : Int) => IW w K [] K [(0, sv p0_s), (3, .int .i64 c)] [] (rng64 c)) O ⟨K, rfl, hS, kr, (by decide : rng64 0)⟩ ?_
  rintro c _ aw ax R x ⟨ay, rfl, y, A, az⟩
  refine wc_seq (sr (mv rfl ?_))
  obtain ⟨aA, S, T⟩ := ob R
  refine lk co199 ((ok_spec_l2Ends F) y.enter0  S) ?_
  rintro aB aC ⟨aD, aE, aF, U, rfl, d, V⟩
  have f := (y.c0 d).t1
  refine lv (rv_len (t := tStr) underlying23 rfl V) (lv (rv_lss rfl rfl) (nq (wcc T rfl (fun W i => ?_) (fun W i => ?_))))
  ·refine wc_skip (qs (wc_block (sr ?_)))
   obtain ⟨aG, X, Y⟩ := ob i
   refine lk co199 ((ok_spec_l2Ends F) f.enter0  X) ?_
   rintro aH aI ⟨aJ, aK, aL, k, rfl, B, aa⟩
   have l := (f.c0 B).t2
   refine mv rfl ?_
   obtain ⟨C, ab, ac⟩ := ob Y
   refine li underlying23 tf9 aa ab fun ad ae aM af ag => ?_
   obtain ⟨rfl, aN⟩ := af
   have ah : AtK _ ad ae [sv C] := ag
   refine lv (rv_load1 tf9 rfl l (ah 0 _ rfl)) (av rfl (nr (mv rfl (lv (rv_slen underlying9 rfl) (mv rfl (lv (rv_slen underlying9 rfl) (lv (rv_sub rfl rfl) (av rfl (ns ?_)))))))))
   obtain ⟨ai, aj, ak⟩ := ob ac
   refine wc_cutg (IV w K [] k [(0, sv p0_s), (3, .int .i64 c), (5, .int .i64 (w64 ((p0_s.length : Int) - (C.length : Int)))), (29, .bool ai)] []) ?_ ?_
   ·refine wc_region (mv rfl (lv (rv_geq rfl rfl) (mv rfl (bt aj (fun a m => ?_) (fun a m => ?_)))))
    ·refine lg a (rv_move rfl) (lg a (rv_move rfl) ?_)
     obtain ⟨aO, al, am⟩ := ob m
     refine lg a (rv_ssl_l underlying9 rfl rfl al) (lg a (rv_move rfl) (lg a (rv_seql rfl rfl) (lv (rv_pick_t rfl a rfl) (wl_nil ?_))))
     cases oi am
     exact qd ⟨k, rfl, l.s, kr⟩
    iterate 5 refine lu a ?_
    refine lv (rv_pick_f (v := .bool false) rfl a rfl) (wl_nil ?_)
    cases oi m
    exact qd ⟨k, rfl, l.s, kr⟩
   rintro _ aP ⟨D, rfl, G, an⟩
   refine qe_seq (wcc ak rfl (fun ao o => ?_) (fun ao o => ?_))
   ·refine sr (mv rfl (mv rfl ?_))
    obtain ⟨aQ, H, ap⟩ := ob o
    refine lv (rv_ssl_h underlying9 rfl rfl H) (av rfl (nq (wc_ret (qe_block_ret (qe_then_ret (qe_then_ret ?_))))))
    cases oi ap
    cases x _ rfl
    refine qe_block_ret (qe_then_ret ?_)
    cases oi s
    refine qe_then_ret ?_
    cases oi b
    exact ey results159 ⟨D, rfl, G, (len_sub q H)⟩
   refine wc_skip (qe_block (qe_seq (wc_region (mv rfl (lv (rv_add rfl rfl) (av rfl (wl_nil ?_)))))))
   cases oi o
   exact qd ⟨_, rfl, D, rfl, G, (((A.trans d.le).trans B.le).trans an), (w64_rng _)⟩
  refine wc_exit (qe_then_exit (qe_then_exit ?_))
  cases oi i
  cases x _ rfl
  refine qe_block_eq ?_
  cases oi s
  exact qd ⟨_, U, rfl, rfl, f.s, (A.trans d.le)⟩
 rintro _ w8 ⟨s5, K6, rfl, rfl, ar, aT⟩
 have b := elim_l b
 refine qr (mv rfl (av rfl (nq (wc_ret ?_))))
 cases oi b
 exact ey results159 ⟨K6, rfl, ar, q⟩
end Go.Proofs.YtmkhlppjphodfaaGreatDoor
