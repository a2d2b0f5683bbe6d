/-
 Walks of the functions. Printed by gen.py.
-/
import Derived.Test.YtoeajphlomankaaGreatDoorWalkA5
set_option linter.unusedVariables false
set_option maxRecDepth 100000
namespace Go.Proofs.YtoeajphlomankaaGreatDoor
open Go Go.Fk Go.RowKit Tryz

set_option maxHeartbeats 2000000 in
theorem ok_spec_l2Ok (F : Nat) {w : World} {K : KMap} {k : Option Addr} {l m : Nat} {s : Option Addr} {x y : Nat} {p0_c : GConf} {r : Bool} (hS : SH w K [] w K []) (R : SliceAt tStr K k l m p0_c.Stops) (an : SliceAt tGSyn K s x y p0_c.Syns) (hm : M.spec_l2Ok F p0_c = some r) :
  Calls Tryz.prog 52 #[.agg #[.slice k l m, .slice s x y]] w fun e w' => ∃ K', e = .returned (.bool r) ∧ SH w K [] w' K' [] := by
 rw [M.spec_l2Ok] at hm
 refine calls_in func52 rfl ntmps52 rfl (sr (bx rfl hS fun d dX bm => ?_))
 have bn : SH _ _ _ _ _ [obj d [.slice k l m, .slice s x y] 26] := bm
 refine lv (rv_assign (v := .bool false) rfl) (nsr (lv (rv_assign (v := .int .i64 0) rfl) (nq ?_)))
 obtain ⟨bo, bp, af⟩ := ob hm
 refine wc_cutg (fun E' w' => ∃ aI S, bo = .inl aI ∧ E' = [(1, pt d)] ∧ SH w K [] w' S [obj d [.slice k l m, .slice s x y] 26] ∧ KLe K S) ?_ ?_
 ·refine wc_block ?_
  obtain ⟨dY, bq, aJ⟩ := ob bp
  refine qw (fun (V : Int) E' w' => ∃ W, E' = [(1, pt d), (3, .int .i64 V)] ∧ SH w K [] w' W [obj d [.slice k l m, .slice s x y] 26] ∧ KLe K W ∧ rng64 V) bq ⟨K, rfl, bn, (KLe.refl _), (by decide : rng64 0)⟩ ?_
  rintro V _ dZ d0 br aK ⟨W, rfl, ao, T, d1⟩
  refine wc_seq (sr (mv rfl (fa ff26_0 rfl (lv (rv_loadm1 tf23 rfl m0 ao rfl) (lv (rv_len (t := tStr) underlying23 rfl (R.mono T)) (lv (rv_lss rfl rfl) (nq (wcc br rfl (fun bs ap => ?_) (fun bs ap => ?_)))))))))
  ·refine wc_skip (qs (wc_block (wc_seq ?_)))
   obtain ⟨bt, bu, bv⟩ := ob ap
   refine wc_cutg (fun E' w' => ∃ X, E' = [(1, pt d), (3, .int .i64 V), (38, .bool bt)] ∧ SH w K [] w' X [obj d [.slice k l m, .slice s x y] 26] ∧ KLe W X) ?_ ?_
   ·refine wc_quiet mixed (by kernel_rfl) ao (kv (rv_fieldAddr ff26_0 rfl) (kh (rq_loadm1 tf23 rfl m0 rfl) (km rfl ?_)))
    obtain ⟨aL, bw, bz⟩ := ob bu
    refine ki underlying23 tf9 (R.mono T) bw fun bA bB d2 bC bD => ?_
    obtain ⟨rfl, bE⟩ := bC
    have bF : AtK _ bA bB [sv aL] := bD
    refine kh (rq_load1 tf9 rfl (bF 0 _ rfl)) ?_
    obtain ⟨aM, bG, aN⟩ := ob bz
    refine wq_call (v := .bool aM) wn rfl (fun _ => rt_call (vs := [sv aL]) co72 rfl) (fun d3 ⟨d4, aO, bH⟩ => ((ok_spec_l1WordOk F) aO.enter0 bE bG).mono fun e w' ⟨K', he, hS'⟩ => ⟨he, K', aO.call0 hS', bH.trans hS'.le⟩) (kv (rv_not rfl) (km rfl ?_))
    rcases bool_tf ((!aM)) with i | i
    ·have ag := cond_t i aN
     refine kn i (kn i (kn i (ku (ku (ku (ku (ku (ku (ku ?_)))))))))
     refine ku (ku (ku (ku (ku (kn i (kv (rv_pick_t (v := .bool true) rfl i rfl) (wq_nil ?_)))))))
     rintro d5 ⟨bI, bJ, bK⟩
     obtain rfl := oi ag
     exact qd ⟨bI, rfl, bJ, bK⟩
    have ag := cond_f i aN
    refine kg i (rv_move rfl) (kg i (rv_gtr rfl rfl) (kg i (rv_move rfl) ?_))
    rcases bool_tf (decide ((0 : Int) < V)) with a | a
    ·have aq := cond_t a ag
     refine kg a (rv_fieldAddr ff26_0 rfl) (kgh a (rq_loadm1 tf23 rfl m0 rfl) (kg a (rv_move rfl) ?_))
     obtain ⟨bL, bM, bN⟩ := ob aq
     refine wq_indexAddr (t := tStr) (wg rfl rfl a) rfl underlying23 tf9 rfl rfl (R.mono T) bM fun bO bP d6 bQ bR => ?_
     obtain ⟨rfl, d7⟩ := bQ
     have bS : AtK _ bO bP [sv bL] := bR
     refine kgh a (rq_load1 tf9 rfl (bS 0 _ rfl)) (kg a (rv_fieldAddr ff26_0 rfl) (kgh a (rq_loadm1 tf23 rfl m0 rfl) (kg a (rv_move rfl) (kg a (rv_sub rfl rfl) ?_))))
     obtain ⟨bT, bU, bV⟩ := ob bN
     refine wq_indexAddr (t := tStr) (wg rfl rfl a) rfl underlying23 tf9 rfl rfl (R.mono T) bU fun bW bX d8 bY bZ => ?_
     obtain ⟨rfl, d9⟩ := bY
     have b0 : AtK _ bW bX [sv bT] := bZ
     refine kgh a (rq_load1 tf9 rfl (b0 0 _ rfl)) (kg a (rv_sleq rfl rfl) (kg i (rv_pick_t rfl a rfl) (kv (rv_pick_f rfl i rfl) (wq_nil ?_))))
     rintro ea ⟨b1, b2, b3⟩
     obtain rfl := oi bV
     exact qd ⟨b1, rfl, b2, b3⟩
    have aq := cond_f a ag
    refine kn a (kn a (kn a (kn a (kn a (kn a (kn a (kn a (kn a (kn a ?_)))))))))
    refine kn a (kn a (kg i (rv_pick_f (v := .bool false) rfl a rfl) (kv (rv_pick_f rfl i rfl) (wq_nil ?_))))
    rintro eb ⟨b4, b5, b6⟩
    obtain rfl := oi aq
    exact qd ⟨b4, rfl, b5, b6⟩
   rintro _ ec ⟨X, rfl, aP, b7⟩
   refine qe_seq (wcc bv rfl (fun b8 ar => ?_) (fun b8 ar => ?_))
   ·refine sr (lv (rv_assign (v := .bool false) rfl) (nq (wc_ret (qe_block_ret (qe_then_ret (qe_then_ret ?_))))))
    obtain rfl := oi ar
    have b9 := aK _ rfl
    subst b9
    refine qe_block_ret (qe_then_ret ?_)
    obtain rfl := oi aJ
    refine qe_then_ret ?_
    obtain rfl := oi af
    have ca := aP.sb (sd sz)
    exact er results52 ⟨rfl, trivial⟩ ⟨X, rfl, ca⟩
   refine wc_skip (qe_block (qe_seq (wc_region (mv rfl (lv (rv_add rfl rfl) (av rfl (wl_nil ?_)))))))
   obtain rfl := oi ar
   exact qd ⟨_, rfl, X, rfl, aP, (T.trans b7), (w64_rng _)⟩
  refine wc_exit (qe_then_exit (qe_then_exit ?_))
  obtain rfl := oi ap
  have cb := aK _ rfl
  subst cb
  refine qe_block_eq ?_
  obtain rfl := oi aJ
  exact qd ⟨_, W, rfl, rfl, ao, T⟩
 rintro _ ed ⟨aI, S, rfl, rfl, cc, Y⟩
 have af := elim_l af
 refine qs (sr (lv (rv_assign (v := .int .i64 0) rfl) (nq ?_)))
 obtain ⟨cd, ce, U⟩ := ob af
 refine wc_cutg (fun E' w' => ∃ aQ Z, cd = .inl aQ ∧ E' = [(1, pt d)] ∧ SH w K [] w' Z [obj d [.slice k l m, .slice s x y] 26] ∧ KLe S Z) ?_ ?_
 ·refine wc_block ?_
  obtain ⟨ee, cf, au⟩ := ob ce
  refine qw (fun (C : Int) E' w' => ∃ D, E' = [(1, pt d), (4, .int .i64 C)] ∧ SH w K [] w' D [obj d [.slice k l m, .slice s x y] 26] ∧ KLe S D ∧ rng64 C) cf ⟨S, rfl, cc, (KLe.refl _), (by decide : rng64 0)⟩ ?_
  rintro C _ ef eg cg aw ⟨D, rfl, aa, ab, eh⟩
  refine wc_seq (sr (mv rfl (fa ff26_1 rfl (lv (rv_loadm1 tf24 rfl m0 aa rfl) (lv (rv_len (t := tGSyn) underlying24 rfl (an.mono (Y.trans ab))) (lv (rv_lss rfl rfl) (nq (wcc cg rfl (fun ch ax => ?_) (fun ch ax => ?_)))))))))
  ·refine wc_skip (qs (wc_block (sr (fa ff26_1 rfl (lv (rv_loadm1 tf24 rfl m0 aa rfl) (mv rfl ?_))))))
   obtain ⟨A, ci, cj⟩ := ob ax
   refine li underlying24 tf105 (an.mono (Y.trans ab)) ci fun ck cl ei cm cn => ?_
   obtain ⟨G, H, I, rfl, J, ay⟩ := cm
   have cp : AtK _ ck cl [.slice G H I, sv A.To] := cn
   refine lv (rv_loadS (cs := [.slice G H I, sv A.To]) tf105 rfl aa cp rfl) (al tf105 aa fun O ej cq => ?_)
   have cr : SH _ _ _ _ _ [obj O [.slice none 0 0, sv []] 105, _] := cq
   refine ls [.slice G H I, sv A.To] (.agg #[.slice G H I, sv A.To]) tf105 cr fun ek ct => (nsr (lv (rv_assign (v := .int .i64 0) rfl) (nq ?_)))
   obtain ⟨cu, cv, ah⟩ := ob cj
   refine wc_cutg (fun E' w' => ∃ aR ai, cu = .inl aR ∧ E' = [(1, pt d), (4, .int .i64 C), (5, pt O)] ∧ SH w K [] w' ai [obj d [.slice k l m, .slice s x y] 26, obj O [.slice G H I, sv A.To] 105] ∧ KLe D ai) ?_ ?_
   ·refine wc_block ?_
    obtain ⟨el, cw, aS⟩ := ob cv
    refine qw (fun (aj : Int) E' w' => ∃ ac, E' = [(1, pt d), (4, .int .i64 C), (5, pt O), (6, .int .i64 aj)] ∧ SH w K [] w' ac [obj d [.slice k l m, .slice s x y] 26, obj O [.slice G H I, sv A.To] 105] ∧ KLe D ac ∧ rng64 aj) cw ⟨D, rfl, ct.f1, (KLe.refl _), (by decide : rng64 0)⟩ ?_
    rintro aj _ em en cx aT ⟨ac, rfl, ak, B, eo⟩
    refine wc_seq (sr (mv rfl (fa ff105_0 rfl (lv (rv_loadm1 tf23 rfl m1 ak rfl) (lv (rv_len (t := tStr) underlying23 rfl (J.mono B)) (lv (rv_lss rfl rfl) (nq (wcc cx rfl (fun cy az => ?_) (fun cy az => ?_)))))))))
    ·refine wc_skip (qs (wc_block (wc_seq ?_)))
     obtain ⟨cz, cA, cB⟩ := ob az
     refine wc_cutg (fun E' w' => ∃ ad, E' = [(1, pt d), (4, .int .i64 C), (5, pt O), (6, .int .i64 aj), (88, .bool cz)] ∧ SH w K [] w' ad [obj d [.slice k l m, .slice s x y] 26, obj O [.slice G H I, sv A.To] 105] ∧ KLe ac ad) ?_ ?_
     ·refine wc_quiet mixed (by kernel_rfl) ak (kv (rv_fieldAddr ff105_0 rfl) (kh (rq_loadm1 tf23 rfl m1 rfl) (km rfl ?_)))
      obtain ⟨aU, cC, cD⟩ := ob cA
      refine ki underlying23 tf9 (J.mono B) cC fun cE cF ep cG cH => ?_
      obtain ⟨rfl, cI⟩ := cG
      have cJ : AtK _ cE cF [sv aU] := cH
      refine kh (rq_load1 tf9 rfl (cJ 0 _ rfl)) ?_
      obtain ⟨aV, cK, aW⟩ := ob cD
      refine wq_call (v := .bool aV) wn rfl (fun _ => rt_call (vs := [sv aU]) co72 rfl) (fun eq ⟨es, aX, cL⟩ => ((ok_spec_l1WordOk F) aX.enter0 cI cK).mono fun e w' ⟨K', he, hS'⟩ => ⟨he, K', aX.call0 hS', cL.trans hS'.le⟩) (kv (rv_not rfl) (km rfl ?_))
      rcases bool_tf ((!aV)) with b | b
      ·have aA := cond_t b aW
       refine kn b (kn b (kn b (kn b (kn b (kn b (kn b (kn b (kn b (kn b ?_)))))))))
       refine kn b (kn b (kv (rv_pick_t (v := .bool true) rfl b rfl) (km rfl (qv rfl rfl rfl rfl (qv rfl rfl rfl rfl (qv rfl rfl rfl rfl (qv rfl rfl rfl rfl (qv rfl rfl rfl rfl (qv rfl rfl rfl rfl ?_)))))))))
       refine qv rfl rfl rfl rfl (qv rfl rfl rfl rfl (kv (rv_pick_t (v := .bool true) rfl rfl rfl) (wq_nil ?_)))
       rintro et ⟨cM, cN, cO⟩
       obtain rfl := oi aA
       exact qd ⟨cM, rfl, cN, cO⟩
      have aA := cond_f b aW
      refine kg b (rv_fieldAddr ff105_0 rfl) (kgh b (rq_loadm1 tf23 rfl m1 rfl) (kg b (rv_move rfl) ?_))
      obtain ⟨aY, cP, cQ⟩ := ob aA
      refine wq_indexAddr (t := tStr) (wg rfl rfl b) rfl underlying23 tf9 rfl rfl (J.mono B) cP fun cR cS eu cT cU => ?_
      obtain ⟨rfl, aZ⟩ := cT
      have cV : AtK _ cR cS [sv aY] := cU
      refine kgh b (rq_load1 tf9 rfl (cV 0 _ rfl)) ?_
      obtain ⟨a0, a2, cW⟩ := ob cQ
      refine wq_call (v := sv a0) (wg rfl rfl b) rfl (fun _ => rt_call (vs := [sv aY]) co102 rfl) (fun ev ⟨ew, a3, cX⟩ => ((ok_spec_l2Stem F) a3.enter0 aZ a2).mono fun e w' ⟨K', he, hS', _⟩ => ⟨he, K', a3.call0 hS', cX.trans hS'.le⟩) ?_
      obtain ⟨_, _, _, ⟨_, _, _, ex⟩, _⟩ := (ok_spec_l2Stem F) ak.enter0 aZ a2 []
      refine kg b (rv_fieldAddr ff105_0 rfl) (kgh b (rq_loadm1 tf23 rfl m1 rfl) (kg b (rv_move rfl) ?_))
      obtain ⟨a4, cY, a6⟩ := ob cW
      refine wq_indexAddr (t := tStr) (wg rfl rfl b) rfl underlying23 tf9 rfl rfl (J.mono B) cY fun cZ c0 ey c1 c2 => ?_
      obtain ⟨rfl, ez⟩ := c1
      have c4 : AtK _ cZ c0 [sv a4] := c2
      refine kgh b (rq_load1 tf9 rfl (c4 0 _ rfl)) (kg b (rv_sneq rfl rfl) (kv (rv_pick_f rfl b rfl) (km rfl ?_)))
      rcases bool_tf ((!(a0 == a4))) with c | c
      ·have aB := cond_t c a6
       refine kn c (kn c (kn c (kn c (kn c (kn c (kn c (kn c (kv (rv_pick_t (v := .bool true) rfl c rfl) (wq_nil ?_)))))))))
       rintro eA ⟨c5, c6, c8⟩
       obtain rfl := oi aB
       exact qd ⟨c5, rfl, c6, c8⟩
      have aB := cond_f c a6
      refine kg c (rv_fieldAddr ff26_0 rfl) (kgh c (rq_loadm1 tf23 rfl m0 rfl) (kg c (rv_fieldAddr ff105_0 rfl) (kgh c (rq_loadm1 tf23 rfl m1 rfl) (kg c (rv_move rfl) ?_))))
      obtain ⟨a7, c9, da⟩ := ob aB
      refine wq_indexAddr (t := tStr) (wg rfl rfl c) rfl underlying23 tf9 rfl rfl (J.mono B) c9 fun db dc eB dd de => ?_
      obtain ⟨rfl, df⟩ := dd
      have dg : AtK _ db dc [sv a7] := de
      refine kgh c (rq_load1 tf9 rfl (dg 0 _ rfl)) ?_
      obtain ⟨dh, di, dj⟩ := ob da
      refine wq_call (v := .bool dh) (wg rfl rfl c) rfl (fun _ => rt_call (vs := [.slice k l m, sv a7]) co76 rfl) (fun eC ⟨eD, a8, a9⟩ => ((ok_spec_l2Has F) a8.enter0 (SliceAt.mono (((Y.trans ab).trans B).trans a9) R) df di).mono fun e w' ⟨K', he, hS'⟩ => ⟨he, K', a8.call0 hS', a9.trans hS'.le⟩) (kv (rv_pick_f rfl c rfl) (wq_nil ?_))
      rintro eE ⟨dk, dl, dm⟩
      obtain rfl := oi dj
      exact qd ⟨dk, rfl, dl, dm⟩
     rintro _ eF ⟨ad, rfl, ba, dn⟩
     refine qe_seq (wcc cB rfl (fun dp aC => ?_) (fun dp aC => ?_))
     ·refine sr (lv (rv_assign (v := .bool false) rfl) (nq (wc_ret (qe_block_ret (qe_then_ret (qe_then_ret ?_))))))
      obtain rfl := oi aC
      have dq := aT _ rfl
      subst dq
      refine qe_block_ret (qe_then_ret ?_)
      obtain rfl := oi aS
      refine qe_then_ret (qe_block_ret (qe_then_ret (qe_then_ret ?_)))
      obtain rfl := oi ah
      have dr := aw _ rfl
      subst dr
      refine qe_block_ret (qe_then_ret ?_)
      obtain rfl := oi au
      refine qe_then_ret ?_
      obtain rfl := oi U
      have ds := ba.sb (sd (sd sz))
      exact er results52 ⟨rfl, trivial⟩ ⟨ad, rfl, ds⟩
     refine wc_skip (qe_block (qe_seq (wc_region (mv rfl (lv (rv_add rfl rfl) (av rfl (wl_nil ?_)))))))
     obtain rfl := oi aC
     exact qd ⟨_, rfl, ad, rfl, ba, (B.trans dn), (w64_rng _)⟩
    refine wc_exit (qe_then_exit (qe_then_exit ?_))
    obtain rfl := oi az
    have dt := aT _ rfl
    subst dt
    refine qe_block_eq ?_
    obtain rfl := oi aS
    exact qd ⟨_, ac, rfl, rfl, ak, B⟩
   rintro _ eG ⟨aR, ai, rfl, rfl, bb, aD⟩
   have ah := elim_l ah
   refine qs ?_
   obtain ⟨du, dv, dw⟩ := ob ah
   refine wc_cutg (fun E' w' => ∃ ae, E' = [(1, pt d), (4, .int .i64 C), (107, .bool du)] ∧ SH w K [] w' ae [obj d [.slice k l m, .slice s x y] 26] ∧ KLe ai ae) ?_ ?_
   ·refine wc_quiet mixed (by kernel_rfl) bb (kv (rv_fieldAddr ff105_0 rfl) (kh (rq_loadm1 tf23 rfl m1 rfl) (kv (rv_len (t := tStr) underlying23 rfl (J.mono aD)) ?_)))
    obtain ⟨bc, dx, bd⟩ := ob dv
    refine wq_call (v := .bool bc) wn rfl (fun _ => rt_call (vs := [.int .i64 (A.From.length : Int), .int .i64 1, .int .i64 3]) co74 rfl) (fun eH ⟨eI, be, dy⟩ => ((ok_spec_l1In F) be.enter0 (rng_nat (SliceAt.max (J.mono aD))) (by decide : rng64 1) (by decide : rng64 3) dx).mono fun e w' ⟨K', he, hS'⟩ => ⟨he, K', be.call0 hS', dy.trans hS'.le⟩) (kv (rv_not rfl) (km rfl ?_))
    rcases bool_tf ((!bc)) with o | o
    ·have aE := cond_t o bd
     refine kn o (kn o (kn o (kn o (kv (rv_pick_t (v := .bool true) rfl o rfl) (km rfl (qv rfl rfl rfl rfl (qv rfl rfl rfl rfl (qv rfl rfl rfl rfl (qv rfl rfl rfl rfl ?_)))))))))
     refine qv rfl rfl rfl rfl (qv rfl rfl rfl rfl (kv (rv_pick_t (v := .bool true) rfl rfl rfl) (wq_nil ?_)))
     rintro eJ ⟨dz, dA, dB⟩
     obtain rfl := oi aE
     have dC := dA.sb (sk (sd sz))
     exact qd ⟨dz, rfl, dC, dB⟩
    have aE := cond_f o bd
    refine kg o (rv_fieldAddr ff105_1 rfl) (kgh o (rq_loadm1 tf9 rfl m1 rfl) ?_)
    obtain ⟨bf, dD, bg⟩ := ob aE
    refine wq_call (v := .bool bf) (wg rfl rfl o) rfl (fun _ => rt_call (vs := [sv A.To]) co72 rfl) (fun eK ⟨eL, bh, dE⟩ => ((ok_spec_l1WordOk F) bh.enter0 ay dD).mono fun e w' ⟨K', he, hS'⟩ => ⟨he, K', bh.call0 hS', dE.trans hS'.le⟩) (kg o (rv_not rfl) (kv (rv_pick_f rfl o rfl) (km rfl ?_)))
    rcases bool_tf ((!bf)) with f | f
    ·have aF := cond_t f bg
     refine kn f (kn f (kn f (kn f (kn f (kn f (kv (rv_pick_t (v := .bool true) rfl f rfl) (wq_nil ?_)))))))
     rintro eM ⟨dF, dG, dH⟩
     obtain rfl := oi aF
     have dI := dG.sb (sk (sd sz))
     exact qd ⟨dF, rfl, dI, dH⟩
    have aF := cond_f f bg
    refine kg f (rv_fieldAddr ff105_1 rfl) (kgh f (rq_loadm1 tf9 rfl m1 rfl) ?_)
    obtain ⟨dJ, bi, dK⟩ := ob aF
    refine wq_call (v := sv dJ) (wg rfl rfl f) rfl (fun _ => rt_call (vs := [sv A.To]) co102 rfl) (fun eN ⟨eO, bj, dL⟩ => ((ok_spec_l2Stem F) bj.enter0 ay bi).mono fun e w' ⟨K', he, hS', _⟩ => ⟨he, K', bj.call0 hS', dL.trans hS'.le⟩) ?_
    obtain ⟨_, _, _, ⟨_, _, _, eP⟩, _⟩ := (ok_spec_l2Stem F) bb.enter0 ay bi []
    refine kg f (rv_fieldAddr ff105_1 rfl) (kgh f (rq_loadm1 tf9 rfl m1 rfl) (kg f (rv_sneq rfl rfl) (kv (rv_pick_f rfl f rfl) (wq_nil ?_))))
    rintro eQ ⟨dM, dN, dO⟩
    obtain rfl := oi dK
    have dP := dN.sb (sk (sd sz))
    exact qd ⟨dM, rfl, dP, dO⟩
   rintro _ eR ⟨ae, rfl, bk, dQ⟩
   refine qe_seq (wcc dw rfl (fun dR aG => ?_) (fun dR aG => ?_))
   ·refine sr (lv (rv_assign (v := .bool false) rfl) (nq (wc_ret (qe_block_ret (qe_then_ret (qe_then_ret ?_))))))
    obtain rfl := oi aG
    have dS := aw _ rfl
    subst dS
    refine qe_block_ret (qe_then_ret ?_)
    obtain rfl := oi au
    refine qe_then_ret ?_
    obtain rfl := oi U
    have dT := bk.sb (sd sz)
    exact er results52 ⟨rfl, trivial⟩ ⟨ae, rfl, dT⟩
   refine wc_skip (qe_block (qe_seq (wc_region (mv rfl (lv (rv_add rfl rfl) (av rfl (wl_nil ?_)))))))
   obtain rfl := oi aG
   exact qd ⟨_, rfl, ae, rfl, bk, ((ab.trans aD).trans dQ), (w64_rng _)⟩
  refine wc_exit (qe_then_exit (qe_then_exit ?_))
  obtain rfl := oi ax
  have dU := aw _ rfl
  subst dU
  refine qe_block_eq ?_
  obtain rfl := oi au
  exact qd ⟨_, D, rfl, rfl, aa, ab⟩
 rintro _ eS ⟨aQ, Z, rfl, rfl, am, bl⟩
 have U := elim_l U
 refine qr (fa ff26_0 rfl (lv (rv_loadm1 tf23 rfl m0 am rfl) (lv (rv_len (t := tStr) underlying23 rfl (R.mono (Y.trans bl))) (lv (rv_leq rfl rfl) (mv rfl ?_)))))
 rcases bool_tf (decide ((p0_c.Stops.length : Int) ≤ (6 : Int))) with q | q
 ·have aH := cond_t q U
  refine lg q (rv_fieldAddr ff26_1 rfl) (lg q (rv_loadm1 tf24 rfl m0 am rfl) (lg q (rv_len (t := tGSyn) underlying24 rfl (an.mono (Y.trans bl))) (lg q (rv_leq rfl rfl) (lv (rv_pick_t rfl q rfl) (av rfl (nq (wc_ret ?_)))))))
  obtain rfl := oi aH
  have dV := am.sb (sd sz)
  exact er results52 ⟨rfl, trivial⟩ ⟨Z, rfl, dV⟩
 have aH := cond_f q U
 refine lu q (lu q (lu q (lu q (lv (rv_pick_f (v := .bool false) rfl q rfl) (av rfl (nq (wc_ret ?_)))))))
 obtain rfl := oi aH
 have dW := am.sb (sd sz)
 exact er results52 ⟨rfl, trivial⟩ ⟨Z, rfl, dW⟩

theorem ok_spec_l1Text (F : Nat) {w : World} {K : KMap} {p0_s : Str} {r : Bool} (hS : SH w K [] w K []) (ac : p0_s.length ≤ maxLen) (hm : M.spec_l1Text F p0_s = some r) :
  Calls Tryz.prog 169 #[sv p0_s] w fun e w' => ∃ K', e = .returned (.bool r) ∧ SH w K [] w' K' [] := by
 rw [M.spec_l1Text] at hm
 refine calls_in func169 rfl ntmps169 rfl (sr (lv (rv_assign (v := .bool false) rfl) (nsr (lv (rv_assign (v := .int .i64 0) rfl) (nq ?_)))))
 obtain ⟨D, G, f⟩ := ob hm
 refine wc_cutg (fun E' w' => ∃ s i, D = .inl s ∧ E' = [(0, sv p0_s)] ∧ SH w K [] w' i [] ∧ KLe K i) ?_ ?_
 ·refine wc_block ?_
  obtain ⟨ad, H, x⟩ := ob G
  refine qw (fun (k : Int) E' w' => ∃ c, E' = [(0, sv p0_s), (3, .int .i64 k)] ∧ SH w K [] w' c [] ∧ KLe K c ∧ rng64 k) H ⟨K, rfl, hS, (KLe.refl _), (by decide : rng64 0)⟩ ?_
  rintro k _ ae af I y ⟨c, rfl, l, A, ag⟩
  refine wc_seq (sr (mv rfl (mv rfl (lv (rv_slen underlying9 rfl) (lv (rv_lss rfl rfl) (nq (wcc I rfl (fun J m => ?_) (fun J m => ?_))))))))
  ·refine wc_skip (qs (wc_block (wc_seq ?_)))
   obtain ⟨O, R, S⟩ := ob m
   refine wc_cutg (fun E' w' => ∃ d, E' = [(0, sv p0_s), (3, .int .i64 k), (19, .bool O)] ∧ SH w K [] w' d [] ∧ KLe c d) ?_ ?_
   ·refine wc_region (mv rfl (mv rfl ?_))
    obtain ⟨T, U, B⟩ := ob R
    refine lv (rv_sidx underlying9 rfl rfl U) (lv (rv_bl (b := (32 : UInt8)) rfl rfl) (mv rfl ?_))
    rcases bool_tf (decide (T < (32 : UInt8))) with a | a
    ·have o := cond_t a B
     refine lu a (lu a (lu a (lu a (lv (rv_pick_t (v := .bool true) rfl a rfl) (wl_nil ?_)))))
     obtain rfl := oi o
     exact qd ⟨c, rfl, l, (KLe.refl _)⟩
    have o := cond_f a B
    refine lg a (rv_move rfl) (lg a (rv_move rfl) ?_)
    obtain ⟨ah, V, W⟩ := ob o
    refine lg a (rv_sidx underlying9 rfl rfl V) (lg a (rv_bg (b := (126 : UInt8)) rfl rfl) (lv (rv_pick_f rfl a rfl) (wl_nil ?_)))
    obtain rfl := oi W
    exact qd ⟨c, rfl, l, (KLe.refl _)⟩
   rintro _ ai ⟨d, rfl, C, X⟩
   refine qe_seq (wcc S rfl (fun Y q => ?_) (fun Y q => ?_))
   ·refine sr (lv (rv_assign (v := .bool false) rfl) (nq (wc_ret (qe_block_ret (qe_then_ret (qe_then_ret ?_))))))
    obtain rfl := oi q
    have Z := y _ rfl
    subst Z
    refine qe_block_ret (qe_then_ret ?_)
    obtain rfl := oi x
    refine qe_then_ret ?_
    obtain rfl := oi f
    exact er results169 ⟨rfl, trivial⟩ ⟨d, rfl, C⟩
   refine wc_skip (qe_block (qe_seq (wc_region (mv rfl (lv (rv_add rfl rfl) (av rfl (wl_nil ?_)))))))
   obtain rfl := oi q
   exact qd ⟨_, rfl, d, rfl, C, (A.trans X), (w64_rng _)⟩
  refine wc_exit (qe_then_exit (qe_then_exit ?_))
  obtain rfl := oi m
  have aa := y _ rfl
  subst aa
  refine qe_block_eq ?_
  obtain rfl := oi x
  exact qd ⟨_, c, rfl, rfl, l, A⟩
 rintro _ w8 ⟨s, i, rfl, rfl, ab, ak⟩
 have f := elim_l f
 refine qr (mv rfl (lv (rv_slen underlying9 rfl) (lv (rv_leq rfl rfl) (av rfl (nq (wc_ret ?_))))))
 obtain rfl := oi f
 exact er results169 ⟨rfl, trivial⟩ ⟨i, rfl, ab⟩

set_option maxHeartbeats 2000000 in
theorem ok_spec_l6Ok (F : Nat) {w : World} {K : KMap} {q : Option Addr} {s x : Nat} {y : Option Addr} {A B : Nat} {p0_d : GDoc} {r : Bool} (hS : SH w K [] w K []) (aZ : rng64 p0_d.Id) (I : SliceAt tGField K q s x p0_d.Fields) (G : SliceAt tGAttr K y A B p0_d.Nums) (hm : M.spec_l6Ok F p0_d = some r) :
  Calls Tryz.prog 131 #[.agg #[.int .i64 p0_d.Id, .slice q s x, .slice y A B]] w fun e w' => ∃ K', e = .returned (.bool r) ∧ SH w K [] w' K' [] := by
 rw [M.spec_l6Ok] at hm
 refine calls_in func131 rfl ntmps131 rfl (sr (bx rfl hS fun i c6 a0 => ?_))
 have a1 : SH _ _ _ _ _ [obj i [.int .i64 p0_d.Id, .slice q s x, .slice y A B] 71] := a0
 refine lv (rv_assign (v := .bool false) rfl) (nsr (lv (rv_assign (v := .int .i64 0) rfl) (nq ?_)))
 obtain ⟨a3, a4, X⟩ := ob hm
 refine wc_cutg (fun E' w' => ∃ ay H, a3 = .inl ay ∧ E' = [(1, pt i)] ∧ SH w K [] w' H [obj i [.int .i64 p0_d.Id, .slice q s x, .slice y A B] 71] ∧ KLe K H) ?_ ?_
 ·refine wc_block ?_
  obtain ⟨c7, a5, az⟩ := ob a4
  refine qw (fun (J : Int) E' w' => ∃ O, E' = [(1, pt i), (3, .int .i64 J)] ∧ SH w K [] w' O [obj i [.int .i64 p0_d.Id, .slice q s x, .slice y A B] 71] ∧ KLe K O ∧ rng64 J) a5 ⟨K, rfl, a1, (KLe.refl _), (by decide : rng64 0)⟩ ?_
  rintro J _ c9 da a7 aA ⟨O, rfl, R, S, db⟩
  refine wc_seq (sr (mv rfl (fa ff71_1 rfl (lv (rv_loadm1 tf68 rfl m0 R rfl) (lv (rv_len (t := tGField) underlying68 rfl (I.mono S)) (lv (rv_lss rfl rfl) (nq (wcc a7 rfl (fun a8 ad => ?_) (fun a8 ad => ?_)))))))))
  ·refine wc_skip (qs (wc_block (sr (fa ff71_1 rfl (lv (rv_loadm1 tf68 rfl m0 R rfl) (mv rfl ?_))))))
   obtain ⟨o, a9, ba⟩ := ob ad
   refine li underlying68 tf141 (I.mono S) a9 fun bb bc dc bd be => ?_
   obtain ⟨rfl, bf, bg⟩ := bd
   have bh : AtK _ bb bc [sv o.Name, sv o.Text] := be
   refine lv (rv_loadS (cs := [sv o.Name, sv o.Text]) tf141 rfl R bh rfl) (al tf141 R fun bi dd bj => ?_)
   have bk : SH _ _ _ _ _ [obj bi [sv [], sv []] 141, _] := bj
   refine ls [sv o.Name, sv o.Text] (.agg #[sv o.Name, sv o.Text]) tf141 bk fun de bl => (ns ?_)
   obtain ⟨bm, bn, bo⟩ := ob ba
   refine wc_cutg (fun E' w' => ∃ T, E' = [(1, pt i), (3, .int .i64 J), (43, .bool bm)] ∧ SH w K [] w' T [obj i [.int .i64 p0_d.Id, .slice q s x, .slice y A B] 71] ∧ KLe O T) ?_ ?_
   ·refine wc_quiet mixed (by kernel_rfl) bl (kv (rv_fieldAddr ff141_0 rfl) (kh (rq_loadm1 tf9 rfl m0 rfl) ?_))
    obtain ⟨aB, bp, aC⟩ := ob bn
    refine wq_call (v := .bool aB) wn rfl (fun _ => rt_call (vs := [sv o.Name]) co72 rfl) (fun df ⟨dg, aD, bq⟩ => ((ok_spec_l1WordOk F) aD.enter0 bf bp).mono fun e w' ⟨K', he, hS'⟩ => ⟨he, K', aD.call0 hS', bq.trans hS'.le⟩) (kv (rv_not rfl) (km rfl ?_))
    rcases bool_tf ((!aB)) with k | k
    ·have ae := cond_t k aC
     refine kn k (kn k (kn k (kn k (kv (rv_pick_t (v := .bool true) rfl k rfl) (km rfl (qv rfl rfl rfl rfl (qv rfl rfl rfl rfl (qv rfl rfl rfl rfl (ku ?_)))))))))
     refine ku (ku (ku (ku (ku (ku (ku (ku (ku (qv rfl rfl rfl rfl ?_)))))))))
     refine kv (rv_pick_t (v := .bool true) rfl rfl rfl) (wq_nil ?_)
     rintro dh ⟨br, bs, bt⟩
     obtain rfl := oi ae
     have bu := bs.sb (sd (sk sz))
     exact qd ⟨br, rfl, bu, bt⟩
    have ae := cond_f k aC
    refine kg k (rv_fieldAddr ff141_1 rfl) (kgh k (rq_loadm1 tf9 rfl m0 rfl) ?_)
    obtain ⟨aE, bv, aF⟩ := ob ae
    refine wq_call (v := .bool aE) (wg rfl rfl k) rfl (fun _ => rt_call (vs := [sv o.Text]) co169 rfl) (fun di ⟨dj, aG, bw⟩ => ((ok_spec_l1Text F) aG.enter0 bg bv).mono fun e w' ⟨K', he, hS'⟩ => ⟨he, K', aG.call0 hS', bw.trans hS'.le⟩) (kg k (rv_not rfl) (kv (rv_pick_f rfl k rfl) (km rfl ?_)))
    rcases bool_tf ((!aE)) with d | d
    ·have Y := cond_t d aF
     refine kn d (kn d (kn d (ku (ku (ku (ku (ku (ku (ku ?_)))))))))
     refine ku (ku (ku (kn d (kv (rv_pick_t (v := .bool true) rfl d rfl) (wq_nil ?_)))))
     rintro dk ⟨bz, bA, bB⟩
     obtain rfl := oi Y
     have bC := bA.sb (sd (sk sz))
     exact qd ⟨bz, rfl, bC, bB⟩
    have Y := cond_f d aF
    refine kg d (rv_move rfl) (kg d (rv_gtr rfl rfl) (kg d (rv_move rfl) ?_))
    rcases bool_tf (decide ((0 : Int) < J)) with b | b
    ·have af := cond_t b Y
     refine kg b (rv_fieldAddr ff141_0 rfl) (kgh b (rq_loadm1 tf9 rfl m0 rfl) (kg b (rv_fieldAddr ff71_1 rfl) (kgh b (rq_loadm1 tf68 rfl m1 rfl) (kg b (rv_move rfl) (kg b (rv_sub rfl rfl) ?_)))))
     obtain ⟨aH, bD, bE⟩ := ob af
     refine wq_indexAddr (t := tGField) (wg rfl rfl b) rfl underlying68 tf141 rfl rfl (I.mono S) bD fun bF bG dl bH bI => ?_
     obtain ⟨rfl, dm, dn⟩ := bH
     have bJ : AtK _ bF bG [sv aH.Name, sv aH.Text] := bI
     refine kg b (rv_fieldAddr ff141_0 rfl) (kgh b (rq_load1 tf9 rfl (bJ 0 _ rfl)) (kg b (rv_sleq rfl rfl) (kg d (rv_pick_t rfl b rfl) (kv (rv_pick_f rfl d rfl) (wq_nil ?_)))))
     rintro dp ⟨bK, bL, bM⟩
     obtain rfl := oi bE
     have bN := bL.sb (sd (sk sz))
     exact qd ⟨bK, rfl, bN, bM⟩
    have af := cond_f b Y
    refine kn b (kn b (kn b (kn b (kn b (kn b (kn b (kn b (kn b (kn b ?_)))))))))
    refine kg d (rv_pick_f (v := .bool false) rfl b rfl) (kv (rv_pick_f rfl d rfl) (wq_nil ?_))
    rintro dq ⟨bO, bP, bQ⟩
    obtain rfl := oi af
    have bR := bP.sb (sd (sk sz))
    exact qd ⟨bO, rfl, bR, bQ⟩
   rintro _ dr ⟨T, rfl, aI, bS⟩
   refine qe_seq (wcc bo rfl (fun bT ag => ?_) (fun bT ag => ?_))
   ·refine sr (lv (rv_assign (v := .bool false) rfl) (nq (wc_ret (qe_block_ret (qe_then_ret (qe_then_ret ?_))))))
    obtain rfl := oi ag
    have bU := aA _ rfl
    subst bU
    refine qe_block_ret (qe_then_ret ?_)
    obtain rfl := oi az
    refine qe_then_ret ?_
    obtain rfl := oi X
    have bV := aI.sb (sd sz)
    exact er results131 ⟨rfl, trivial⟩ ⟨T, rfl, bV⟩
   refine wc_skip (qe_block (qe_seq (wc_region (mv rfl (lv (rv_add rfl rfl) (av rfl (wl_nil ?_)))))))
   obtain rfl := oi ag
   exact qd ⟨_, rfl, T, rfl, aI, (S.trans bS), (w64_rng _)⟩
  refine wc_exit (qe_then_exit (qe_then_exit ?_))
  obtain rfl := oi ad
  have bW := aA _ rfl
  subst bW
  refine qe_block_eq ?_
  obtain rfl := oi az
  exact qd ⟨_, O, rfl, rfl, R, S⟩
 rintro _ ds ⟨ay, H, rfl, rfl, bX, C⟩
 have X := elim_l X
 refine qs (sr (lv (rv_assign (v := .int .i64 0) rfl) (nq ?_)))
 obtain ⟨bY, bZ, Z⟩ := ob X
 refine wc_cutg (fun E' w' => ∃ aJ ah, bY = .inl aJ ∧ E' = [(1, pt i)] ∧ SH w K [] w' ah [obj i [.int .i64 p0_d.Id, .slice q s x, .slice y A B] 71] ∧ KLe H ah) ?_ ?_
 ·refine wc_block ?_
  obtain ⟨dt, b0, aK⟩ := ob bZ
  refine qw (fun (U : Int) E' w' => ∃ V, E' = [(1, pt i), (5, .int .i64 U)] ∧ SH w K [] w' V [obj i [.int .i64 p0_d.Id, .slice q s x, .slice y A B] 71] ∧ KLe H V ∧ rng64 U) b0 ⟨H, rfl, bX, (KLe.refl _), (by decide : rng64 0)⟩ ?_
  rintro U _ du dv b1 aL ⟨V, rfl, ai, D, dw⟩
  refine wc_seq (sr (mv rfl (fa ff71_2 rfl (lv (rv_loadm1 tf69 rfl m0 ai rfl) (lv (rv_len (t := tGAttr) underlying69 rfl (G.mono (C.trans D))) (lv (rv_lss rfl rfl) (nq (wcc b1 rfl (fun b2 aj => ?_) (fun b2 aj => ?_)))))))))
  ·refine wc_skip (qs (wc_block (wc_seq ?_)))
   obtain ⟨b3, b4, b5⟩ := ob aj
   refine wc_cutg (fun E' w' => ∃ W, E' = [(1, pt i), (5, .int .i64 U), (88, .bool b3)] ∧ SH w K [] w' W [obj i [.int .i64 p0_d.Id, .slice q s x, .slice y A B] 71] ∧ KLe V W) ?_ ?_
   ·refine wc_quiet mixed (by kernel_rfl) ai (kv (rv_fieldAddr ff71_2 rfl) (kh (rq_loadm1 tf69 rfl m0 rfl) (km rfl ?_)))
    obtain ⟨ak, b6, b7⟩ := ob b4
    refine ki underlying69 tf189 (G.mono (C.trans D)) b6 fun b8 b9 dx ca cb => ?_
    obtain ⟨rfl, cc, dy⟩ := ca
    have cd : AtK _ b8 b9 [sv ak.Name, .int .i64 ak.Num] := cb
    refine kv (rv_fieldAddr ff189_0 rfl) (kh (rq_load1 tf9 rfl (cd 0 _ rfl)) ?_)
    obtain ⟨aM, ce, aN⟩ := ob b7
    refine wq_call (v := .bool aM) wn rfl (fun _ => rt_call (vs := [sv ak.Name]) co72 rfl) (fun dz ⟨dA, aO, cf⟩ => ((ok_spec_l1WordOk F) aO.enter0 cc ce).mono fun e w' ⟨K', he, hS'⟩ => ⟨he, K', aO.call0 hS', cf.trans hS'.le⟩) (kv (rv_not rfl) (km rfl ?_))
    rcases bool_tf ((!aM)) with c | c
    ·have am := cond_t c aN
     refine kn c (kn c (kn c (kn c (kn c (kn c (kn c (kn c (kv (rv_pick_t (v := .bool true) rfl c rfl) (km rfl ?_)))))))))
     refine qv rfl rfl rfl rfl (qv rfl rfl rfl rfl (qv rfl rfl rfl rfl (ku (ku (ku (ku (ku (ku (ku ?_)))))))))
     refine ku (ku (ku (ku (ku (ku (ku (qv rfl rfl rfl rfl (kv (rv_pick_t (v := .bool true) rfl rfl rfl) (wq_nil ?_)))))))))
     rintro dB ⟨cg, ch, ci⟩
     obtain rfl := oi am
     exact qd ⟨cg, rfl, ch, ci⟩
    have am := cond_f c aN
    refine kg c (rv_fieldAddr ff71_2 rfl) (kgh c (rq_loadm1 tf69 rfl m0 rfl) (kg c (rv_move rfl) ?_))
    obtain ⟨an, cj, ck⟩ := ob am
    refine wq_indexAddr (t := tGAttr) (wg rfl rfl c) rfl underlying69 tf189 rfl rfl (G.mono (C.trans D)) cj fun cl cm dC cn cp => ?_
    obtain ⟨rfl, dD, cq⟩ := cn
    have cr : AtK _ cl cm [sv an.Name, .int .i64 an.Num] := cp
    refine kg c (rv_fieldAddr ff189_1 rfl) (kgh c (rq_load1 tf3 rfl (cr 1 _ rfl)) ?_)
    obtain ⟨aP, ct, aQ⟩ := ob ck
    refine wq_call (v := .bool aP) (wg rfl rfl c) rfl (fun _ => rt_call (vs := [.int .i64 an.Num, .int .i64 0, .int .i64 999999999]) co74 rfl) (fun dE ⟨dF, aR, cu⟩ => ((ok_spec_l1In F) aR.enter0 cq (by decide : rng64 0) (by decide : rng64 999999999) ct).mono fun e w' ⟨K', he, hS'⟩ => ⟨he, K', aR.call0 hS', cu.trans hS'.le⟩) (kg c (rv_not rfl) (kv (rv_pick_f rfl c rfl) (km rfl ?_)))
    rcases bool_tf ((!aP)) with f | f
    ·have aa := cond_t f aQ
     refine kn f (kn f (kn f (ku (ku (ku (ku (ku (ku (ku ?_)))))))))
     refine ku (ku (ku (ku (ku (ku (ku (kn f (kv (rv_pick_t (v := .bool true) rfl f rfl) (wq_nil ?_)))))))))
     rintro dG ⟨cv, cw, cx⟩
     obtain rfl := oi aa
     exact qd ⟨cv, rfl, cw, cx⟩
    have aa := cond_f f aQ
    refine kg f (rv_move rfl) (kg f (rv_gtr rfl rfl) (kg f (rv_move rfl) ?_))
    rcases bool_tf (decide ((0 : Int) < U)) with a | a
    ·have ao := cond_t a aa
     refine kg a (rv_fieldAddr ff71_2 rfl) (kgh a (rq_loadm1 tf69 rfl m0 rfl) (kg a (rv_move rfl) ?_))
     obtain ⟨aS, cy, cz⟩ := ob ao
     refine wq_indexAddr (t := tGAttr) (wg rfl rfl a) rfl underlying69 tf189 rfl rfl (G.mono (C.trans D)) cy fun cA cB dH cC cD => ?_
     obtain ⟨rfl, dI, dJ⟩ := cC
     have cE : AtK _ cA cB [sv aS.Name, .int .i64 aS.Num] := cD
     refine kg a (rv_fieldAddr ff189_0 rfl) (kgh a (rq_load1 tf9 rfl (cE 0 _ rfl)) (kg a (rv_fieldAddr ff71_2 rfl) (kgh a (rq_loadm1 tf69 rfl m0 rfl) (kg a (rv_move rfl) (kg a (rv_sub rfl rfl) ?_)))))
     obtain ⟨aT, cF, cG⟩ := ob cz
     refine wq_indexAddr (t := tGAttr) (wg rfl rfl a) rfl underlying69 tf189 rfl rfl (G.mono (C.trans D)) cF fun cH cI dK cJ cK => ?_
     obtain ⟨rfl, dL, dM⟩ := cJ
     have cL : AtK _ cH cI [sv aT.Name, .int .i64 aT.Num] := cK
     refine kg a (rv_fieldAddr ff189_0 rfl) (kgh a (rq_load1 tf9 rfl (cL 0 _ rfl)) (kg a (rv_sleq rfl rfl) (kg f (rv_pick_t rfl a rfl) (kv (rv_pick_f rfl f rfl) (wq_nil ?_)))))
     rintro dN ⟨cM, cN, cO⟩
     obtain rfl := oi cG
     exact qd ⟨cM, rfl, cN, cO⟩
    have ao := cond_f a aa
    refine kn a (kn a (kn a (kn a (kn a (kn a (kn a (kn a (kn a (kn a ?_)))))))))
    refine kn a (kn a (kn a (kn a (kg f (rv_pick_f (v := .bool false) rfl a rfl) (kv (rv_pick_f rfl f rfl) (wq_nil ?_))))))
    rintro dO ⟨cP, cQ, cR⟩
    obtain rfl := oi ao
    exact qd ⟨cP, rfl, cQ, cR⟩
   rintro _ dP ⟨W, rfl, aU, cS⟩
   refine qe_seq (wcc b5 rfl (fun cT ap => ?_) (fun cT ap => ?_))
   ·refine sr (lv (rv_assign (v := .bool false) rfl) (nq (wc_ret (qe_block_ret (qe_then_ret (qe_then_ret ?_))))))
    obtain rfl := oi ap
    have cU := aL _ rfl
    subst cU
    refine qe_block_ret (qe_then_ret ?_)
    obtain rfl := oi aK
    refine qe_then_ret ?_
    obtain rfl := oi Z
    have cV := aU.sb (sd sz)
    exact er results131 ⟨rfl, trivial⟩ ⟨W, rfl, cV⟩
   refine wc_skip (qe_block (qe_seq (wc_region (mv rfl (lv (rv_add rfl rfl) (av rfl (wl_nil ?_)))))))
   obtain rfl := oi ap
   exact qd ⟨_, rfl, W, rfl, aU, (D.trans cS), (w64_rng _)⟩
  refine wc_exit (qe_then_exit (qe_then_exit ?_))
  obtain rfl := oi aj
  have cW := aL _ rfl
  subst cW
  refine qe_block_eq ?_
  obtain rfl := oi aK
  exact qd ⟨_, V, rfl, rfl, ai, D⟩
 rintro _ dQ ⟨aJ, ah, rfl, rfl, aq, ar⟩
 have Z := elim_l Z
 refine qr (fa ff71_0 rfl (lv (rv_loadm1 tf3 rfl m0 aq rfl) ?_))
 obtain ⟨cX, cY, aV⟩ := ob Z
 refine lc (vs := [.int .i64 p0_d.Id, .int .i64 1, .int .i64 9999]) co74 ((ok_spec_l1In F) aq.enter0 aZ (by decide : rng64 1) (by decide : rng64 9999) cY) ?_
 rintro dR dS ⟨cZ, rfl, ab⟩
 refine ⟨_, rfl, ?_⟩
 have ac := (aq.c0 ab).t1
 refine mv rfl ?_
 rcases bool_tf (cX) with l | l
 ·have au := cond_t l aV
  refine lg l (rv_fieldAddr ff71_1 rfl) (lg l (rv_loadm1 tf68 rfl m0 ac rfl) (lg l (rv_len (t := tGField) underlying68 rfl (I.mono ((C.trans ar).trans ab.le))) ?_))
  obtain ⟨c0, c1, aW⟩ := ob au
  refine wl_call (wg rfl rfl l) rfl (rt_call (vs := [.int .i64 (p0_d.Fields.length : Int), .int .i64 0, .int .i64 3]) co74 rfl) ((ok_spec_l1In F) ac.enter0 (rng_nat (SliceAt.max (I.mono ((C.trans ar).trans ab.le)))) (by decide : rng64 0) (by decide : rng64 3) c1) ?_
  rintro dT dU ⟨aX, rfl, aY⟩
  refine ⟨_, rfl, ?_⟩
  have aw := (ac.c0 aY).t1
  refine lv (rv_pick_t rfl l rfl) (mv rfl ?_)
  rcases bool_tf (c0) with m | m
  ·have ax := cond_t m aW
   refine lg m (rv_fieldAddr ff71_2 rfl) (lg m (rv_loadm1 tf69 rfl m0 aw rfl) (lg m (rv_len (t := tGAttr) underlying69 rfl (SliceAt.mono (((C.trans ar).trans ab.le).trans aY.le) G)) (lg m (rv_leq rfl rfl) (lv (rv_pick_t rfl m rfl) (av rfl (nq (wc_ret ?_)))))))
   obtain rfl := oi ax
   have c2 := aw.sb (sd sz)
   exact er results131 ⟨rfl, trivial⟩ ⟨aX, rfl, c2⟩
  have ax := cond_f m aW
  refine lu m (lu m (lu m (lu m (lv (rv_pick_f (v := .bool false) rfl m rfl) (av rfl (nq (wc_ret ?_)))))))
  obtain rfl := oi ax
  have c3 := aw.sb (sd sz)
  exact er results131 ⟨rfl, trivial⟩ ⟨aX, rfl, c3⟩
 have au := cond_f l aV
 refine lu l (lu l (lu l (lu l (lv (rv_pick_f (v := .bool false) rfl l rfl) (mv rfl (lu rfl (lu rfl (lu rfl (lu rfl ?_)))))))))
 refine lv (rv_pick_f (v := .bool false) rfl rfl rfl) (av rfl (nq (wc_ret ?_)))
 obtain rfl := oi au
 have c5 := ac.sb (sd sz)
 exact er results131 ⟨rfl, trivial⟩ ⟨cZ, rfl, c5⟩

set_option maxHeartbeats 2000000 in
theorem ok_spec_l6Docs (F : Nat) {w : World} {K : KMap} {d : Option Addr} {f i : Nat} {p0_list : List GDoc} {r : Bool} (hS : SH w K [] w K []) (k : SliceAt tGDoc K d f i p0_list) (hm : M.spec_l6Docs F p0_list = some r) :
  Calls Tryz.prog 83 #[.slice d f i] w fun e w' => ∃ K', e = .returned (.bool r) ∧ SH w K [] w' K' [] := by
 rw [M.spec_l6Docs] at hm
 refine calls_in func83 rfl ntmps83 rfl (sr (lv (rv_assign (v := .bool false) rfl) (nsr (lv (rv_assign (v := .int .i64 0) rfl) (nq ?_)))))
 obtain ⟨o5, h6, q⟩ := ob hm
 refine wc_cutg (fun E' w' => ∃ S s, o5 = .inl S ∧ E' = [(0, .slice d f i)] ∧ SH w K [] w' s [] ∧ KLe K s) ?_ ?_
 ·refine wc_block ?_
  obtain ⟨be, ac, T⟩ := ob h6
  refine qw (fun (l : Int) E' w' => ∃ m, E' = [(0, .slice d f i), (3, .int .i64 l)] ∧ SH w K [] w' m [] ∧ KLe K m ∧ rng64 l) ac ⟨K, rfl, hS, (KLe.refl _), (by decide : rng64 0)⟩ ?_
  rintro l _ bf bg ad U ⟨m, rfl, V, c, bh⟩
  refine wc_seq (sr (mv rfl (mv rfl (lv (rv_len (t := tGDoc) underlying27 rfl (k.mono c)) (lv (rv_lss rfl rfl) (nq (wcc ad rfl (fun ae y => ?_) (fun ae y => ?_))))))))
  ·refine wc_skip (qs (wc_block (wc_seq ?_)))
   obtain ⟨af, ag, ah⟩ := ob y
   refine wc_cutg (fun E' w' => ∃ o, E' = [(0, .slice d f i), (3, .int .i64 l), (33, .bool af)] ∧ SH w K [] w' o [] ∧ KLe m o) ?_ ?_
   ·refine wc_quiet mixed (by kernel_rfl) V (km rfl (km rfl ?_))
    obtain ⟨A, ai, aj⟩ := ob ag
    refine ki underlying27 tf71 (k.mono c) ai fun ak al bi am an => ?_
    obtain ⟨B, C, D, G, H, I, rfl, ao, ap, aq⟩ := am
    have ar : AtK _ ak al [.int .i64 A.Id, .slice B C D, .slice G H I] := an
    refine kh (rq_loadS (cs := [.int .i64 A.Id, .slice B C D, .slice G H I]) tf71 rfl ar rfl) ?_
    obtain ⟨W, au, X⟩ := ob aj
    refine wq_call (v := .bool W) wn rfl (fun _ => rt_call (vs := [.agg #[.int .i64 A.Id, .slice B C D, .slice G H I]]) co131 rfl) (fun bj ⟨bk, Y, J⟩ => ((ok_spec_l6Ok F) Y.enter0 ao (ap.mono J) (aq.mono J) au).mono fun e w' ⟨K', he, hS'⟩ => ⟨he, K', Y.call0 hS', J.trans hS'.le⟩) (kv (rv_not rfl) (km rfl ?_))
    rcases bool_tf ((!W)) with b | b
    ·have x := cond_t b X
     refine kn b (kn b (kn b (ku (ku (ku (ku (ku (ku (ku ?_)))))))))
     refine ku (ku (ku (ku (ku (kn b (kv (rv_pick_t (v := .bool true) rfl b rfl) (wq_nil ?_)))))))
     rintro bl ⟨aw, ax, ay⟩
     obtain rfl := oi x
     exact qd ⟨aw, rfl, ax, ay⟩
    have x := cond_f b X
    refine kg b (rv_move rfl) (kg b (rv_gtr rfl rfl) (kg b (rv_move rfl) ?_))
    rcases bool_tf (decide ((0 : Int) < l)) with a | a
    ·have O := cond_t a x
     refine kg a (rv_move rfl) (kg a (rv_move rfl) ?_)
     obtain ⟨az, aA, aB⟩ := ob O
     refine wq_indexAddr (t := tGDoc) (wg rfl rfl a) rfl underlying27 tf71 rfl rfl (k.mono c) aA fun aC aD bm aE aF => ?_
     obtain ⟨aG, aH, aI, aJ, aK, aL, rfl, bn, bo, bp⟩ := aE
     have aM : AtK _ aC aD [.int .i64 az.Id, .slice aG aH aI, .slice aJ aK aL] := aF
     refine kg a (rv_fieldAddr ff71_0 rfl) (kgh a (rq_load1 tf3 rfl (aM 0 _ rfl)) (kg a (rv_move rfl) (kg a (rv_move rfl) (kg a (rv_sub rfl rfl) ?_))))
     obtain ⟨aN, aO, aP⟩ := ob aB
     refine wq_indexAddr (t := tGDoc) (wg rfl rfl a) rfl underlying27 tf71 rfl rfl (k.mono c) aO fun aQ aR bq aS aT => ?_
     obtain ⟨aU, aV, aW, aX, aY, aZ, rfl, br, bs, bt⟩ := aS
     have a0 : AtK _ aQ aR [.int .i64 aN.Id, .slice aU aV aW, .slice aX aY aZ] := aT
     refine kg a (rv_fieldAddr ff71_0 rfl) (kgh a (rq_load1 tf3 rfl (a0 0 _ rfl)) (kg a (rv_leq rfl rfl) (kg b (rv_pick_t rfl a rfl) (kv (rv_pick_f rfl b rfl) (wq_nil ?_)))))
     rintro bu ⟨a2, a3, a4⟩
     obtain rfl := oi aP
     exact qd ⟨a2, rfl, a3, a4⟩
    have O := cond_f a x
    refine kn a (kn a (kn a (kn a (kn a (kn a (kn a (kn a (kn a (kn a ?_)))))))))
    refine kn a (kn a (kg b (rv_pick_f (v := .bool false) rfl a rfl) (kv (rv_pick_f rfl b rfl) (wq_nil ?_))))
    rintro bv ⟨a5, a6, a7⟩
    obtain rfl := oi O
    exact qd ⟨a5, rfl, a6, a7⟩
   rintro _ w32 ⟨o, rfl, Z, a8⟩
   refine qe_seq (wcc ah rfl (fun a9 R => ?_) (fun a9 R => ?_))
   ·refine sr (lv (rv_assign (v := .bool false) rfl) (nq (wc_ret (qe_block_ret (qe_then_ret (qe_then_ret ?_))))))
    obtain rfl := oi R
    have ba := U _ rfl
    subst ba
    refine qe_block_ret (qe_then_ret ?_)
    obtain rfl := oi T
    refine qe_then_ret ?_
    obtain rfl := oi q
    exact er results83 ⟨rfl, trivial⟩ ⟨o, rfl, Z⟩
   refine wc_skip (qe_block (qe_seq (wc_region (mv rfl (lv (rv_add rfl rfl) (av rfl (wl_nil ?_)))))))
   obtain rfl := oi R
   exact qd ⟨_, rfl, o, rfl, Z, (c.trans a8), (w64_rng _)⟩
  refine wc_exit (qe_then_exit (qe_then_exit ?_))
  obtain rfl := oi y
  have bb := U _ rfl
  subst bb
  refine qe_block_eq ?_
  obtain rfl := oi T
  exact qd ⟨_, m, rfl, rfl, V, c⟩
 rintro _ bw ⟨S, s, rfl, rfl, bc, bd⟩
 have q := elim_l q
 refine qr (mv rfl (lv (rv_len (t := tGDoc) underlying27 rfl (k.mono bd)) (lv (rv_leq rfl rfl) (av rfl (nq (wc_ret ?_))))))
 obtain rfl := oi q
 exact er results83 ⟨rfl, trivial⟩ ⟨s, rfl, bc⟩

theorem ok_spec_l7SameInts (F : Nat) {w : World} {K : KMap} {f : Option Addr} {i k : Nat} {l : Option Addr} {m o : Nat} {p0_a : List Int} {p1_b : List Int} {r : Bool} (hS : SH w K [] w K []) (q : SliceAt tInt K f i k p0_a) (C : SliceAt tInt K l m o p1_b) (hm : M.spec_l7SameInts F p0_a p1_b = some r) :
  Calls Tryz.prog 136 #[.slice f i k, .slice l m o] w fun e w' => ∃ K', e = .returned (.bool r) ∧ SH w K [] w' K' [] := by
 rw [M.spec_l7SameInts] at hm
 refine calls_in func136 rfl ntmps136 rfl (sr (lv (rv_assign (v := .bool false) rfl) (nsr (mv rfl (lv (rv_len (t := tInt) underlying39 rfl q) (mv rfl (lv (rv_len (t := tInt) underlying39 rfl C) (lv (rv_neq rfl rfl) (nq ?_)))))))))
 refine wc_cond rfl (fun s => ?_) (fun s => ?_)
 ·have x := cond_t s hm
  refine sr (lv (rv_assign (v := .bool false) rfl) (nq (rr ?_)))
  obtain rfl := oi x
  exact er results136 ⟨rfl, trivial⟩ ⟨K, rfl, hS⟩
 have x := cond_f s hm
 refine wc_skip (qs (sr (lv (rv_assign (v := .int .i64 0) rfl) (nq ?_))))
 obtain ⟨R, S, b⟩ := ob x
 refine wc_cutg (fun E' w' => ∃ D c, R = .inl D ∧ E' = [] ∧ SH w K [] w' c [] ∧ KLe K c) ?_ ?_
 ·refine wc_block ?_
  obtain ⟨ar, T, G⟩ := ob S
  refine qw (fun (y : Int) E' w' => ∃ d, E' = [(0, .slice f i k), (1, .slice l m o), (5, .int .i64 y)] ∧ SH w K [] w' d [] ∧ KLe K d ∧ rng64 y) T ⟨K, rfl, hS, (KLe.refl _), (by decide : rng64 0)⟩ ?_
  rintro y _ au aw U H ⟨d, rfl, I, a, ax⟩
  refine wc_seq (sr (mv rfl (mv rfl (lv (rv_len (t := tInt) underlying39 rfl (q.mono a)) (lv (rv_lss rfl rfl) (nq (wcc U rfl (fun V A => ?_) (fun V A => ?_))))))))
  ·refine wc_skip (qs (wc_block (wc_seq (wc_quiet mixed (by kernel_rfl) I (km rfl (km rfl ?_))))))
   obtain ⟨W, X, Y⟩ := ob A
   refine ki underlying39 tf3 (q.mono a) X fun Z aa ay ab ac => ?_
   obtain ⟨rfl, az⟩ := ab
   have ad : AtK _ Z aa [.int .i64 W] := ac
   refine kh (rq_load1 tf3 rfl (ad 0 _ rfl)) (km rfl (km rfl ?_))
   obtain ⟨ae, af, ag⟩ := ob Y
   refine ki underlying39 tf3 (C.mono a) af fun ah ai aA aj ak => ?_
   obtain ⟨rfl, aB⟩ := aj
   have al : AtK _ ah ai [.int .i64 ae] := ak
   refine kh (rq_load1 tf3 rfl (al 0 _ rfl)) (kv (rv_neq rfl rfl) (wq_nil ?_))
   rintro aC ⟨J, O, am⟩
   refine qe_seq (wcc ag rfl (fun an B => ?_) (fun an B => ?_))
   ·refine sr (lv (rv_assign (v := .bool false) rfl) (nq (wc_ret (qe_block_ret (qe_then_ret (qe_then_ret ?_))))))
    obtain rfl := oi B
    have ao := H _ rfl
    subst ao
    refine qe_block_ret (qe_then_ret ?_)
    obtain rfl := oi G
    refine qe_then_ret ?_
    obtain rfl := oi b
    exact er results136 ⟨rfl, trivial⟩ ⟨J, rfl, O⟩
   refine wc_skip (qe_block (qe_seq (wc_region (mv rfl (lv (rv_add rfl rfl) (av rfl (wl_nil ?_)))))))
   obtain rfl := oi B
   exact qd ⟨_, rfl, J, rfl, O, (a.trans am), (w64_rng _)⟩
  refine wc_exit (qe_then_exit (qe_then_exit ?_))
  obtain rfl := oi A
  have ap := H _ rfl
  subst ap
  refine qe_block_eq ?_
  obtain rfl := oi G
  exact qe_mid' ⟨_, d, rfl, rfl, I, a⟩ trivial
 rintro _ aD ⟨D, c, rfl, rfl, aq, aE⟩
 have b := elim_l b
 refine qr (lv (rv_assign (v := .bool true) rfl) (nq (wc_ret ?_)))
 obtain rfl := oi b
 exact er results136 ⟨rfl, trivial⟩ ⟨c, rfl, aq⟩

set_option maxHeartbeats 2000000 in
theorem ok_spec_l7SameEntry (F : Nat) {w : World} {K : KMap} {m : Option Addr} {o q : Nat} {s : Option Addr} {x y : Nat} {p0_a : GEntry} {p1_b : GEntry} {r : Bool} (hS : SH w K [] w K []) (bB : p0_a.Field.length ≤ maxLen) (bC : p0_a.Term.length ≤ maxLen) (D : SliceAt tGPost K m o q p0_a.Posts) (bD : p1_b.Field.length ≤ maxLen) (bE : p1_b.Term.length ≤ maxLen) (O : SliceAt tGPost K s x y p1_b.Posts) (hm : M.spec_l7SameEntry F p0_a p1_b = some r) :
  Calls Tryz.prog 85 #[.agg #[sv p0_a.Field, sv p0_a.Term, .slice m o q], .agg #[sv p1_b.Field, sv p1_b.Term, .slice s x y]] w fun e w' => ∃ K', e = .returned (.bool r) ∧ SH w K [] w' K' [] := by
 rw [M.spec_l7SameEntry] at hm
 refine calls_in func85 rfl ntmps85 rfl (sr (bx rfl hS fun f bF ao => ?_))
 have ap : SH _ _ _ _ _ [obj f [sv p0_a.Field, sv p0_a.Term, .slice m o q] 86] := ao
 refine bx rfl ap fun i bG aq => ?_
 have d : SH _ _ _ _ _ [obj i [sv p1_b.Field, sv p1_b.Term, .slice s x y] 86, _] := aq
 refine lv (rv_assign (v := .bool false) rfl) (ns (wc_seq ?_))
 obtain ⟨ar, Y, au⟩ := ob hm
 refine wc_cutg (fun E' w' => ∃ k, E' = [(2, pt f), (3, pt i), (26, .bool ar)] ∧ SH w K [] w' k [obj f [sv p0_a.Field, sv p0_a.Term, .slice m o q] 86, obj i [sv p1_b.Field, sv p1_b.Term, .slice s x y] 86] ∧ KLe K k) ?_ ?_
 ·refine wc_region (fa ff86_0 rfl (lv (rv_loadm1 tf9 rfl m1 d rfl) (fa ff86_0 rfl (lv (rv_loadm1 tf9 rfl m0 d rfl) (lv (rv_sneq rfl rfl) (mv rfl ?_))))))
  rcases bool_tf ((!(p0_a.Field == p1_b.Field))) with c | c
  ·have G := cond_t c Y
   refine lu c (lu c (lu c (lu c (lu c (lv (rv_pick_t (v := .bool true) rfl c rfl) (mv rfl (lu rfl (lu rfl (lu rfl ?_)))))))))
   refine lu rfl (lu rfl (lu rfl (lu rfl (lv (rv_pick_t (v := .bool true) rfl rfl rfl) (wl_nil ?_)))))
   obtain rfl := oi G
   exact qd ⟨K, rfl, d.f1, (KLe.refl _)⟩
  have G := cond_f c Y
  refine lg c (rv_fieldAddr ff86_1 rfl) (lg c (rv_loadm1 tf9 rfl m1 d rfl) (lg c (rv_fieldAddr ff86_1 rfl) (lg c (rv_loadm1 tf9 rfl m0 d rfl) (lg c (rv_sneq rfl rfl) (lv (rv_pick_f rfl c rfl) (mv rfl ?_))))))
  rcases bool_tf ((!(p0_a.Term == p1_b.Term))) with b | b
  ·have R := cond_t b G
   refine lu b (lu b (lu b (lu b (lu b (lu b (lu b (lv (rv_pick_t (v := .bool true) rfl b rfl) (wl_nil ?_))))))))
   obtain rfl := oi R
   exact qd ⟨K, rfl, d.f1, (KLe.refl _)⟩
  have R := cond_f b G
  refine lg b (rv_fieldAddr ff86_2 rfl) (lg b (rv_loadm1 tf37 rfl m1 d rfl) (lg b (rv_len (t := tGPost) underlying37 rfl D) (lg b (rv_fieldAddr ff86_2 rfl) (lg b (rv_loadm1 tf37 rfl m0 d rfl) (lg b (rv_len (t := tGPost) underlying37 rfl O) (lg b (rv_neq rfl rfl) (lv (rv_pick_f rfl b rfl) (wl_nil ?_))))))))
  obtain rfl := oi R
  exact qd ⟨K, rfl, d.f1, (KLe.refl _)⟩
 rintro _ bH ⟨k, rfl, Z, A⟩
 refine qe_seq (wcc au rfl (fun aw S => ?_) (fun aw S => ?_))
 ·refine sr (lv (rv_assign (v := .bool false) rfl) (nq (rr ?_)))
  obtain rfl := oi S
  have ax := Z.sb (sd (sd sz))
  exact er results85 ⟨rfl, trivial⟩ ⟨k, rfl, ax⟩
 refine wc_skip (qs (sr (lv (rv_assign (v := .int .i64 0) rfl) (nq ?_))))
 obtain ⟨ay, az, H⟩ := ob S
 refine wc_cutg (fun E' w' => ∃ aa I, ay = .inl aa ∧ E' = [] ∧ SH w K [] w' I [] ∧ KLe k I) ?_ ?_
 ·refine wc_block ?_
  obtain ⟨bI, aA, ab⟩ := ob az
  refine qw (fun (J : Int) E' w' => ∃ B, E' = [(2, pt f), (3, pt i), (5, .int .i64 J)] ∧ SH w K [] w' B [obj f [sv p0_a.Field, sv p0_a.Term, .slice m o q] 86, obj i [sv p1_b.Field, sv p1_b.Term, .slice s x y] 86] ∧ KLe k B ∧ rng64 J) aA ⟨k, rfl, Z, (KLe.refl _), (by decide : rng64 0)⟩ ?_
  rintro J _ bJ bK aB ac ⟨B, rfl, T, l, bL⟩
  refine wc_seq (sr (mv rfl (fa ff86_2 rfl (lv (rv_loadm1 tf37 rfl m0 T rfl) (lv (rv_len (t := tGPost) underlying37 rfl (D.mono (A.trans l))) (lv (rv_lss rfl rfl) (nq (wcc aB rfl (fun aC U => ?_) (fun aC U => ?_)))))))))
  ·refine wc_skip (qs (wc_block (wc_seq ?_)))
   obtain ⟨aD, aE, aF⟩ := ob U
   refine wc_cutg (fun E' w' => ∃ C, E' = [(2, pt f), (3, pt i), (5, .int .i64 J), (62, .bool aD)] ∧ SH w K [] w' C [obj f [sv p0_a.Field, sv p0_a.Term, .slice m o q] 86, obj i [sv p1_b.Field, sv p1_b.Term, .slice s x y] 86] ∧ KLe B C) ?_ ?_
   ·refine wc_quiet mixed (by kernel_rfl) T (kv (rv_fieldAddr ff86_2 rfl) (kh (rq_loadm1 tf37 rfl m0 rfl) (km rfl ?_)))
    obtain ⟨ad, aG, aH⟩ := ob aE
    refine ki underlying37 tf42 (D.mono (A.trans l)) aG fun aI aJ bM aK aL => ?_
    obtain ⟨aM, aN, aO, rfl, bN, bO⟩ := aK
    have aP : AtK _ aI aJ [.int .i64 ad.Doc, .slice aM aN aO] := aL
    refine kv (rv_fieldAddr ff42_0 rfl) (kh (rq_load1 tf3 rfl (aP 0 _ rfl)) (kv (rv_fieldAddr ff86_2 rfl) (kh (rq_loadm1 tf37 rfl m1 rfl) (km rfl ?_))))
    obtain ⟨ae, aQ, af⟩ := ob aH
    refine ki underlying37 tf42 (O.mono (A.trans l)) aQ fun aR aS bP aT aU => ?_
    obtain ⟨aV, aW, aX, rfl, bQ, bR⟩ := aT
    have aY : AtK _ aR aS [.int .i64 ae.Doc, .slice aV aW aX] := aU
    refine kv (rv_fieldAddr ff42_0 rfl) (kh (rq_load1 tf3 rfl (aY 0 _ rfl)) (kv (rv_neq rfl rfl) (km rfl ?_)))
    rcases bool_tf ((!(ad.Doc == ae.Doc))) with a | a
    ·have V := cond_t a af
     refine kn a (kn a (kn a (kn a (kn a (kn a (kn a (kn a (kn a (kn a ?_)))))))))
     refine kn a (kn a (kn a (kn a (kv (rv_pick_t (v := .bool true) rfl a rfl) (wq_nil ?_)))))
     rintro bS ⟨aZ, a0, a1⟩
     obtain rfl := oi V
     exact qd ⟨aZ, rfl, a0, a1⟩
    have V := cond_f a af
    refine kg a (rv_fieldAddr ff86_2 rfl) (kgh a (rq_loadm1 tf37 rfl m0 rfl) (kg a (rv_move rfl) ?_))
    obtain ⟨a2, a4, a5⟩ := ob V
    refine wq_indexAddr (t := tGPost) (wg rfl rfl a) rfl underlying37 tf42 rfl rfl (D.mono (A.trans l)) a4 fun a6 a7 bT a8 ba => ?_
    obtain ⟨ag, ah, ai, rfl, bU, bb⟩ := a8
    have bc : AtK _ a6 a7 [.int .i64 a2.Doc, .slice ag ah ai] := ba
    refine kg a (rv_fieldAddr ff42_1 rfl) (kgh a (rq_load1 tf39 rfl (bc 1 _ rfl)) (kg a (rv_fieldAddr ff86_2 rfl) (kgh a (rq_loadm1 tf37 rfl m1 rfl) (kg a (rv_move rfl) ?_))))
    obtain ⟨bd, be, bf⟩ := ob a5
    refine wq_indexAddr (t := tGPost) (wg rfl rfl a) rfl underlying37 tf42 rfl rfl (O.mono (A.trans l)) be fun bg bh bV bi bj => ?_
    obtain ⟨aj, ak, al, rfl, bW, bk⟩ := bi
    have bl : AtK _ bg bh [.int .i64 bd.Doc, .slice aj ak al] := bj
    refine kg a (rv_fieldAddr ff42_1 rfl) (kgh a (rq_load1 tf39 rfl (bl 1 _ rfl)) ?_)
    obtain ⟨bm, bn, bo⟩ := ob bf
    refine wq_call (v := .bool bm) (wg rfl rfl a) rfl (fun _ => rt_call (vs := [.slice ag ah ai, .slice aj ak al]) co136 rfl) (fun bX ⟨bY, am, W⟩ => ((ok_spec_l7SameInts F) am.enter0 (bb.mono W) (bk.mono W) bn).mono fun e w' ⟨K', he, hS'⟩ => ⟨he, K', am.call0 hS', W.trans hS'.le⟩) (kg a (rv_not rfl) (kv (rv_pick_f rfl a rfl) (wq_nil ?_)))
    rintro bZ ⟨bp, bq, br⟩
    obtain rfl := oi bo
    exact qd ⟨bp, rfl, bq, br⟩
   rintro _ b0 ⟨C, rfl, an, bs⟩
   refine qe_seq (wcc aF rfl (fun bt X => ?_) (fun bt X => ?_))
   ·refine sr (lv (rv_assign (v := .bool false) rfl) (nq (wc_ret (qe_block_ret (qe_then_ret (qe_then_ret ?_))))))
    obtain rfl := oi X
    have bu := ac _ rfl
    subst bu
    refine qe_block_ret (qe_then_ret ?_)
    obtain rfl := oi ab
    refine qe_then_ret ?_
    obtain rfl := oi H
    have bv := an.sb (sd (sd sz))
    exact er results85 ⟨rfl, trivial⟩ ⟨C, rfl, bv⟩
   refine wc_skip (qe_block (qe_seq (wc_region (mv rfl (lv (rv_add rfl rfl) (av rfl (wl_nil ?_)))))))
   obtain rfl := oi X
   exact qd ⟨_, rfl, C, rfl, an, (l.trans bs), (w64_rng _)⟩
  refine wc_exit (qe_then_exit (qe_then_exit ?_))
  obtain rfl := oi U
  have bw := ac _ rfl
  subst bw
  refine qe_block_eq ?_
  obtain rfl := oi ab
  have bz := T.sb (sd (sd sz))
  exact qe_mid' ⟨_, B, rfl, rfl, bz, l⟩ trivial
 rintro _ b1 ⟨aa, I, rfl, rfl, bA, b2⟩
 have H := elim_l H
 refine qr (lv (rv_assign (v := .bool true) rfl) (nq (wc_ret ?_)))
 obtain rfl := oi H
 exact er results85 ⟨rfl, trivial⟩ ⟨I, rfl, bA⟩

set_option maxHeartbeats 2000000 in
theorem ok_spec_l7Ok (F : Nat) {w : World} {K : KMap} {b : Option Addr} {c d : Nat} {f : Option Addr} {i k : Nat} {l : Option Addr} {m o : Nat} {x : Option Addr} {y A : Nat} {p0_c : GConf} {p1_s : GSeg} {r : Bool} (hS : SH w K [] w K []) (ay : SliceAt tStr K b c d p0_c.Stops) (az : SliceAt tGSyn K f i k p0_c.Syns) (aA : SliceAt tGDoc K l m o p1_s.Docs) (aB : SliceAt tGEntry K x y A p1_s.Entries) (hm : M.spec_l7Ok F p0_c p1_s = some r) :
  Calls Tryz.prog 38 #[.agg #[.slice b c d, .slice f i k], .agg #[.slice l m o, .slice x y A]] w fun e w' => ∃ K', e = .returned (.bool r) ∧ SH w K [] w' K' [] := by
 rw [M.spec_l7Ok] at hm
 refine calls_in func38 rfl ntmps38 rfl (sr (bx rfl hS fun V bN aL => ?_))
 have aM : SH _ _ _ _ _ [obj V [.slice b c d, .slice f i k] 26] := aL
 refine bx rfl aM fun B bO aN => ?_
 have W : SH _ _ _ _ _ [obj B [.slice l m o, .slice x y A] 30, _] := aN
 refine lv (rv_assign (v := .bool false) rfl) (ns (wc_seq ?_))
 obtain ⟨aO, aP, aQ⟩ := ob hm
 refine wc_cutg (fun E' w' => ∃ H, E' = [(2, pt V), (3, pt B), (15, .bool aO)] ∧ SH w K [] w' H [obj V [.slice b c d, .slice f i k] 26, obj B [.slice l m o, .slice x y A] 30] ∧ KLe K H) ?_ ?_
 ·refine wc_region (lv (rv_loadmS (ds := [.slice b c d, .slice f i k]) tf26 rfl m1 W rfl rfl) ?_)
  obtain ⟨aR, aS, aC⟩ := ob aP
  refine lc (vs := [.agg #[.slice b c d, .slice f i k]]) co52 ((ok_spec_l2Ok F) W.enter0 ay az aS) ?_
  rintro bP bQ ⟨aT, rfl, I⟩
  refine ⟨_, rfl, ?_⟩
  have J := (W.c0 I).t2
  refine lv (rv_not rfl) (mv rfl ?_)
  rcases bool_tf ((!aR)) with a | a
  ·have X := cond_t a aC
   refine lu a (lu a (lu a (lu a (lv (rv_pick_t (v := .bool true) rfl a rfl) (wl_nil ?_)))))
   obtain rfl := oi X
   exact qd ⟨aT, rfl, J.f1, I.le⟩
  have X := cond_f a aC
  refine lg a (rv_fieldAddr ff30_0 rfl) (lg a (rv_loadm1 tf27 rfl m0 J rfl) ?_)
  obtain ⟨bR, aU, aV⟩ := ob X
  refine wl_call (wg rfl rfl a) rfl (rt_call (vs := [.slice l m o]) co83 rfl) ((ok_spec_l6Docs F) J.enter0 (aA.mono I.le) aU) ?_
  rintro bS bT ⟨aW, rfl, aD⟩
  refine ⟨_, rfl, ?_⟩
  have aX := (J.c0 aD).t2
  refine lg a (rv_not rfl) (lv (rv_pick_f rfl a rfl) (wl_nil ?_))
  obtain rfl := oi aV
  exact qd ⟨aW, rfl, aX.f1, (I.le.trans aD.le)⟩
 rintro _ bU ⟨H, rfl, C, D⟩
 refine qe_seq (wcc aQ rfl (fun aY Y => ?_) (fun aY Y => ?_))
 ·refine sr (lv (rv_assign (v := .bool false) rfl) (nq (rr ?_)))
  obtain rfl := oi Y
  have aZ := C.sb (sd (sd sz))
  exact er results38 ⟨rfl, trivial⟩ ⟨H, rfl, aZ⟩
 refine wc_skip (qr (lv (rv_loadmS (ds := [.slice b c d, .slice f i k]) tf26 rfl m0 C rfl rfl) (fa ff30_0 rfl (lv (rv_loadm1 tf27 rfl m1 C rfl) ?_))))
 obtain ⟨bV, a0, a2⟩ := ob Y
 refine lc (vs := [.agg #[.slice b c d, .slice f i k], .slice l m o]) co84 ((ok_spec_l7Of F) C.enter0 (ay.mono D) (az.mono D) (aA.mono D) a0) ?_
 rintro bW bX ⟨Z, aa, ab, ac, ad, ae, cs68, bY, rfl, af, bZ, hrow69, hm70⟩
 refine ⟨_, rfl, ?_⟩
 have a3 := (C.c0 af).t4
 obtain ⟨O, aE, ag, a4⟩ := SH.freezeI a3.f1 hrow69 hm70
 refine al tf30 a4 fun ah b0 a6 => ?_
 have a7 : SH _ _ _ _ _ [obj ah [.slice none 0 0, .slice none 0 0] 30, _, _, _, _] := a6
 refine ls [.slice Z aa ab, .slice ac ad ae] (.agg #[.slice Z aa ab, .slice ac ad ae]) tf30 a7 fun b1 R => (nsr (fa ff30_1 rfl (lv (rv_loadm1 tf28 rfl m0 R rfl) (lv (rv_len (t := tGEntry) underlying28 rfl ag) (fa ff30_1 rfl (lv (rv_loadm1 tf28 rfl m4 R rfl) (lv (rv_len (t := tGEntry) underlying28 rfl (aB.mono ((D.trans af.le).trans aE))) (lv (rv_neq rfl rfl) (nq ?_)))))))))
 refine wcc a2 rfl (fun a8 ai => ?_) (fun a8 ai => ?_)
 ·refine sr (lv (rv_assign (v := .bool false) rfl) (nq (rr ?_)))
  obtain rfl := oi ai
  have ba := R.sb (sd (sd (sd (sd (sd sz)))))
  exact er results38 ⟨rfl, trivial⟩ ⟨O, rfl, ba⟩
 refine wc_skip (qs (sr (lv (rv_assign (v := .int .i64 0) rfl) (nq ?_))))
 obtain ⟨bb, bc, S⟩ := ob ai
 refine wc_cutg (fun E' w' => ∃ aF T, bb = .inl aF ∧ E' = [] ∧ SH w K [] w' T [] ∧ KLe O T) ?_ ?_
 ·refine wc_block ?_
  obtain ⟨b2, bd, aG⟩ := ob bc
  have be := R.f4.sb (sk (sk (sd (sd (sd sz)))))
  refine qw (fun (aj : Int) E' w' => ∃ U, E' = [(3, pt B), (5, pt ah), (6, .int .i64 aj)] ∧ SH w K [] w' U [obj B [.slice l m o, .slice x y A] 30, obj ah [.slice Z aa ab, .slice ac ad ae] 30] ∧ KLe O U ∧ rng64 aj) bd ⟨O, rfl, be, (KLe.refl _), (by decide : rng64 0)⟩ ?_
  rintro aj _ b3 b4 bf aH ⟨U, rfl, ak, G, b5⟩
  refine wc_seq (sr (mv rfl (fa ff30_1 rfl (lv (rv_loadm1 tf28 rfl m1 ak rfl) (lv (rv_len (t := tGEntry) underlying28 rfl (ag.mono G)) (lv (rv_lss rfl rfl) (nq (wcc bf rfl (fun bg am => ?_) (fun bg am => ?_)))))))))
  ·refine wc_skip (qs (wc_block (wc_seq (wc_quiet mixed (by kernel_rfl) ak (kv (rv_fieldAddr ff30_1 rfl) (kh (rq_loadm1 tf28 rfl m1 rfl) (km rfl ?_)))))))
   obtain ⟨q, bh, bi⟩ := ob am
   refine ki underlying28 tf86 (ag.mono G) bh fun bj bk b6 bl bm => ?_
   obtain ⟨an, ao, ap, rfl, bn, bo, bp⟩ := bl
   have bq : AtK _ bj bk [sv q.Field, sv q.Term, .slice an ao ap] := bm
   refine kh (rq_loadS (cs := [sv q.Field, sv q.Term, .slice an ao ap]) tf86 rfl bq rfl) (kv (rv_fieldAddr ff30_1 rfl) (kh (rq_loadm1 tf28 rfl m0 rfl) (km rfl ?_)))
   obtain ⟨s, br, bs⟩ := ob bi
   refine ki underlying28 tf86 (SliceAt.mono (((D.trans af.le).trans aE).trans G) aB) br fun bt bu b7 bv bw => ?_
   obtain ⟨aq, ar, au, rfl, bz, bA, bB⟩ := bv
   have bC : AtK _ bt bu [sv s.Field, sv s.Term, .slice aq ar au] := bw
   refine kh (rq_loadS (cs := [sv s.Field, sv s.Term, .slice aq ar au]) tf86 rfl bC rfl) ?_
   obtain ⟨bD, bE, bF⟩ := ob bs
   refine wq_call (v := .bool bD) wn rfl (fun _ => rt_call (vs := [.agg #[sv q.Field, sv q.Term, .slice an ao ap], .agg #[sv s.Field, sv s.Term, .slice aq ar au]]) co85 rfl) (fun b8 ⟨b9, aI, aw⟩ => ((ok_spec_l7SameEntry F) aI.enter0 bn bo (bp.mono aw) bz bA (bB.mono aw) bE).mono fun e w' ⟨K', he, hS'⟩ => ⟨he, K', aI.call0 hS', aw.trans hS'.le⟩) (kv (rv_not rfl) (wq_nil ?_))
   rintro ca ⟨aJ, aK, bG⟩
   refine qe_seq (wcc bF rfl (fun bH ax => ?_) (fun bH ax => ?_))
   ·refine sr (lv (rv_assign (v := .bool false) rfl) (nq (wc_ret (qe_block_ret (qe_then_ret (qe_then_ret ?_))))))
    obtain rfl := oi ax
    have bI := aH _ rfl
    subst bI
    refine qe_block_ret (qe_then_ret ?_)
    obtain rfl := oi aG
    refine qe_then_ret ?_
    obtain rfl := oi S
    have bJ := aK.sb (sd (sd sz))
    exact er results38 ⟨rfl, trivial⟩ ⟨aJ, rfl, bJ⟩
   refine wc_skip (qe_block (qe_seq (wc_region (mv rfl (lv (rv_add rfl rfl) (av rfl (wl_nil ?_)))))))
   obtain rfl := oi ax
   exact qd ⟨_, rfl, aJ, rfl, aK, (G.trans bG), (w64_rng _)⟩
  refine wc_exit (qe_then_exit (qe_then_exit ?_))
  obtain rfl := oi am
  have bK := aH _ rfl
  subst bK
  refine qe_block_eq ?_
  obtain rfl := oi aG
  have bL := ak.sb (sd (sd sz))
  exact qe_mid' ⟨_, U, rfl, rfl, bL, G⟩ trivial
 rintro _ cb ⟨aF, T, rfl, rfl, bM, cc⟩
 have S := elim_l S
 refine qr (lv (rv_assign (v := .bool true) rfl) (nq (wc_ret ?_)))
 obtain rfl := oi S
 exact er results38 ⟨rfl, trivial⟩ ⟨T, rfl, bM⟩

theorem ok_spec_l11Words (F : Nat) {w : World} {K : KMap} {a : Option Addr} {b c : Nat} {p0_list : List Str} {p1_most : Int} {r : Bool} (hS : SH w K [] w K []) (d : SliceAt tStr K a b c p0_list) (J : rng64 p1_most) (hm : M.spec_l11Words F p0_list p1_most = some r) :
  Calls Tryz.prog 73 #[.slice a b c, .int .i64 p1_most] w fun e w' => ∃ K', e = .returned (.bool r) ∧ SH w K [] w' K' [] := by
 rw [M.spec_l11Words] at hm
 refine calls_in func73 rfl ntmps73 rfl (sr (lv (rv_assign (v := .bool false) rfl) (nsr (lv (rv_assign (v := .int .i64 0) rfl) (nq ?_)))))
 obtain ⟨O, R, f⟩ := ob hm
 refine wc_cutg (fun E' w' => ∃ x m, O = .inl x ∧ E' = [(0, .slice a b c), (1, .int .i64 p1_most)] ∧ SH w K [] w' m [] ∧ KLe K m) ?_ ?_
 ·refine wc_block ?_
  obtain ⟨an, S, y⟩ := ob R
  refine qw (fun (o : Int) E' w' => ∃ i, E' = [(0, .slice a b c), (1, .int .i64 p1_most), (5, .int .i64 o)] ∧ SH w K [] w' i [] ∧ KLe K i ∧ rng64 o) S ⟨K, rfl, hS, (KLe.refl _), (by decide : rng64 0)⟩ ?_
  rintro o _ ao ap T A ⟨i, rfl, k, l, aq⟩
  refine wc_seq (sr (mv rfl (mv rfl (lv (rv_len (t := tStr) underlying23 rfl (d.mono l)) (lv (rv_lss rfl rfl) (nq (wcc T rfl (fun U q => ?_) (fun U q => ?_))))))))
  ·refine wc_skip (qs (wc_block (sr (mv rfl (mv rfl ?_)))))
   obtain ⟨B, V, W⟩ := ob q
   refine li underlying23 tf9 (d.mono l) V fun X Y ar Z aa => ?_
   obtain ⟨rfl, ab⟩ := Z
   have ac : AtK _ X Y [sv B] := aa
   refine lv (rv_load1 tf9 rfl k (ac 0 _ rfl)) ?_
   obtain ⟨au, ad, ae⟩ := ob W
   refine lc (vs := [sv B]) co72 ((ok_spec_l1WordOk F) k.enter0 ab ad) ?_
   rintro aw ax ⟨C, rfl, D⟩
   refine ⟨_, rfl, ?_⟩
   have G := (k.c0 D).t0
   refine lv (rv_not rfl) (nq (wcc ae rfl (fun af s => ?_) (fun af s => ?_)))
   ·refine sr (lv (rv_assign (v := .bool false) rfl) (nq (wc_ret (qe_block_ret (qe_then_ret (qe_then_ret ?_))))))
    obtain rfl := oi s
    have ag := A _ rfl
    subst ag
    refine qe_block_ret (qe_then_ret ?_)
    obtain rfl := oi y
    refine qe_then_ret ?_
    obtain rfl := oi f
    exact er results73 ⟨rfl, trivial⟩ ⟨C, rfl, G⟩
   refine wc_skip (qe_block (qe_seq (wc_region (mv rfl (lv (rv_add rfl rfl) (av rfl (wl_nil ?_)))))))
   obtain rfl := oi s
   exact qd ⟨_, rfl, C, rfl, G, (l.trans D.le), (w64_rng _)⟩
  refine wc_exit (qe_then_exit (qe_then_exit ?_))
  obtain rfl := oi q
  have ah := A _ rfl
  subst ah
  refine qe_block_eq ?_
  obtain rfl := oi y
  exact qd ⟨_, i, rfl, rfl, k, l⟩
 rintro _ ay ⟨x, m, rfl, rfl, H, I⟩
 have f := elim_l f
 refine qr (mv rfl (lv (rv_len (t := tStr) underlying23 rfl (d.mono I)) (mv rfl ?_)))
 obtain ⟨az, ai, aj⟩ := ob f
 refine lc (vs := [.int .i64 (p0_list.length : Int), .int .i64 1, .int .i64 p1_most]) co74 ((ok_spec_l1In F) H.enter0 (rng_nat (SliceAt.max (d.mono I))) (by decide : rng64 1) J ai) ?_
 rintro aA aB ⟨ak, rfl, al⟩
 refine ⟨_, rfl, ?_⟩
 have am := (H.c0 al).t0
 refine av rfl (nq (wc_ret ?_))
 obtain rfl := oi aj
 exact er results73 ⟨rfl, trivial⟩ ⟨ak, rfl, am⟩

theorem ok_spec_TermOf (F : Nat) {w : World} {K : KMap} {b : Option Addr} {c d : Nat} {f : Option Addr} {i k : Nat} {p0_c : GConf} {p1_s : Str} {r : Str} (hS : SH w K [] w K []) (D : SliceAt tStr K b c d p0_c.Stops) (G : SliceAt tGSyn K f i k p0_c.Syns) (H : p1_s.length ≤ maxLen) (hm : M.spec_TermOf F p0_c p1_s = some r) :
  Calls Tryz.prog 75 #[.agg #[.slice b c d, .slice f i k], sv p1_s] w fun e w' => ∃ K', e = .returned (sv r) ∧ SH w K [] w' K' [] ∧ r.length ≤ maxLen := by
 rw [M.spec_TermOf] at hm
 refine calls_in func75 rfl ntmps75 rfl (sr (bx rfl hS fun o ay U => ?_))
 have q : SH _ _ _ _ _ [obj o [.slice b c d, .slice f i k] 26] := U
 refine lv (rv_assign (v := sv []) rfl) (ns (wc_seq ?_))
 obtain ⟨V, W, X⟩ := ob hm
 refine wc_cutg (fun E' w' => ∃ l, E' = [(1, sv p1_s), (2, pt o), (13, .bool V)] ∧ SH w K [] w' l [obj o [.slice b c d, .slice f i k] 26] ∧ KLe K l) ?_ ?_
 ·refine wc_region (lv (rv_loadmS (ds := [.slice b c d, .slice f i k]) tf26 rfl m0 q rfl rfl) ?_)
  obtain ⟨Y, Z, I⟩ := ob W
  refine lc (vs := [.agg #[.slice b c d, .slice f i k]]) co52 ((ok_spec_l2Ok F) q.enter0 D G Z) ?_
  rintro az aA ⟨aa, rfl, s⟩
  refine ⟨_, rfl, ?_⟩
  have x := (q.c0 s).t1
  refine lv (rv_not rfl) (mv rfl ?_)
  rcases bool_tf ((!Y)) with a | a
  ·have y := cond_t a I
   refine lu a (lu a (lu a (lv (rv_pick_t (v := .bool true) rfl a rfl) (wl_nil ?_))))
   obtain rfl := oi y
   exact qd ⟨aa, rfl, x, s.le⟩
  have y := cond_f a I
  refine lg a (rv_move rfl) ?_
  obtain ⟨aB, ab, ac⟩ := ob y
  refine wl_call (wg rfl rfl a) rfl (rt_call (vs := [sv p1_s]) co72 rfl) ((ok_spec_l1WordOk F) x.enter0 H ab) ?_
  rintro aC aD ⟨ad, rfl, J⟩
  refine ⟨_, rfl, ?_⟩
  have ae := (x.c0 J).t1
  refine lg a (rv_not rfl) (lv (rv_pick_f rfl a rfl) (wl_nil ?_))
  obtain rfl := oi ac
  exact qd ⟨ad, rfl, ae, (s.le.trans J.le)⟩
 rintro _ aE ⟨l, rfl, m, O⟩
 refine qe_seq (wcc X rfl (fun af A => ?_) (fun af A => ?_))
 ·refine sr (lv (rv_assign (v := sv []) rfl) (nq (rr ?_)))
  obtain rfl := oi A
  have ag := m.sb (sd sz)
  exact er results75 ⟨rfl, trivial⟩ ⟨l, rfl, ag, (by decide : ([] : Str).length ≤ maxLen)⟩
 refine wc_skip (qr (lv (rv_loadmS (ds := [.slice b c d, .slice f i k]) tf26 rfl m0 m rfl rfl) (mv rfl ?_)))
 obtain ⟨aF, ah, ai⟩ := ob A
 refine lc (vs := [.agg #[.slice b c d, .slice f i k], sv p1_s]) co118 ((ok_spec_l2Terms F) m.enter0 (D.mono O) (G.mono O) H ah) ?_
 rintro aG aH ⟨aI, aJ, aK, R, rfl, aj, S⟩
 refine ⟨_, rfl, ?_⟩
 have B := (m.c0 aj).t2
 refine av rfl (nsr (mv rfl (lv (rv_len (t := tGTerm) underlying127 rfl S) (lv (rv_eql rfl rfl) (nq (wcc ai rfl (fun ak C => ?_) (fun ak C => ?_)))))))
 ·refine sr (lv (rv_assign (v := sv []) rfl) (nq (rr ?_)))
  obtain rfl := oi C
  have al := B.sb (sd (sd sz))
  exact er results75 ⟨rfl, trivial⟩ ⟨R, rfl, al, (by decide : ([] : Str).length ≤ maxLen)⟩
 refine wc_skip (qr (mv rfl ?_))
 obtain ⟨T, am, an⟩ := ob C
 refine li underlying127 tf130 S am fun ao ap aL aq ar => ?_
 obtain ⟨rfl, au, aM⟩ := aq
 have aw : AtK _ ao ap [sv T.Text, .int .i64 T.At] := ar
 refine fa ff130_0 rfl (lv (rv_load1 tf9 rfl B (aw 0 _ rfl)) (av rfl (nq (wc_ret ?_))))
 obtain rfl := oi an
 have ax := B.sb (sd (sd sz))
 exact er results75 ⟨rfl, trivial⟩ ⟨R, rfl, ax, au⟩

set_option maxHeartbeats 2000000 in
theorem ok_spec_l7Posts (F : Nat) {w : World} {K : KMap} {f : Option Addr} {i k : Nat} {l : Option Addr} {m o : Nat} {p0_s : GSeg} {p1_field : Str} {p2_term : Str} {r : (List GPost)} (hS : SH w K [] w K []) (aT : SliceAt tGDoc K f i k p0_s.Docs) (x : SliceAt tGEntry K l m o p0_s.Entries) (aU : p1_field.length ≤ maxLen) (aV : p2_term.length ≤ maxLen) (hm : M.spec_l7Posts F p0_s p1_field p2_term = some r) :
  Calls Tryz.prog 86 #[.agg #[.slice f i k, .slice l m o], sv p1_field, sv p2_term] w fun e w' => ∃ a_1 n_2 c_3 K', e = .returned (.slice a_1 n_2 c_3) ∧ SH w K [] w' K' [] ∧ SliceAt tGPost K' a_1 n_2 c_3 r := by
 rw [M.spec_l7Posts] at hm
 refine calls_in func86 rfl ntmps86 rfl (sr (bx rfl hS fun q aW Z => ?_))
 have aa : SH _ _ _ _ _ [obj q [.slice f i k, .slice l m o] 30] := Z
 refine lv (rv_assign (v := .slice none 0 0) rfl) (nsr (lv (rv_assign (v := .int .i64 0) rfl) (nq ?_)))
 obtain ⟨ab, ac, y⟩ := ob hm
 refine wc_cutg (fun E' w' => ∃ J A, ab = .inl J ∧ E' = [] ∧ SH w K [] w' A [] ∧ KLe K A) ?_ ?_
 ·refine wc_block ?_
  obtain ⟨aX, ad, O⟩ := ob ac
  refine qw (fun (B : Int) E' w' => ∃ c, E' = [(1, sv p1_field), (2, sv p2_term), (3, pt q), (7, .int .i64 B)] ∧ SH w K [] w' c [obj q [.slice f i k, .slice l m o] 30] ∧ KLe K c ∧ rng64 B) ad ⟨K, rfl, aa, (KLe.refl _), (by decide : rng64 0)⟩ ?_
  rintro B _ aY aZ ae R ⟨c, rfl, b, d, a0⟩
  refine wc_seq (sr (mv rfl (fa ff30_1 rfl (lv (rv_loadm1 tf28 rfl m0 b rfl) (lv (rv_len (t := tGEntry) underlying28 rfl (x.mono d)) (lv (rv_lss rfl rfl) (nq (wcc ae rfl (fun af D => ?_) (fun af D => ?_)))))))))
  ·refine wc_skip (qs (wc_block (wc_seq ?_)))
   obtain ⟨ag, ah, ai⟩ := ob D
   refine wc_cutg (fun E' w' => ∃ s, E' = [(1, sv p1_field), (2, sv p2_term), (3, pt q), (7, .int .i64 B), (32, .bool ag)] ∧ SH w K [] w' s [obj q [.slice f i k, .slice l m o] 30] ∧ KLe c s) ?_ ?_
   ·refine wc_region (fa ff30_1 rfl (lv (rv_loadm1 tf28 rfl m0 b rfl) (mv rfl ?_)))
    obtain ⟨G, aj, S⟩ := ob ah
    refine li underlying28 tf86 (x.mono d) aj fun ak al a2 am an => ?_
    obtain ⟨ao, ap, aq, rfl, a3, a4, a6⟩ := am
    have ar : AtK _ ak al [sv G.Field, sv G.Term, .slice ao ap aq] := an
    refine fa ff86_0 rfl (lv (rv_load1 tf9 rfl b (ar 0 _ rfl)) (mv rfl (lv (rv_seql rfl rfl) (mv rfl ?_))))
    rcases bool_tf ((G.Field == p1_field)) with a | a
    ·have H := cond_t a S
     refine lg a (rv_fieldAddr ff30_1 rfl) (lg a (rv_loadm1 tf28 rfl m0 b rfl) (lg a (rv_move rfl) ?_))
     obtain ⟨T, au, aw⟩ := ob H
     refine wl_indexAddr (t := tGEntry) (wg rfl rfl a) rfl underlying28 tf86 rfl rfl (x.mono d) au fun ax ay a7 az aA => ?_
     obtain ⟨aB, aC, aD, rfl, a8, a9, ba⟩ := az
     have aE : AtK _ ax ay [sv T.Field, sv T.Term, .slice aB aC aD] := aA
     refine lg a (rv_fieldAddr ff86_1 rfl) (lg a (rv_load1 tf9 rfl b (aE 1 _ rfl)) (lg a (rv_move rfl) (lg a (rv_seql rfl rfl) (lv (rv_pick_t rfl a rfl) (wl_nil ?_)))))
     obtain rfl := oi aw
     exact qd ⟨c, rfl, b, (KLe.refl _)⟩
    have H := cond_f a S
    refine lu a (lu a (lu a (lu a (lu a (lu a (lu a (lu a (lv (rv_pick_f (v := .bool false) rfl a rfl) (wl_nil ?_)))))))))
    obtain rfl := oi H
    exact qd ⟨c, rfl, b, (KLe.refl _)⟩
   rintro _ bb ⟨s, rfl, C, U⟩
   refine qe_seq (wcc ai rfl (fun aF I => ?_) (fun aF I => ?_))
   ·refine sr (fa ff30_1 rfl (lv (rv_loadm1 tf28 rfl m0 C rfl) (mv rfl ?_)))
    obtain ⟨V, aG, aH⟩ := ob I
    refine li underlying28 tf86 (x.mono (d.trans U)) aG fun aI aJ bc aK aL => ?_
    obtain ⟨W, X, Y, rfl, bd, be, aM⟩ := aK
    have aN : AtK _ aI aJ [sv V.Field, sv V.Term, .slice W X Y] := aL
    refine fa ff86_2 rfl (lv (rv_load1 tf37 rfl C (aN 2 _ rfl)) (av rfl (nq (wc_ret (qe_block_ret (qe_then_ret (qe_then_ret ?_)))))))
    obtain rfl := oi aH
    have aO := R _ rfl
    subst aO
    refine qe_block_ret (qe_then_ret ?_)
    obtain rfl := oi O
    refine qe_then_ret ?_
    obtain rfl := oi y
    have aP := C.sb (sd sz)
    exact er results86 ⟨rfl, trivial⟩ ⟨W, X, Y, s, rfl, aP, aM⟩
   refine wc_skip (qe_block (qe_seq (wc_region (mv rfl (lv (rv_add rfl rfl) (av rfl (wl_nil ?_)))))))
   obtain rfl := oi I
   exact qd ⟨_, rfl, s, rfl, C, (d.trans U), (w64_rng _)⟩
  refine wc_exit (qe_then_exit (qe_then_exit ?_))
  obtain rfl := oi D
  have aQ := R _ rfl
  subst aQ
  refine qe_block_eq ?_
  obtain rfl := oi O
  have aR := b.sb (sd sz)
  exact qe_mid' ⟨_, c, rfl, rfl, aR, d⟩ trivial
 rintro _ bf ⟨J, A, rfl, rfl, aS, bg⟩
 have y := elim_l y
 refine qr (lv (rv_assign (v := .slice none 0 0) rfl) (nq (wc_ret ?_)))
 obtain rfl := oi y
 exact er results86 ⟨rfl, trivial⟩ ⟨none, 0, 0, A, rfl, aS, (SliceAt.nil _ _)⟩

theorem ok_spec_l12At (F : Nat) {w : World} {K : KMap} {b : Option Addr} {c d : Nat} {f : Option Addr} {i k : Nat} {p0_s : GSeg} {p1_field : Str} {p2_term : Str} {p3_id : Int} {r : (List Int)} (hS : SH w K [] w K []) (R : SliceAt tGDoc K b c d p0_s.Docs) (S : SliceAt tGEntry K f i k p0_s.Entries) (T : p1_field.length ≤ maxLen) (U : p2_term.length ≤ maxLen) (aL : rng64 p3_id) (hm : M.spec_l12At F p0_s p1_field p2_term p3_id = some r) :
  Calls Tryz.prog 137 #[.agg #[.slice b c d, .slice f i k], sv p1_field, sv p2_term, .int .i64 p3_id] w fun e w' => ∃ a_1 n_2 c_3 K', e = .returned (.slice a_1 n_2 c_3) ∧ SH w K [] w' K' [] ∧ SliceAt tInt K' a_1 n_2 c_3 r := by
 rw [M.spec_l12At] at hm
 refine calls_in func137 rfl ntmps137 rfl (sr (bx rfl hS fun V aM W => ?_))
 have s : SH _ _ _ _ _ [obj V [.slice b c d, .slice f i k] 30] := W
 refine lv (rv_assign (v := .slice none 0 0) rfl) (nr (lv (rv_loadmS (ds := [.slice b c d, .slice f i k]) tf30 rfl m0 s rfl rfl) (mv rfl (mv rfl ?_))))
 obtain ⟨aN, X, Y⟩ := ob hm
 refine lc (vs := [.agg #[.slice b c d, .slice f i k], sv p1_field, sv p2_term]) co86 ((ok_spec_l7Posts F) s.enter0 R S T U X) ?_
 rintro aO aP ⟨Z, aa, ab, x, rfl, ac, y⟩
 refine ⟨_, rfl, ?_⟩
 have ad := (s.c0 ac).t1
 refine av rfl (nsr (lv (rv_assign (v := .int .i64 0) rfl) (nq ?_)))
 obtain ⟨ae, af, o⟩ := ob Y
 refine wc_cutg (fun E' w' => ∃ D q, ae = .inl D ∧ E' = [] ∧ SH w K [] w' q [] ∧ KLe x q) ?_ ?_
 ·refine wc_block ?_
  obtain ⟨aQ, ag, G⟩ := ob af
  have ah := ad.sb (sd sz)
  refine qw (fun (A : Int) E' w' => ∃ a, E' = [(3, .int .i64 p3_id), (9, .slice Z aa ab), (10, .int .i64 A)] ∧ SH w K [] w' a [] ∧ KLe x a ∧ rng64 A) ag ⟨x, rfl, ah, (KLe.refl _), (by decide : rng64 0)⟩ ?_
  rintro A _ aR aS ai H ⟨a, rfl, l, m, aT⟩
  refine wc_seq (sr (mv rfl (mv rfl (lv (rv_len (t := tGPost) underlying37 rfl (y.mono m)) (lv (rv_lss rfl rfl) (nq (wcc ai rfl (fun aj B => ?_) (fun aj B => ?_))))))))
  ·refine wc_skip (qs (wc_block (sr (mv rfl (mv rfl ?_)))))
   obtain ⟨ak, al, am⟩ := ob B
   refine li underlying37 tf42 (y.mono m) al fun an ao aU ap aq => ?_
   obtain ⟨ar, au, aw, rfl, aV, aW⟩ := ap
   have ax : AtK _ an ao [.int .i64 ak.Doc, .slice ar au aw] := aq
   refine fa ff42_0 rfl (lv (rv_load1 tf3 rfl l (ax 0 _ rfl)) (mv rfl (lv (rv_eql rfl rfl) (nq (wcc am rfl (fun ay C => ?_) (fun ay C => ?_))))))
   ·refine sr (mv rfl (mv rfl ?_))
    obtain ⟨az, aA, aB⟩ := ob C
    refine li underlying37 tf42 (y.mono m) aA fun aC aD aX aE aF => ?_
    obtain ⟨I, J, O, rfl, aY, aG⟩ := aE
    have aH : AtK _ aC aD [.int .i64 az.Doc, .slice I J O] := aF
    refine fa ff42_1 rfl (lv (rv_load1 tf39 rfl l (aH 1 _ rfl)) (av rfl (nq (wc_ret (qe_block_ret (qe_then_ret (qe_then_ret ?_)))))))
    obtain rfl := oi aB
    have aI := H _ rfl
    subst aI
    refine qe_block_ret (qe_then_ret ?_)
    obtain rfl := oi G
    refine qe_then_ret ?_
    obtain rfl := oi o
    exact er results137 ⟨rfl, trivial⟩ ⟨I, J, O, a, rfl, l, aG⟩
   refine wc_skip (qe_block (qe_seq (wc_region (mv rfl (lv (rv_add rfl rfl) (av rfl (wl_nil ?_)))))))
   obtain rfl := oi C
   exact qd ⟨_, rfl, a, rfl, l, m, (w64_rng _)⟩
  refine wc_exit (qe_then_exit (qe_then_exit ?_))
  obtain rfl := oi B
  have aJ := H _ rfl
  subst aJ
  refine qe_block_eq ?_
  obtain rfl := oi G
  exact qe_mid' ⟨_, a, rfl, rfl, l, m⟩ trivial
 rintro _ aZ ⟨D, q, rfl, rfl, aK, a0⟩
 have o := elim_l o
 refine qr (lv (rv_assign (v := .slice none 0 0) rfl) (nq (wc_ret ?_)))
 obtain rfl := oi o
 exact er results137 ⟨rfl, trivial⟩ ⟨none, 0, 0, q, rfl, aK, (SliceAt.nil _ _)⟩

theorem ok_spec_l10Gcd (F : Nat) : ∀ {w : World} {K : KMap} {p0_a : Int} {p1_b : Int} {r : Int} (hS : SH w K [] w K []) (f : rng64 p0_a) (i : rng64 p1_b) (hm : M.spec_l10Gcd F p0_a p1_b = some r),
  Calls Tryz.prog 213 #[.int .i64 p0_a, .int .i64 p1_b] w fun e w' => ∃ K', e = .returned (.int .i64 r) ∧ SH w K [] w' K' [] ∧ rng64 r := by
 induction F with
 | zero => intros; rename_i hm; rw [M.spec_l10Gcd] at hm; cases hm
 | succ F ih =>
  intro w K p0_a p1_b r hS f i hm
  rw [M.spec_l10Gcd] at hm
  refine calls_in func213 rfl ntmps213 rfl (sr (lv (rv_assign (v := .int .i64 0) rfl) (nsr (mv rfl (lv (rv_lss rfl rfl) (nq ?_))))))
  obtain ⟨k, o, q⟩ := ob hm
  refine wc_cutg (fun E' w' => ∃ a, E' = [(0, .int .i64 k), (1, .int .i64 p1_b)] ∧ SH w K [] w' a [] ∧ KLe K a ∧ rng64 k) ?_ ?_
  ·refine wcc o rfl (fun s b => ?_) (fun s b => ?_)
   ·refine wc_region (mv rfl (lv (rv_neg rfl) (av rfl (wl_nil ?_))))
    obtain rfl := oi b
    exact qd ⟨K, rfl, hS, (KLe.refl _), (w64_rng _)⟩
   refine wc_skip ?_
   obtain rfl := oi b
   exact qd ⟨K, rfl, hS, (KLe.refl _), f⟩
  rintro _ J ⟨a, rfl, c, O, l⟩
  refine qs (sr (mv rfl (lv (rv_eql rfl rfl) (nq (wcc q rfl (fun x d => ?_) (fun x d => ?_))))))
  ·refine sr (mv rfl (av rfl (nq (rr ?_))))
   obtain rfl := oi d
   exact er results213 ⟨rfl, trivial⟩ ⟨a, rfl, c, l⟩
  refine wc_skip (qr (mv rfl (mv rfl (mv rfl ?_))))
  obtain ⟨y, m, A⟩ := ob d
  refine lv (rv_rem rfl rfl m) ?_
  obtain ⟨R, B, C⟩ := ob A
  refine lc (vs := [.int .i64 p1_b, .int .i64 y]) co213 (ih c.enter0 i (rng_rem l m) B) ?_
  rintro S T ⟨D, rfl, G, H⟩
  refine ⟨_, rfl, ?_⟩
  have I := (c.c0 G).t0
  refine av rfl (nq (wc_ret ?_))
  obtain rfl := oi C
  exact er results213 ⟨rfl, trivial⟩ ⟨D, rfl, I, H⟩

theorem ok_spec_l10Make (F : Nat) {w : World} {K : KMap} {p0_a : Int} {p1_b : Int} {r : GRat} (hS : SH w K [] w K []) (y : rng64 p0_a) (A : rng64 p1_b) (hm : M.spec_l10Make F p0_a p1_b = some r) :
  Calls Tryz.prog 173 #[.int .i64 p0_a, .int .i64 p1_b] w fun e w' => ∃ K', e = .returned (.agg #[.int .i64 r.Up, .int .i64 r.Down]) ∧ SH w K [] w' K' [] ∧ rng64 r.Up ∧ rng64 r.Down := by
 rw [M.spec_l10Make] at hm
 refine calls_in func173 rfl ntmps173 rfl (sr (al tf92 hS fun f W B => ?_))
 have m : SH _ _ _ _ _ [obj f [.int .i64 0, .int .i64 0] 92] := B
 refine nsr (mv rfl (lv (rv_lss rfl rfl) (nq ?_)))
 obtain ⟨a, C, D⟩ := ob hm
 refine wc_cutg (fun E' w' => ∃ i, E' = [(0, .int .i64 a.1), (1, .int .i64 a.2), (4, pt f)] ∧ SH w K [] w' i [obj f [.int .i64 0, .int .i64 0] 92] ∧ KLe K i ∧ rng64 a.1 ∧ rng64 a.2) ?_ ?_
 ·refine wcc C rfl (fun G k => ?_) (fun G k => ?_)
  ·refine sr (mv rfl (lv (rv_neg rfl) (av rfl (nq (wc_region (mv rfl (lv (rv_neg rfl) (av rfl (wl_nil ?_)))))))))
   obtain rfl := oi k
   exact qd ⟨K, rfl, m, (KLe.refl _), (w64_rng _), (w64_rng _)⟩
  refine wc_skip ?_
  obtain rfl := oi k
  exact qd ⟨K, rfl, m, (KLe.refl _), y, A⟩
 rintro _ X ⟨i, rfl, o, Y, H, I⟩
 refine qr (mv rfl (mv rfl ?_))
 obtain ⟨Z, J, O⟩ := ob D
 refine lc (vs := [.int .i64 a.1, .int .i64 a.2]) co213 ((ok_spec_l10Gcd F) o.enter0 H I J) ?_
 rintro aa ab ⟨q, rfl, R, ac⟩
 refine ⟨_, rfl, ?_⟩
 have S := (o.c0 R).t1
 refine av rfl (ns ?_)
 have s := S.drew
 refine wh1 (fun w' => Holds q w') (fun w' => True) 8 [] mixed (s.hasK (KLe.refl _)) (fun _ => trivial) (gt (rv_move rfl) (gt (rv_move rfl) ?_))
 obtain ⟨b, v, T⟩ := ob O
 refine gt (rv_quo rfl rfl v) (gt (rv_move rfl) (gt (rv_move rfl) ?_))
 obtain ⟨d, x, U⟩ := ob T
 refine gt (rv_quo rfl rfl x) (gt (rv_build (cs := #[.int .i64 b, .int .i64 d]) sp92 tf92 rfl (by kernel_rfl)) (gn (ls [.int .i64 b, .int .i64 d] (.agg #[.int .i64 b, .int .i64 d]) tf92 s fun ad l => (wl_nil (qh (l.hasK (KLe.refl _)) (fun _ => trivial) (gd' (qe_seq (wc_ret ?_))))))))
 obtain rfl := oi U
 have V := l.sb (sd sz)
 exact qe_ret (vs := [_]) results173 ⟨⟨_, _, rfl, run_loadVar_at tf92 (cs := [.int .i64 b, .int .i64 d]) (fun j c e => by rw [Nat.zero_add, l.mem_obj m0]; exact e) (.inl ⟨rfl, rfl, rfl⟩)⟩, trivial⟩ ⟨q, rfl, V, (rng_quo v), (rng_quo x)⟩

theorem ok_spec_l12Rare (F : Nat) {w : World} {K : KMap} {p0_df : Int} {p1_docs : Int} {r : Int} (hS : SH w K [] w K []) (y : rng64 p0_df) (V : rng64 p1_docs) (hm : M.spec_l12Rare F p0_df p1_docs = some r) :
  Calls Tryz.prog 174 #[.int .i64 p0_df, .int .i64 p1_docs] w fun e w' => ∃ K', e = .returned (.int .i64 r) ∧ SH w K [] w' K' [] ∧ rng64 r := by
 rw [M.spec_l12Rare] at hm
 refine calls_in func174 rfl ntmps174 rfl (sr (lv (rv_assign (v := .int .i64 0) rfl) (nr (lv (rv_assign (v := .int .i64 0) rfl) (ns ?_)))))
 obtain ⟨l, A, B⟩ := ob hm
 refine wc_cutg (fun E' w' => ∃ f, E' = [(5, .int .i64 l)] ∧ SH w K [] w' f [] ∧ KLe K f ∧ rng64 l) ?_ ?_
 ·refine wc_block ?_
  obtain ⟨W, C, D⟩ := ob A
  refine qw (fun (b : Int × Int) E' w' => ∃ c, E' = [(0, .int .i64 b.1), (1, .int .i64 p1_docs), (5, .int .i64 b.2)] ∧ SH w K [] w' c [] ∧ KLe K c ∧ rng64 b.1 ∧ rng64 b.2) C ⟨K, rfl, hS, (KLe.refl _), y, (by decide : rng64 0)⟩ ?_
  rintro b _ X Y G H ⟨c, rfl, m, o, Z, I⟩
  refine wc_seq (wc_seq ?_)
  obtain ⟨J, q, O⟩ := ob G
  refine wc_cutg (fun E' w' => ∃ d, E' = [(0, .int .i64 b.1), (1, .int .i64 p1_docs), (5, .int .i64 b.2), (13, .bool J)] ∧ SH w K [] w' d [] ∧ KLe c d) ?_ ?_
  ·refine wc_region (mv rfl (lv (rv_gtr rfl rfl) (mv rfl ?_)))
   rcases bool_tf (decide ((0 : Int) < b.1)) with a | a
   ·have i := cond_t a q
    refine lg a (rv_move rfl) (lg a (rv_mul rfl rfl) (lg a (rv_move rfl) (lg a (rv_leq rfl rfl) (lv (rv_pick_t rfl a rfl) (wl_nil ?_)))))
    obtain rfl := oi i
    exact qd ⟨c, rfl, m, (KLe.refl _)⟩
   have i := cond_f a q
   refine lu a (lu a (lu a (lu a (lv (rv_pick_f (v := .bool false) rfl a rfl) (wl_nil ?_)))))
   obtain rfl := oi i
   exact qd ⟨c, rfl, m, (KLe.refl _)⟩
  rintro _ aa ⟨d, rfl, s, x⟩
  refine qe_seq (wcc O rfl (fun R k => ?_) (fun R k => ?_))
  ·refine wc_skip (qe_seq (wc_block (sr (mv rfl (lv (rv_mul rfl rfl) (av rfl (nq (wc_region (mv rfl ?_)))))))))
   refine lv (rv_add rfl rfl) (av rfl (nb ?_))
   obtain rfl := oi k
   exact qd ⟨_, rfl, d, rfl, s, (o.trans x), (w64_rng _), (w64_rng _)⟩
  refine wc_exit (qe_then_exit (qe_then_exit ?_))
  obtain rfl := oi k
  have S := H _ rfl
  subst S
  refine qe_block_eq ?_
  obtain rfl := oi D
  exact qd ⟨d, rfl, s, (o.trans x), I⟩
 rintro _ w8 ⟨f, rfl, T, ac, U⟩
 refine qr (mv rfl (av rfl (nq (wc_ret ?_))))
 obtain rfl := oi B
 exact er results174 ⟨rfl, trivial⟩ ⟨f, rfl, T, U⟩

theorem ok_spec_l12Term (F : Nat) {w : World} {K : KMap} {p0_tf : Int} {p1_long : Int} {p2_total : Int} {p3_docs : Int} {p4_df : Int} {r : GRat} (hS : SH w K [] w K []) (Y : rng64 p0_tf) (Z : rng64 p1_long) (aa : rng64 p2_total) (s : rng64 p3_docs) (x : rng64 p4_df) (hm : M.spec_l12Term F p0_tf p1_long p2_total p3_docs p4_df = some r) :
  Calls Tryz.prog 138 #[.int .i64 p0_tf, .int .i64 p1_long, .int .i64 p2_total, .int .i64 p3_docs, .int .i64 p4_df] w fun e w' => ∃ K', e = .returned (.agg #[.int .i64 r.Up, .int .i64 r.Down]) ∧ SH w K [] w' K' [] ∧ rng64 r.Up ∧ rng64 r.Down := by
 rw [M.spec_l12Term] at hm
 refine calls_in func138 rfl ntmps138 rfl (sr (al tf92 hS fun b w7 y => ?_))
 have k : SH _ _ _ _ _ [obj b [.int .i64 0, .int .i64 0] 92] := y
 refine nr (lv (rv_assign (v := .int .i64 1) rfl) (nsr (mv rfl (lv (rv_gtr rfl rfl) (nq ?_)))))
 obtain ⟨d, A, B⟩ := ob hm
 refine wc_cutg (fun E' w' => ∃ f, E' = [(0, .int .i64 p0_tf), (3, .int .i64 p3_docs), (4, .int .i64 p4_df), (10, pt b), (11, .int .i64 d)] ∧ SH w K [] w' f [obj b [.int .i64 0, .int .i64 0] 92] ∧ KLe K f ∧ rng64 d) ?_ ?_
 ·refine wcc A rfl (fun C i => ?_) (fun C i => ?_)
  ·refine wc_region (mv rfl (mv rfl (lv (rv_mul rfl rfl) (lv (rv_mul rfl rfl) (mv rfl ?_)))))
   obtain ⟨ac, l, D⟩ := ob i
   refine lv (rv_quo rfl rfl l) (av rfl (wl_nil ?_))
   obtain rfl := oi D
   exact qd ⟨K, rfl, k, (KLe.refl _), (rng_quo l)⟩
  refine wc_skip ?_
  obtain rfl := oi i
  exact qd ⟨K, rfl, k, (KLe.refl _), (by decide : rng64 1)⟩
 rintro _ ad ⟨f, rfl, m, ae, af⟩
 refine qr (mv rfl (mv rfl ?_))
 obtain ⟨G, H, I⟩ := ob B
 refine lc (vs := [.int .i64 p4_df, .int .i64 p3_docs]) co174 ((ok_spec_l12Rare F) m.enter0 x s H) ?_
 rintro ag ah ⟨ai, rfl, J, aj⟩
 refine ⟨_, rfl, ?_⟩
 have o := (m.c0 J).t1
 refine lv (rv_add rfl rfl) (lv (rv_mul rfl rfl) (mv rfl (lv (rv_mul rfl rfl) (mv rfl (lv (rv_mul rfl rfl) (lv (rv_add rfl rfl) (mv rfl (lv (rv_add rfl rfl) ?_))))))))
 obtain ⟨a, O, R⟩ := ob I
 refine lc (vs := [.int .i64 (w64 ((w64 ((w64 ((1 : Int) + G)) * (22 : Int))) * p0_tf)), .int .i64 (w64 ((w64 ((w64 ((10 : Int) * p0_tf)) + (3 : Int))) + d))]) co173 ((ok_spec_l10Make F) o.enter0 (w64_rng _) (w64_rng _) O) ?_
 rintro ak am ⟨S, rfl, T, U, V⟩
 refine ⟨_, rfl, ?_⟩
 have W := (o.c0 T).t1
 refine ls [.int .i64 a.Up, .int .i64 a.Down] (.agg #[.int .i64 a.Up, .int .i64 a.Down]) tf92 W fun an q => (nq (wc_ret ?_))
 obtain rfl := oi R
 have X := q.sb (sd sz)
 exact qe_ret (vs := [_]) results138 ⟨⟨_, _, rfl, run_loadVar_at tf92 (cs := [.int .i64 a.Up, .int .i64 a.Down]) (fun j c e => by rw [Nat.zero_add, q.mem_obj m0]; exact e) (.inl ⟨rfl, rfl, rfl⟩)⟩, trivial⟩ ⟨S, rfl, X, U, V⟩

set_option maxHeartbeats 2000000 in
theorem ok_spec_l7Long (F : Nat) {w : World} {K : KMap} {i : Option Addr} {k l : Nat} {m : Option Addr} {o q : Nat} {p0_s : GSeg} {p1_field : Str} {p2_id : Int} {r : Int} (hS : SH w K [] w K []) (bP : SliceAt tGDoc K i k l p0_s.Docs) (D : SliceAt tGEntry K m o q p0_s.Entries) (bQ : p1_field.length ≤ maxLen) (bR : rng64 p2_id) (hm : M.spec_l7Long F p0_s p1_field p2_id = some r) :
  Calls Tryz.prog 139 #[.agg #[.slice i k l, .slice m o q], sv p1_field, .int .i64 p2_id] w fun e w' => ∃ K', e = .returned (.int .i64 r) ∧ SH w K [] w' K' [] ∧ rng64 r := by
 rw [M.spec_l7Long] at hm
 refine calls_in func139 rfl ntmps139 rfl (sr (bx rfl hS fun b bS ad => ?_))
 have ae : SH _ _ _ _ _ [obj b [.slice i k l, .slice m o q] 30] := ad
 refine lv (rv_assign (v := .int .i64 0) rfl) (nr (lv (rv_assign (v := .int .i64 0) rfl) (nsr (lv (rv_assign (v := .int .i64 0) rfl) (nq ?_)))))
 obtain ⟨V, af, ag⟩ := ob hm
 refine wc_cutg (fun E' w' => ∃ H, E' = [(7, .int .i64 V)] ∧ SH w K [] w' H [] ∧ KLe K H ∧ rng64 V) ?_ ?_
 ·refine wc_block ?_
  obtain ⟨bT, ah, ai⟩ := ob af
  refine qw (fun (d : Int × Int) E' w' => ∃ s, E' = [(1, sv p1_field), (2, .int .i64 p2_id), (3, pt b), (7, .int .i64 d.1), (8, .int .i64 d.2)] ∧ SH w K [] w' s [obj b [.slice i k l, .slice m o q] 30] ∧ KLe K s ∧ rng64 d.1 ∧ rng64 d.2) ah ⟨K, rfl, ae, (KLe.refl _), (by decide : rng64 0), (by decide : rng64 0)⟩ ?_
  rintro d _ bU bV aj ak ⟨s, rfl, J, x, W, bW⟩
  refine wc_seq (sr (mv rfl (fa ff30_1 rfl (lv (rv_loadm1 tf28 rfl m0 J rfl) (lv (rv_len (t := tGEntry) underlying28 rfl (D.mono x)) (lv (rv_lss rfl rfl) (nq (wcc aj rfl (fun al O => ?_) (fun al O => ?_)))))))))
  ·refine wc_skip (qs (wc_block (sr (lv (rv_assign (v := .int .i64 0) rfl) (nq ?_)))))
   obtain ⟨X, am, an⟩ := ob O
   refine wc_cutg (fun E' w' => ∃ I, E' = [(1, sv p1_field), (2, .int .i64 p2_id), (3, pt b), (7, .int .i64 X), (8, .int .i64 d.2)] ∧ SH w K [] w' I [obj b [.slice i k l, .slice m o q] 30] ∧ KLe s I ∧ rng64 X) ?_ ?_
   ·refine wc_block ?_
    obtain ⟨bX, ao, ap⟩ := ob am
    refine qw (fun (f : Int × Int) E' w' => ∃ A, E' = [(1, sv p1_field), (2, .int .i64 p2_id), (3, pt b), (7, .int .i64 f.1), (8, .int .i64 d.2), (9, .int .i64 f.2)] ∧ SH w K [] w' A [obj b [.slice i k l, .slice m o q] 30] ∧ KLe s A ∧ rng64 f.1 ∧ rng64 f.2) ao ⟨s, rfl, J, (KLe.refl _), W, (by decide : rng64 0)⟩ ?_
    rintro f _ bY bZ aq ar ⟨A, rfl, B, y, Y, b0⟩
    refine wc_seq (wc_seq ?_)
    obtain ⟨au, aw, ax⟩ := ob aq
    refine wc_cutg (fun E' w' => ∃ C, E' = [(1, sv p1_field), (2, .int .i64 p2_id), (3, pt b), (7, .int .i64 f.1), (8, .int .i64 d.2), (9, .int .i64 f.2), (35, .bool au)] ∧ SH w K [] w' C [obj b [.slice i k l, .slice m o q] 30] ∧ KLe A C) ?_ ?_
    ·refine wc_region (mv rfl (fa ff30_1 rfl (lv (rv_loadm1 tf28 rfl m0 B rfl) (mv rfl ?_))))
     obtain ⟨R, ay, Z⟩ := ob aw
     refine li underlying28 tf86 (D.mono (x.trans y)) ay fun az aA b1 aB aC => ?_
     obtain ⟨aD, aE, aF, rfl, b2, b3, aG⟩ := aB
     have aH : AtK _ az aA [sv R.Field, sv R.Term, .slice aD aE aF] := aC
     refine fa ff86_2 rfl (lv (rv_load1 tf37 rfl B (aH 2 _ rfl)) (lv (rv_len (t := tGPost) underlying37 rfl aG) (lv (rv_lss rfl rfl) (mv rfl ?_))))
     rcases bool_tf (decide (f.2 < (R.Posts.length : Int))) with a | a
     ·have S := cond_t a Z
      refine lg a (rv_fieldAddr ff30_1 rfl) (lg a (rv_loadm1 tf28 rfl m0 B rfl) (lg a (rv_move rfl) ?_))
      obtain ⟨aa, aI, aJ⟩ := ob S
      refine wl_indexAddr (t := tGEntry) (wg rfl rfl a) rfl underlying28 tf86 rfl rfl (D.mono (x.trans y)) aI fun aK aL b4 aM aN => ?_
      obtain ⟨aO, aP, aQ, rfl, b5, b6, b7⟩ := aM
      have aR : AtK _ aK aL [sv aa.Field, sv aa.Term, .slice aO aP aQ] := aN
      refine lg a (rv_fieldAddr ff86_0 rfl) (lg a (rv_load1 tf9 rfl B (aR 0 _ rfl)) (lg a (rv_move rfl) (lg a (rv_seql rfl rfl) (lv (rv_pick_t rfl a rfl) (wl_nil ?_)))))
      obtain rfl := oi aJ
      exact qd ⟨A, rfl, B, (KLe.refl _)⟩
     have S := cond_f a Z
     refine lu a (lu a (lu a (lu a (lu a (lu a (lu a (lu a (lv (rv_pick_f (v := .bool false) rfl a rfl) (wl_nil ?_)))))))))
     obtain rfl := oi S
     exact qd ⟨A, rfl, B, (KLe.refl _)⟩
    rintro _ w64 ⟨C, rfl, c, G⟩
    refine qe_seq (wcc ax rfl (fun aS T => ?_) (fun aS T => ?_))
    ·refine wc_skip (qs (wc_block (sr (fa ff30_1 rfl (lv (rv_loadm1 tf28 rfl m0 c rfl) (mv rfl ?_))))))
     obtain ⟨ab, aT, aU⟩ := ob T
     refine li underlying28 tf86 (D.mono ((x.trans y).trans G)) aT fun aV aW b8 aX aY => ?_
     obtain ⟨aZ, a0, a2, rfl, b9, ca, a3⟩ := aX
     have a4 : AtK _ aV aW [sv ab.Field, sv ab.Term, .slice aZ a0 a2] := aY
     refine fa ff86_2 rfl (lv (rv_load1 tf37 rfl c (a4 2 _ rfl)) (mv rfl ?_))
     obtain ⟨a6, a7, a8⟩ := ob aU
     refine li underlying37 tf42 a3 a7 fun a9 ba cb bb bc => ?_
     obtain ⟨bd, be, bf, rfl, cc, cd⟩ := bb
     have bg : AtK _ a9 ba [.int .i64 a6.Doc, .slice bd be bf] := bc
     refine fa ff42_0 rfl (lv (rv_load1 tf3 rfl c (bg 0 _ rfl)) (mv rfl (lv (rv_eql rfl rfl) (nq (wcc a8 rfl (fun bh U => ?_) (fun bh U => ?_))))))
     ·refine wc_region (mv rfl (fa ff30_1 rfl (lv (rv_loadm1 tf28 rfl m0 c rfl) (mv rfl ?_))))
      obtain ⟨ac, bi, bj⟩ := ob U
      refine li underlying28 tf86 (D.mono ((x.trans y).trans G)) bi fun bk bl ce bm bn => ?_
      obtain ⟨bo, bp, bq, rfl, cf, cg, br⟩ := bm
      have bs : AtK _ bk bl [sv ac.Field, sv ac.Term, .slice bo bp bq] := bn
      refine fa ff86_2 rfl (lv (rv_load1 tf37 rfl c (bs 2 _ rfl)) (mv rfl ?_))
      obtain ⟨bt, bu, bv⟩ := ob bj
      refine li underlying37 tf42 br bu fun bw bz ch bA bB => ?_
      obtain ⟨bC, bD, bE, rfl, ci, bF⟩ := bA
      have bG : AtK _ bw bz [.int .i64 bt.Doc, .slice bC bD bE] := bB
      refine fa ff42_1 rfl (lv (rv_load1 tf39 rfl c (bG 1 _ rfl)) (lv (rv_len (t := tInt) underlying39 rfl bF) (lv (rv_add rfl rfl) (av rfl (nb (qe_seq (wc_region (mv rfl (lv (rv_add rfl rfl) ?_)))))))))
      refine av rfl (wl_nil ?_)
      obtain rfl := oi bv
      exact qd ⟨_, rfl, C, rfl, c, (y.trans G), (w64_rng _), (w64_rng _)⟩
     refine wc_skip (qe_block (qe_seq (wc_region (mv rfl (lv (rv_add rfl rfl) (av rfl (wl_nil ?_)))))))
     obtain rfl := oi U
     exact qd ⟨_, rfl, C, rfl, c, (y.trans G), Y, (w64_rng _)⟩
    refine wc_exit (qe_then_exit (qe_then_exit ?_))
    obtain rfl := oi T
    have bH := ar _ rfl
    subst bH
    refine qe_block_eq ?_
    obtain rfl := oi ap
    exact qd ⟨C, rfl, c, (y.trans G), Y⟩
   rintro _ cj ⟨I, rfl, bI, bJ, bK⟩
   refine qe_block (qe_seq (wc_region (mv rfl (lv (rv_add rfl rfl) (av rfl (wl_nil ?_))))))
   obtain rfl := oi an
   exact qd ⟨_, rfl, I, rfl, bI, (x.trans bJ), bK, (w64_rng _)⟩
  refine wc_exit (qe_then_exit (qe_then_exit ?_))
  obtain rfl := oi O
  have bL := ak _ rfl
  subst bL
  refine qe_block_eq ?_
  obtain rfl := oi ai
  have bM := J.sb (sd sz)
  exact qd ⟨s, rfl, bM, x, W⟩
 rintro _ ck ⟨H, rfl, bN, cl, bO⟩
 refine qr (mv rfl (av rfl (nq (wc_ret ?_))))
 obtain rfl := oi ag
 exact er results139 ⟨rfl, trivial⟩ ⟨H, rfl, bN, bO⟩
end Go.Proofs.YtoeajphlomankaaGreatDoor
