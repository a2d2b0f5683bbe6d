/-
 Walks of the functions. Printed by gen.py.
-/
import Derived.Test.YtmkhlppjphodfaaGreatDoorWalkA0
import Derived.Test.YtmkhlppjphodfaaGreatDoorWalkA1
set_option linter.unusedVariables false
set_option linter.unusedSectionVars false
set_option maxRecDepth 100000
namespace Go.Proofs.YtmkhlppjphodfaaGreatDoor
open Go Go.Fk Go.RowKit Tryz
variable (F : Nat) {w : World} {K : KMap} {Z : List Nat} {g1 g2 g3 : Nat} {A B C D G H I J O R S T : Option Addr} {a b c d f i k l m n o p q s v x y aa ab ac ad ae af ag : Nat}
variable [dr : Dr]

theorem ok_spec_l2Stem {p0_s : Str} {r : Str} (hS : SH w K [] w K []) (o : p0_s.length ≤ maxLen) (hm : M.spec_l2Stem F p0_s = some r) :
  Calls prog 105 #[sv p0_s] w fun e w' => ∃ K', e = .returned (sv r) ∧ SH w K [] w' K' [] ∧ r.length ≤ maxLen := by
 rw [M.spec_l2Stem] at hm
 refine ci func105 rfl ntmps105 (sr (lv (rv_assign (v := sv []) rfl) (ns ?_)))
 obtain ⟨i, q, s⟩ := ob hm
 refine wc_cutg (IW w K [] K [(0, sv i)] [] (i.length ≤ maxLen)) ?_ ?_
 ·refine wc_block ?_
  obtain ⟨W, x, y⟩ := ob q
  refine qw (fun (a : Str) => IW w K [] K [(0, sv a)] [] (a.length ≤ maxLen)) x ⟨K, rfl, hS, kr, o⟩ ?_
  rintro a _ X Y A B ⟨aa, rfl, k, l, b⟩
  refine wc_seq (sr (mv rfl ?_))
  obtain ⟨ab, C, D⟩ := ob A
  refine lk co159 ((ok_spec_l2Once F) k.enter0 b C) ?_
  rintro ac ad ⟨G, rfl, c, ae⟩
  have d := (k.c0 c).t0
  refine mv rfl (lv (rv_sneq rfl rfl) (nq (wcc D rfl (fun H f => ?_) (fun H f => ?_))))
  ·refine wc_skip (qe_seq (wc_block (wc_region (mv rfl ?_))))
   obtain ⟨af, I, J⟩ := ob f
   refine lk co159 ((ok_spec_l2Once F) d.enter0 b I) ?_
   rintro ag ah ⟨O, rfl, m, R⟩
   have S := (d.c0 m).t0
   refine av rfl (nb ?_)
   cases oi J
   exact qd ⟨_, rfl, O, rfl, S, ((l.trans c.le).trans m.le), R⟩
  refine wc_exit (qe_then_exit (qe_then_exit ?_))
  cases oi f
  cases B _ rfl
  refine qe_block_eq ?_
  cases oi y
  exact qd ⟨G, rfl, d, (l.trans c.le), b⟩
 rintro _ w7 ⟨T, rfl, U, aj, V⟩
 refine qr (mv rfl (av rfl (nq (wc_ret ?_))))
 cases oi s
 exact ey results105 ⟨T, rfl, U, V⟩

set_option maxHeartbeats 2000000 in
theorem ok_spec_l2Ok {p0_c : GConf} {r : Bool} (hS : SH w K [] w K []) (O : SliceAt tStr K A a b p0_c.Stops) (ae : SliceAt tGSyn K B c d p0_c.Syns) (hm : M.spec_l2Ok F p0_c = some r) :
  Calls prog 55 #[.agg #[.slice A a b, .slice B c d]] w fun e w' => ∃ K', e = .returned (.bool r) ∧ SH w K [] w' K' [] := by
 rw [M.spec_l2Ok] at hm
 refine ci func55 rfl ntmps55 (sr (bx rfl hS fun f ds aU => ?_))
 have aV : SH _ _ _ _ _ [obj f [.slice A a b, .slice B c d] 26] := aU
 refine lv (rv_assign (v := .bool false) rfl) (nsr (lv (rv_assign (v := .int .i64 0) rfl) (nq ?_)))
 obtain ⟨aW, aX, W⟩ := ob hm
 refine wc_cutg (IE aW w K [] K [(1, pt f)] [obj f [.slice A a b, .slice B c d] 26]) ?_ ?_
 ·refine wc_block ?_
  obtain ⟨dt, aY, aC⟩ := ob aX
  refine qw (fun (X : Int) => IW w K [] K [(1, pt f), (3, .int .i64 X)] [obj f [.slice A a b, .slice B c d] 26] (rng64 X)) aY ⟨K, rfl, aV, kr, (by decide : rng64 0)⟩ ?_
  rintro X _ du dv aZ aD ⟨aE, rfl, af, R, dw⟩
  refine wc_seq (sr (mv rfl (fa ff26_0 rfl (lv (rv_loadm1 tf23 rfl m0 af rfl) (lv (rv_len (t := tStr) underlying23 rfl (O.mono R)) (lv (rv_lss rfl rfl) (nq (wcc aZ rfl (fun a0 ag => ?_) (fun a0 ag => ?_)))))))))
  ·refine wc_skip (qs (wc_block (wc_seq ?_)))
   obtain ⟨a1, a2, a3⟩ := ob ag
   refine wc_cutg (IV w K [] aE [(1, pt f), (3, .int .i64 X), (38, .bool a1)] [obj f [.slice A a b, .slice B c d] 26]) ?_ ?_
   ·refine wc_quiet mixed (by kernel_rfl) af (kv (rv_fieldAddr ff26_0 rfl) (kh (rq_loadm1 tf23 rfl m0 rfl) (km rfl ?_)))
    obtain ⟨a4, a5, a6⟩ := ob a2
    refine ki underlying23 tf9 (O.mono R) a5 fun a7 a8 dx a9 ba => ?_
    obtain ⟨rfl, bb⟩ := a9
    have bc : AtK _ a7 a8 [sv a4] := ba
    refine kh (rq_load1 tf9 rfl (bc 0 _ rfl)) ?_
    obtain ⟨dy, bd, be⟩ := ob a6
    refine kc co85 (fun _ _ bf dz => (ok_spec_l1WordOk F) bf.enter0 bb bd) (kv (rv_not rfl) (km rfl (bt be (fun l ah => ?_) (fun l ah => ?_))))
    ·refine kn l (kn l (kn l ?_))
     iterate 12 refine ku ?_
     refine kn l (kv (rv_pick_t (v := .bool true) rfl l rfl) (wq_nil ?_))
     rintro dA ⟨bg, bh, bi⟩
     cases oi ah
     exact qd ⟨bg, rfl, bh, bi⟩
    refine kg l (rv_move rfl) (kg l (rv_gtr rfl rfl) (kg l (rv_move rfl) (bt ah (fun i ai => ?_) (fun i ai => ?_))))
    ·refine kg i (rv_fieldAddr ff26_0 rfl) (kgh i (rq_loadm1 tf23 rfl m0 rfl) (kg i (rv_move rfl) ?_))
     obtain ⟨bj, bk, bl⟩ := ob ai
     refine wq_indexAddr (t := tStr) (wg rfl rfl i) rfl underlying23 tf9 rfl rfl (O.mono R) bk fun bm bn dB bo bp => ?_
     obtain ⟨rfl, dC⟩ := bo
     have bq : AtK _ bm bn [sv bj] := bp
     refine kgh i (rq_load1 tf9 rfl (bq 0 _ rfl)) (kg i (rv_fieldAddr ff26_0 rfl) (kgh i (rq_loadm1 tf23 rfl m0 rfl) (kg i (rv_move rfl) (kg i (rv_sub rfl rfl) ?_))))
     obtain ⟨br, bs, bu⟩ := ob bl
     refine wq_indexAddr (t := tStr) (wg rfl rfl i) rfl underlying23 tf9 rfl rfl (O.mono R) bs fun bv bz dD bA bB => ?_
     obtain ⟨rfl, dE⟩ := bA
     have bC : AtK _ bv bz [sv br] := bB
     refine kgh i (rq_load1 tf9 rfl (bC 0 _ rfl)) (kg i (rv_sleq rfl rfl) (kg l (rv_pick_t rfl i rfl) (kv (rv_pick_f rfl l rfl) (wq_nil ?_))))
     rintro dF ⟨bD, bE, bF⟩
     cases oi bu
     exact qd ⟨bD, rfl, bE, bF⟩
    iterate 12 refine kn i ?_
    refine kg l (rv_pick_f (v := .bool false) rfl i rfl) (kv (rv_pick_f rfl l rfl) (wq_nil ?_))
    rintro dG ⟨bG, bH, bI⟩
    cases oi ai
    exact qd ⟨bG, rfl, bH, bI⟩
   rintro _ dH ⟨aF, rfl, aG, bJ⟩
   refine qe_seq (wcc a3 rfl (fun bK aj => ?_) (fun bK aj => ?_))
   ·refine sr (lv (rv_assign (v := .bool false) rfl) (nq (wc_ret (qe_block_ret (qe_then_ret (qe_then_ret ?_))))))
    cases oi aj
    cases aD _ rfl
    refine qe_block_ret (qe_then_ret ?_)
    cases oi aC
    refine qe_then_ret ?_
    cases oi W
    exact ey results55 ⟨aF, rfl, aG.s⟩
   refine wc_skip (qe_block (qe_seq (wc_region (mv rfl (lv (rv_add rfl rfl) (av rfl (wl_nil ?_)))))))
   cases oi aj
   exact qd ⟨_, rfl, aF, rfl, aG, (R.trans bJ), (w64_rng _)⟩
  refine wc_exit (qe_then_exit (qe_then_exit ?_))
  cases oi ag
  cases aD _ rfl
  refine qe_block_eq ?_
  cases oi aC
  exact qd ⟨_, aE, rfl, rfl, af, R⟩
 rintro _ dI ⟨dJ, ak, rfl, rfl, bL, S⟩
 have W := elim_l W
 refine qs (sr (lv (rv_assign (v := .int .i64 0) rfl) (nq ?_)))
 obtain ⟨bM, bN, T⟩ := ob W
 refine wc_cutg (IE bM w K [] ak [(1, pt f)] [obj f [.slice A a b, .slice B c d] 26]) ?_ ?_
 ·refine wc_block ?_
  obtain ⟨dK, bO, am⟩ := ob bN
  refine qw (fun (y : Int) => IW w K [] ak [(1, pt f), (4, .int .i64 y)] [obj f [.slice A a b, .slice B c d] 26] (rng64 y)) bO ⟨ak, rfl, bL, kr, (by decide : rng64 0)⟩ ?_
  rintro y _ dL dM bP an ⟨Y, rfl, U, V, dN⟩
  refine wc_seq (sr (mv rfl (fa ff26_1 rfl (lv (rv_loadm1 tf24 rfl m0 U rfl) (lv (rv_len (t := tGSyn) underlying24 rfl (ae.mono (S.trans V))) (lv (rv_lss rfl rfl) (nq (wcc bP rfl (fun bQ ao => ?_) (fun bQ ao => ?_)))))))))
  ·refine wc_skip (qs (wc_block (sr (fa ff26_1 rfl (lv (rv_loadm1 tf24 rfl m0 U rfl) (mv rfl ?_))))))
   obtain ⟨C, bR, bS⟩ := ob ao
   refine li underlying24 tf96 (ae.mono (S.trans V)) bR fun bT bU dO bV bW => ?_
   obtain ⟨D, G, H, rfl, I, ap⟩ := bV
   have bX : AtK _ bT bU [.slice D G H, sv C.To] := bW
   refine lv (rv_loadS (cs := [.slice D G H, sv C.To]) tf96 rfl U bX rfl) (al tf96 U fun J dP bY => ?_)
   have bZ : SH _ _ _ _ _ [obj J [.slice none 0 0, sv []] 96, _] := bY
   refine ls [.slice D G H, sv C.To] (.agg #[.slice D G H, sv C.To]) tf96 bZ fun dQ b0 => (nsr (lv (rv_assign (v := .int .i64 0) rfl) (nq ?_)))
   obtain ⟨b1, b2, aa⟩ := ob bS
   refine wc_cutg (IE b1 w K [] Y [(1, pt f), (4, .int .i64 y), (5, pt J)] [obj f [.slice A a b, .slice B c d] 26, obj J [.slice D G H, sv C.To] 96]) ?_ ?_
   ·refine wc_block ?_
    obtain ⟨dR, b3, aH⟩ := ob b2
    refine qw (fun (ab : Int) => IW w K [] Y [(1, pt f), (4, .int .i64 y), (5, pt J), (6, .int .i64 ab)] [obj f [.slice A a b, .slice B c d] 26, obj J [.slice D G H, sv C.To] 96] (rng64 ab)) b3 ⟨Y, rfl, b0.f1, kr, (by decide : rng64 0)⟩ ?_
    rintro ab _ dS dT b4 aI ⟨aJ, rfl, ac, x, dU⟩
    refine wc_seq (sr (mv rfl (fa ff96_0 rfl (lv (rv_loadm1 tf23 rfl m1 ac rfl) (lv (rv_len (t := tStr) underlying23 rfl (I.mono x)) (lv (rv_lss rfl rfl) (nq (wcc b4 rfl (fun b5 aq => ?_) (fun b5 aq => ?_)))))))))
    ·refine wc_skip (qs (wc_block (wc_seq ?_)))
     obtain ⟨b6, b7, b8⟩ := ob aq
     refine wc_cutg (IV w K [] aJ [(1, pt f), (4, .int .i64 y), (5, pt J), (6, .int .i64 ab), (88, .bool b6)] [obj f [.slice A a b, .slice B c d] 26, obj J [.slice D G H, sv C.To] 96]) ?_ ?_
     ·refine wc_quiet mixed (by kernel_rfl) ac (kv (rv_fieldAddr ff96_0 rfl) (kh (rq_loadm1 tf23 rfl m1 rfl) (km rfl ?_)))
      obtain ⟨b9, ca, cb⟩ := ob b7
      refine ki underlying23 tf9 (I.mono x) ca fun cc cd dV ce cf => ?_
      obtain ⟨rfl, cg⟩ := ce
      have ch : AtK _ cc cd [sv b9] := cf
      refine kh (rq_load1 tf9 rfl (ch 0 _ rfl)) ?_
      obtain ⟨dW, cj, ck⟩ := ob cb
      refine kc co85 (fun _ _ cl dX => (ok_spec_l1WordOk F) cl.enter0 cg cj) (kv (rv_not rfl) (km rfl (bt ck (fun k ar => ?_) (fun k ar => ?_))))
      ·iterate 12 refine kn k ?_
       refine kv (rv_pick_t (v := .bool true) rfl k rfl) (km rfl ?_)
       iterate 8 refine qv rfl rfl rfl rfl ?_
       refine kv (rv_pick_t (v := .bool true) rfl rfl rfl) (wq_nil ?_)
       rintro dY ⟨cm, cn, cp⟩
       cases oi ar
       exact qd ⟨cm, rfl, cn, cp⟩
      refine kg k (rv_fieldAddr ff96_0 rfl) (kgh k (rq_loadm1 tf23 rfl m1 rfl) (kg k (rv_move rfl) ?_))
      obtain ⟨cq, cr, ct⟩ := ob ar
      refine wq_indexAddr (t := tStr) (wg rfl rfl k) rfl underlying23 tf9 rfl rfl (I.mono x) cr fun cu cv dZ cw cx => ?_
      obtain ⟨rfl, aK⟩ := cw
      have cy : AtK _ cu cv [sv cq] := cx
      refine kgh k (rq_load1 tf9 rfl (cy 0 _ rfl)) ?_
      obtain ⟨d0, aL, cz⟩ := ob ct
      refine kdg k co105 (fun _ _ cA d1 => (ok_spec_l2Stem F) cA.enter0 aK aL) ?_
      obtain ⟨_, _, _, ⟨_, _, _, d2⟩, _⟩ := (ok_spec_l2Stem F) ac.enter0 aK aL []
      refine kg k (rv_fieldAddr ff96_0 rfl) (kgh k (rq_loadm1 tf23 rfl m1 rfl) (kg k (rv_move rfl) ?_))
      obtain ⟨cB, cC, cD⟩ := ob cz
      refine wq_indexAddr (t := tStr) (wg rfl rfl k) rfl underlying23 tf9 rfl rfl (I.mono x) cC fun cE cF d3 cG cH => ?_
      obtain ⟨rfl, d4⟩ := cG
      have cI : AtK _ cE cF [sv cB] := cH
      refine kgh k (rq_load1 tf9 rfl (cI 0 _ rfl)) (kg k (rv_sneq rfl rfl) (kv (rv_pick_f rfl k rfl) (km rfl (bt cD (fun m au => ?_) (fun m au => ?_)))))
      ·iterate 8 refine kn m ?_
       refine kv (rv_pick_t (v := .bool true) rfl m rfl) (wq_nil ?_)
       rintro d5 ⟨cJ, cK, cL⟩
       cases oi au
       exact qd ⟨cJ, rfl, cK, cL⟩
      refine kg m (rv_fieldAddr ff26_0 rfl) (kgh m (rq_loadm1 tf23 rfl m0 rfl) (kg m (rv_fieldAddr ff96_0 rfl) (kgh m (rq_loadm1 tf23 rfl m1 rfl) (kg m (rv_move rfl) ?_))))
      obtain ⟨cM, cN, cO⟩ := ob au
      refine wq_indexAddr (t := tStr) (wg rfl rfl m) rfl underlying23 tf9 rfl rfl (I.mono x) cN fun cP cQ d6 cR cS => ?_
      obtain ⟨rfl, cT⟩ := cR
      have cU : AtK _ cP cQ [sv cM] := cS
      refine kgh m (rq_load1 tf9 rfl (cU 0 _ rfl)) ?_
      obtain ⟨d7, cV, cW⟩ := ob cO
      refine kcg m co89 (fun _ _ cX cY => (ok_spec_l2Has F) cX.enter0 (SliceAt.mono (((S.trans V).trans x).trans cY) O) cT cV) (kv (rv_pick_f rfl m rfl) (wq_nil ?_))
      rintro d8 ⟨cZ, c0, c1⟩
      cases oi cW
      exact qd ⟨cZ, rfl, c0, c1⟩
     rintro _ d9 ⟨aM, rfl, aN, c2⟩
     refine qe_seq (wcc b8 rfl (fun c3 aw => ?_) (fun c3 aw => ?_))
     ·refine sr (lv (rv_assign (v := .bool false) rfl) (nq (wc_ret (qe_block_ret (qe_then_ret (qe_then_ret ?_))))))
      cases oi aw
      cases aI _ rfl
      refine qe_block_ret (qe_then_ret ?_)
      cases oi aH
      refine qe_then_ret (qe_block_ret (qe_then_ret (qe_then_ret ?_)))
      cases oi aa
      cases an _ rfl
      refine qe_block_ret (qe_then_ret ?_)
      cases oi am
      refine qe_then_ret ?_
      cases oi T
      exact ey results55 ⟨aM, rfl, aN.s⟩
     refine wc_skip (qe_block (qe_seq (wc_region (mv rfl (lv (rv_add rfl rfl) (av rfl (wl_nil ?_)))))))
     cases oi aw
     exact qd ⟨_, rfl, aM, rfl, aN, (x.trans c2), (w64_rng _)⟩
    refine wc_exit (qe_then_exit (qe_then_exit ?_))
    cases oi aq
    cases aI _ rfl
    refine qe_block_eq ?_
    cases oi aH
    exact qd ⟨_, aJ, rfl, rfl, ac, x⟩
   rintro _ ea ⟨eb, c4, rfl, rfl, aO, ax⟩
   have aa := elim_l aa
   refine qs ?_
   obtain ⟨c5, c6, c7⟩ := ob aa
   refine wc_cutg (IV w K [] c4 [(1, pt f), (4, .int .i64 y), (107, .bool c5)] [obj f [.slice A a b, .slice B c d] 26]) ?_ ?_
   ·refine wc_quiet mixed (by kernel_rfl) aO (kv (rv_fieldAddr ff96_0 rfl) (kh (rq_loadm1 tf23 rfl m1 rfl) (kv (rv_len (t := tStr) underlying23 rfl (I.mono ax)) ?_)))
    obtain ⟨ec, c8, c9⟩ := ob c6
    refine kc co87 (fun _ _ da ed => (ok_spec_l1In F) da.enter0 (I.mono ax).rn (by decide : rng64 1) (by decide : rng64 3) c8) (kv (rv_not rfl) (km rfl (bt c9 (fun o ay => ?_) (fun o ay => ?_))))
    ·refine kn o (kn o (kn o (kn o (kv (rv_pick_t (v := .bool true) rfl o rfl) (km rfl ?_)))))
     iterate 6 refine qv rfl rfl rfl rfl ?_
     refine kv (rv_pick_t (v := .bool true) rfl rfl rfl) (wq_nil ?_)
     rintro ee ⟨db, dc, dd⟩
     cases oi ay
     exact qd ⟨db, rfl, dc.s, dd⟩
    refine kg o (rv_fieldAddr ff96_1 rfl) (kgh o (rq_loadm1 tf9 rfl m1 rfl) ?_)
    obtain ⟨ef, de, df⟩ := ob ay
    refine kcg o co85 (fun _ _ dg eg => (ok_spec_l1WordOk F) dg.enter0 ap de) (kg o (rv_not rfl) (kv (rv_pick_f rfl o rfl) (km rfl (bt df (fun s az => ?_) (fun s az => ?_)))))
    ·iterate 6 refine kn s ?_
     refine kv (rv_pick_t (v := .bool true) rfl s rfl) (wq_nil ?_)
     rintro eh ⟨dh, di, dj⟩
     cases oi az
     exact qd ⟨dh, rfl, di.s, dj⟩
    refine kg s (rv_fieldAddr ff96_1 rfl) (kgh s (rq_loadm1 tf9 rfl m1 rfl) ?_)
    obtain ⟨ei, aP, dk⟩ := ob az
    refine kdg s co105 (fun _ _ dl ej => (ok_spec_l2Stem F) dl.enter0 ap aP) ?_
    obtain ⟨_, _, _, ⟨_, _, _, ek⟩, _⟩ := (ok_spec_l2Stem F) aO.enter0 ap aP []
    refine kg s (rv_fieldAddr ff96_1 rfl) (kgh s (rq_loadm1 tf9 rfl m1 rfl) (kg s (rv_sneq rfl rfl) (kv (rv_pick_f rfl s rfl) (wq_nil ?_))))
    rintro el ⟨dm, dn, dp⟩
    cases oi dk
    exact qd ⟨dm, rfl, dn.s, dp⟩
   rintro _ em ⟨aQ, rfl, aR, dq⟩
   refine qe_seq (wcc c7 rfl (fun dr aA => ?_) (fun dr aA => ?_))
   ·refine sr (lv (rv_assign (v := .bool false) rfl) (nq (wc_ret (qe_block_ret (qe_then_ret (qe_then_ret ?_))))))
    cases oi aA
    cases an _ rfl
    refine qe_block_ret (qe_then_ret ?_)
    cases oi am
    refine qe_then_ret ?_
    cases oi T
    exact ey results55 ⟨aQ, rfl, aR.s⟩
   refine wc_skip (qe_block (qe_seq (wc_region (mv rfl (lv (rv_add rfl rfl) (av rfl (wl_nil ?_)))))))
   cases oi aA
   exact qd ⟨_, rfl, aQ, rfl, aR, ((V.trans ax).trans dq), (w64_rng _)⟩
  refine wc_exit (qe_then_exit (qe_then_exit ?_))
  cases oi ao
  cases an _ rfl
  refine qe_block_eq ?_
  cases oi am
  exact qd ⟨_, Y, rfl, rfl, U, V⟩
 rintro _ en ⟨eo, aS, rfl, rfl, ad, aT⟩
 have T := elim_l T
 refine qr (fa ff26_0 rfl (lv (rv_loadm1 tf23 rfl m0 ad rfl) (lv (rv_len (t := tStr) underlying23 rfl (O.mono (S.trans aT))) (lv (rv_leq rfl rfl) (mv rfl (bt T (fun q aB => ?_) (fun q aB => ?_)))))))
 ·refine lg q (rv_fieldAddr ff26_1 rfl) (lg q (rv_loadm1 tf24 rfl m0 ad rfl) (lg q (rv_len (t := tGSyn) underlying24 rfl (ae.mono (S.trans aT))) (lg q (rv_leq rfl rfl) (lv (rv_pick_t rfl q rfl) (av rfl (nq (wc_ret ?_)))))))
  cases oi aB
  exact ey results55 ⟨aS, rfl, ad.s⟩
 refine lu q (lu q (lu q (lu q (lv (rv_pick_f (v := .bool false) rfl q rfl) (av rfl (nq (wc_ret ?_)))))))
 cases oi aB
 exact ey results55 ⟨aS, rfl, ad.s⟩

set_option maxHeartbeats 2000000 in
theorem ok_spec_l18CopyConf {p0_c : GConf} {r : GConf} (hS : SH w K [] w K []) (aE : SliceAt tStr K A a b p0_c.Stops) (am : SliceAt tGSyn K B c d p0_c.Syns) (hm : M.spec_l18CopyConf F p0_c = some r) :
  Calls prog 56 #[.agg #[.slice A a b, .slice B c d]] w fun e w' => ∃ a_1 n_2 c_3 a_5 n_6 c_7 K', e = .returned (.agg #[.slice a_1 n_2 c_3, .slice a_5 n_6 c_7]) ∧ SH w K [] w' K' [tail (.slice a_1 n_2 c_3) 9 1, tail (.slice a_5 n_6 c_7) 96 2] ∧ SliceAt tStr K' a_1 n_2 c_3 r.Stops ∧ SliceAt tGSyn K' a_5 n_6 c_7 r.Syns := by
 rw [M.spec_l18CopyConf] at hm
 refine ci func56 rfl ntmps56 (sr (bx rfl hS fun W bC aF => ?_))
 have aG : SH _ _ _ _ _ [obj W [.slice A a b, .slice B c d] 26] := aF
 refine al tf26 aG fun S bD aH => ?_
 have aI : SH _ _ _ _ _ [obj S [.slice none 0 0, .slice none 0 0] 26, _] := aH
 refine nr (b0 tStr underlying23 tf9 aI fun bE bF bG X aJ ay => (fa ff26_0 rfl (lv (rv_loadm1 tf23 rfl m2 ay rfl) ?_)))
 obtain ⟨bH, aK, aL⟩ := ob hm
 refine lp underlying23 tf9 aJ (aE.mono X) aK ay fun Y aa ab bI an ao aM aN => (lv (rv_build (cs := #[.slice Y aa ab, .slice none 0 0]) sp26 tf26 rfl (by kernel_rfl)) (al tf26 aN fun G bJ aO => ?_))
 have aP : SH _ _ _ _ _ [obj G [.slice none 0 0, .slice none 0 0] 26, _, _, _] := aO
 refine ls [.slice Y aa ab, .slice none 0 0] (.agg #[.slice Y aa ab, .slice none 0 0]) tf26 aP fun bK aQ => (nsr (lv (rv_assign (v := .int .i64 0) rfl) (nq ?_)))
 obtain ⟨az, aR, aS⟩ := ob aL
 refine wc_cutg (fun E' w' => ∃ i k l m o q H, E' = [(2, pt S), (3, pt G)] ∧ SH w K [] w' H [obj S [.slice none 0 0, .slice none 0 0] 26, obj G [.slice i k l, .slice m o q] 26, tail (.slice i k l) 9 1, tail (.slice m o q) 96 2] ∧ KLe an H ∧ SliceAt tStr H i k l az.Stops ∧ SliceAt tGSyn H m o q az.Syns) ?_ ?_
 ·refine wc_block ?_
  obtain ⟨bL, aT, aU⟩ := ob aR
  have aV := aQ.nil 96 2
  refine qw (fun (T : Int × GConf) E' w' => ∃ s x y I J O C, E' = [(1, pt W), (2, pt S), (3, pt G), (4, .int .i64 T.1)] ∧ SH w K [] w' C [obj W [.slice A a b, .slice B c d] 26, obj S [.slice none 0 0, .slice none 0 0] 26, obj G [.slice s x y, .slice I J O] 26, tail (.slice s x y) 9 1, tail (.slice I J O) 96 2] ∧ KLe an C ∧ rng64 T.1 ∧ SliceAt tStr C s x y T.2.Stops ∧ SliceAt tGSyn C I J O T.2.Syns) aT ⟨Y, aa, ab, none, 0, 0, an, rfl, aV.f2.f2.f3.f4, kr, (by decide : rng64 0), aM, (SliceAt.nil _ _)⟩ ?_
  rintro T _ bM bN aW aX ⟨s, x, y, I, J, O, C, rfl, ap, U, bO, aA, aB⟩
  refine wc_seq (sr (mv rfl (fa ff26_1 rfl (lv (rv_loadm1 tf24 rfl m0 ap rfl) (lv (rv_len (t := tGSyn) underlying24 rfl (am.mono ((X.trans ao).trans U))) (lv (rv_lss rfl rfl) (nq (wcc aW rfl (fun aY aq => ?_) (fun aY aq => ?_)))))))))
  ·refine wc_skip (qs (wc_block ?_))
   have ac := ap.drew
   refine wj0 (fun w' => Holds C w' ∧ HasObj W [.slice A a b, .slice B c d] w') (fun w' => HasObj G [.slice s x y, .slice I J O] w') 20 [(1, 18), (1, 19), (1, 20), (18, 19), (18, 20), (19, 20)] mixed ⟨ac.hasK kr, ac.hasObj m0⟩ (fun _ => ac.hasObj (.tail _ (.tail _ (.head _)))) (jv 0 rfl (rv_fieldAddr ff26_1 rfl) (jf 1 rfl (fun _ h => rh_loadm1 tf24 rfl rfl h) (jv 3 rfl (rv_fieldAddr ff26_1 rfl) (jh 4 rfl (fun _ h => rh_loadm1 tf24 rfl rfl h.2) (jv 5 rfl (rv_move rfl) ?_)))))
   obtain ⟨aZ, a0, a1⟩ := ob aq
   refine ji 6 rfl underlying24 tf96 (am.mono ((X.trans ao).trans U)) a0 fun a2 a3 bP a4 a5 => ?_
   obtain ⟨a6, a7, a8, rfl, a9, bQ⟩ := a4
   have ba : AtK _ a2 a3 [.slice a6 a7 a8, sv aZ.To] := a5
   refine jv 7 rfl (rv_fieldAddr ff96_0 rfl) (jh 8 rfl (fun _ h => rh_load1 tf23 rfl (ba 0 _ rfl) h.1) (jv 10 rfl (rv_fieldAddr ff26_1 rfl) (jh 11 rfl (fun _ h => rh_loadm1 tf24 rfl rfl h.2) (jv 12 rfl (rv_move rfl) ?_))))
   obtain ⟨V, bb, bc⟩ := ob a1
   refine ji 13 rfl underlying24 tf96 (am.mono ((X.trans ao).trans U)) bb fun bd be bR bf bg => ?_
   obtain ⟨bh, bi, bj, rfl, bS, bk⟩ := bf
   have bl : AtK _ bd be [.slice bh bi bj, sv V.To] := bg
   refine jv 14 rfl (rv_fieldAddr ff96_1 rfl) (jh 15 rfl (fun _ h => rh_load1 tf9 rfl (bl 1 _ rfl) h.1) (j1 2 rfl (b0 tStr underlying23 tf9 ac fun bT bU bV f bm ad => (jn ⟨ad.hasK f, ad.hasObj m1⟩ (fun _ => ad.hasObj (.tail _ (.tail _ (.tail _ (.head _))))) (j1 9 rfl ?_)))))
   obtain ⟨bn, bo, bp⟩ := ob bc
   refine lp underlying23 tf9 bm (a9.mono f) bo ad fun ae af ag bW bX D bq ah => (jn ⟨ah.hasK (f.trans D), ah.hasObj m1⟩ (fun _ => ah.hasObj (.tail _ (.tail _ (.tail _ (.head _))))) (jv 16 rfl (rv_build (cs := #[.slice ae af ag, sv V.To]) sp96 tf96 rfl (by kernel_rfl)) (j1 17 rfl (lb tGSyn (.agg #[.slice ae af ag, sv V.To]) [.slice ae af ag, sv V.To] (GSyn.mk bn V.To) underlying24 tf96 ⟨ae, af, ag, rfl, bq, bk⟩ ah fun bY bZ b1 R br ai => (jn ⟨ai.hasK ((f.trans D).trans R), ai.hasObj m2⟩ (fun _ => ai.hasObj (.tail _ (.tail _ (.tail _ (.tail _ (.head _)))))) (j1 18 rfl ?_))))))
   obtain ⟨b2, bs, bu⟩ := ob bp
   refine lp underlying24 tf96 (aB.mono ((f.trans D).trans R)) br bs ai.f6 fun ar au aw b3 bv aj bz ak => (jn ⟨ak.hasK (((f.trans D).trans R).trans aj), ak.hasObj m3⟩ (fun _ => ak.hasObj (.tail _ (.tail _ (.tail _ (.tail _ (.tail _ (.head _))))))) (jv 19 rfl (rv_fieldAddr ff26_1 rfl) (j1 20 rfl (ls [.slice s x y, .slice ar au aw] (.slice ar au aw) tf24 ak.f5 fun b4 ax => (jn ⟨ax.hasK (((f.trans D).trans R).trans aj), ax.hasObj m4⟩ (fun h => nomatch h) (jd (qe_block (qe_seq (wc_region ?_)))))))))
   refine mv rfl (lv (rv_add rfl rfl) (av rfl (wl_nil ?_)))
   cases oi bu
   exact qd ⟨_, rfl, s, x, y, ar, au, aw, bv, rfl, ax.f1.f6.f2.f6.f6.s, ((((U.trans f).trans D).trans R).trans aj), (w64_rng _), (SliceAt.mono (((f.trans D).trans R).trans aj) aA), bz⟩
  refine wc_exit (qe_then_exit (qe_then_exit ?_))
  cases oi aq
  cases aX _ rfl
  refine qe_block_eq ?_
  cases oi aU
  exact qd ⟨s, x, y, I, J, O, C, rfl, ap.s, U, aA, aB⟩
 rintro _ b5 ⟨i, k, l, m, o, q, H, rfl, aC, b6, bA, bB⟩
 refine qr (lv (rv_loadmS (ds := [.slice i k l, .slice m o q]) tf26 rfl m1 aC rfl rfl) (ls [.slice i k l, .slice m o q] (.agg #[.slice i k l, .slice m o q]) tf26 aC fun b7 aD => (nq (wc_ret ?_))))
 cases oi aS
 exact ez results56 tf26 aD m0 ⟨i, k, l, m, o, q, H, rfl, aD.s, bA, bB⟩

theorem ok_spec_IndexNew {p0_c : GConf} {r : GIndex} (hS : SH w K [] w K []) (y : SliceAt tStr K A a b p0_c.Stops) (C : SliceAt tGSyn K B c d p0_c.Syns) (hm : M.spec_IndexNew F p0_c = some r) :
  Calls prog 18 #[.agg #[.slice A a b, .slice B c d]] w fun e w' => ∃ a_1 n_2 c_3 a_5 n_6 c_7 a_9 n_10 c_11 K', e = .returned (.agg #[.slice a_1 n_2 c_3, .slice a_5 n_6 c_7, .slice a_9 n_10 c_11]) ∧ SH w K [] w' K' [tail (.slice a_9 n_10 c_11) 93 3] ∧ SliceAt tStr K' a_1 n_2 c_3 r.Conf.Stops ∧ SliceAt tGSyn K' a_5 n_6 c_7 r.Conf.Syns ∧ SliceAt tGLive K' a_9 n_10 c_11 r.Segs := by
 rw [M.spec_IndexNew] at hm
 refine ci func18 rfl ntmps18 (sr (bx rfl hS fun H ag I => ?_))
 have J : SH _ _ _ _ _ [obj H [.slice A a b, .slice B c d] 26] := I
 refine al tf30 J fun O ah R => ?_
 have s : SH _ _ _ _ _ [obj O [.slice none 0 0, .slice none 0 0, .slice none 0 0] 30, _] := R
 refine nsr (lv (rv_loadmS (ds := [.slice A a b, .slice B c d]) tf26 rfl m1 s rfl rfl) ?_)
 obtain ⟨ai, S, T⟩ := ob hm
 refine lk co55 ((ok_spec_l2Ok F) s.enter0 y C S) ?_
 rintro aj ak ⟨U, rfl, v⟩
 have f := (s.c0 v).t2
 refine lv (rv_not rfl) (nq (wcc T rfl (fun V x => ?_) (fun V x => ?_)))
 ·refine sr (lv (rv_build (cs := #[.slice none 0 0, .slice none 0 0, .slice none 0 0]) sp30 tf30 rfl (by kernel_rfl)) (ls [.slice none 0 0, .slice none 0 0, .slice none 0 0] (.agg #[.slice none 0 0, .slice none 0 0, .slice none 0 0]) tf30 f fun am D => (nq (rr ?_))))
  cases oi x
  have W := D.nil 93 3
  exact ez results18 tf30 D m0 ⟨none, 0, 0, none, 0, 0, none, 0, 0, U, rfl, W.s, (SliceAt.nil _ _), (SliceAt.nil _ _), (SliceAt.nil _ _)⟩
 refine wc_skip (qr (lv (rv_loadmS (ds := [.slice A a b, .slice B c d]) tf26 rfl m1 f rfl rfl) ?_))
 obtain ⟨an, X, Y⟩ := ob x
 refine lk co56 ((ok_spec_l18CopyConf F) f.enter0 (y.mono v.le) (C.mono v.le) X) ?_
 rintro ao ap ⟨i, k, l, m, o, q, aa, rfl, ab, ac, ad⟩
 have ae := (f.c0 ab).t4
 refine lv (rv_build (cs := #[.slice i k l, .slice m o q, .slice none 0 0]) sp30 tf30 rfl (by kernel_rfl)) (ls [.slice i k l, .slice m o q, .slice none 0 0] (.agg #[.slice i k l, .slice m o q, .slice none 0 0]) tf30 ae.f2 fun aq G => (nq (wc_ret ?_)))
 cases oi Y
 have af := G.nil 93 3
 exact ez results18 tf30 G m0 ⟨i, k, l, m, o, q, none, 0, 0, aa, rfl, af.s, ac, ad, (SliceAt.nil _ _)⟩

theorem ok_impl_TextOk {p0_s : Str} {r : Bool} (hS : SH w K [] w K []) (y : p0_s.length ≤ maxLen) (hm : M.impl_TextOk F p0_s = some r) :
  Calls prog 124 #[sv p0_s] w fun e w' => ∃ K', e = .returned (.bool r) ∧ SH w K [] w' K' [] := by
 rw [M.impl_TextOk] at hm
 refine ci func124 rfl ntmps124 (sr (lv (rv_assign (v := .bool false) rfl) (nsr (mv rfl (lv (rv_slen underlying9 rfl) (lv (rv_move (v := .int .i64 0) rfl) (nq ?_)))))))
 obtain ⟨A, B, d⟩ := ob hm
 refine wc_cutg (IE A w K [] K [(0, sv p0_s)] []) ?_ ?_
 ·refine wc_block ?_
  obtain ⟨ab, C, o⟩ := ob B
  refine qf (fun (i : Nat) (q : Unit) => IV w K [] K [(0, sv p0_s), (5, .int .i64 (p0_s.length : Int)), (6, .int .i64 ((i : Nat) : Int))] []) C ⟨K, rfl, hS, kr⟩ ?_ ?_
  ·rintro i q _ D ac hi20 G H ⟨c, rfl, f, k⟩
   refine sr (lv (rv_lss rfl rfl) (ns (wc_cond_t rfl (decide_eq_true (by omega)) (wc_skip (qe_seq (wc_seq (wc_block (sr (mv rfl (av rfl (ns ?_)))))))))))
   obtain ⟨I, J, O⟩ := ob G
   refine wc_cutg (IV w K [] c [(0, sv p0_s), (5, .int .i64 (p0_s.length : Int)), (6, .int .i64 ((i : Nat) : Int)), (18, .bool I)] []) ?_ ?_
   ·refine wc_region (mv rfl (mv rfl ?_))
    obtain ⟨ad, R, S⟩ := ob J
    refine lv (rv_sidx underlying9 rfl rfl R) (lv (rv_bl (b := (32 : UInt8)) rfl rfl) (mv rfl (bt S (fun a l => ?_) (fun a l => ?_))))
    ·refine lu a (lu a (lu a (lu a (lv (rv_pick_t (v := .bool true) rfl a rfl) (wl_nil ?_)))))
     cases oi l
     exact qd ⟨c, rfl, f, kr⟩
    refine lg a (rv_move rfl) (lg a (rv_move rfl) ?_)
    obtain ⟨ae, T, U⟩ := ob l
    refine lg a (rv_sidx underlying9 rfl rfl T) (lg a (rv_bg (b := (126 : UInt8)) rfl rfl) (lv (rv_pick_f rfl a rfl) (wl_nil ?_)))
    cases oi U
    exact qd ⟨c, rfl, f, kr⟩
   rintro _ af ⟨s, rfl, x, V⟩
   refine qe_seq (wcc O rfl (fun W m => ?_) (fun W m => ?_))
   ·refine sr (lv (rv_assign (v := .bool false) rfl) (nq (wc_ret (qe_block_ret (qe_then_ret (qe_then_ret ?_))))))
    cases oi m
    cases H _ rfl
    refine qe_block_ret (qe_then_ret ?_)
    cases oi o
    refine qe_then_ret ?_
    cases oi d
    exact ey results124 ⟨s, rfl, x⟩
   refine wc_skip (qe_block (qg (lv (rv_add_to rfl rfl (w64_succ hi20 y)) (mv rfl (wl_nil ?_)))))
   cases oi m
   exact qd ⟨_, rfl, s, rfl, x, (k.trans V)⟩
  rintro q _ D X ⟨c, rfl, f, k⟩
  subst X
  refine sr (lv (rv_lss rfl rfl) (ns (wc_cond_f rfl (decide_eq_false (by omega)) (wc_exit (qe_then_exit (qe_then_exit (qe_block_eq ?_)))))))
  cases oi o
  exact qd ⟨_, c, rfl, rfl, f, k⟩
 rintro _ w8 ⟨s5, Y, rfl, rfl, aa, ai⟩
 have d := elim_l d
 refine qr (mv rfl (lv (rv_slen underlying9 rfl) (lv (rv_leq rfl rfl) (av rfl (nq (wc_ret ?_))))))
 cases oi d
 exact ey results124 ⟨Y, rfl, aa⟩

set_option maxHeartbeats 2000000 in
theorem ok_impl_DocOk {p0_d : GDoc} {r : Bool} (hS : SH w K [] w K []) (aH : rng64 p0_d.Id) (H : SliceAt tGField K A a b p0_d.Fields) (I : SliceAt tGAttr K B c d p0_d.Nums) (hm : M.impl_DocOk F p0_d = some r) :
  Calls prog 111 #[.agg #[.int .i64 p0_d.Id, .slice A a b, .slice B c d]] w fun e w' => ∃ K', e = .returned (.bool r) ∧ SH w K [] w' K' [] := by
 rw [M.impl_DocOk] at hm
 refine ci func111 rfl ntmps111 (sr (bx rfl hS fun k cA aI => ?_))
 have Y : SH _ _ _ _ _ [obj k [.int .i64 p0_d.Id, .slice A a b, .slice B c d] 54] := aI
 refine lv (rv_assign (v := .bool false) rfl) (ns (wc_seq ?_))
 obtain ⟨aJ, aK, aL⟩ := ob hm
 refine wc_cutg (IV w K [] K [(1, pt k), (22, .bool aJ)] [obj k [.int .i64 p0_d.Id, .slice A a b, .slice B c d] 54]) ?_ ?_
 ·refine wc_region (fa ff54_0 rfl (lv (rv_loadm1 tf3 rfl m0 Y rfl) ?_))
  obtain ⟨cB, aM, aN⟩ := ob aK
  refine lk co58 ((ok_impl_within F) Y.enter0 aH (by decide : rng64 1) (by decide : rng64 9999) aM) ?_
  rintro cC cD ⟨aa, rfl, G⟩
  have J := (Y.c0 G).t1
  refine lv (rv_not rfl) (mv rfl (bt aN (fun o ab => ?_) (fun o ab => ?_)))
  ·refine lu o (lu o (lu o (lu o (lv (rv_pick_t (v := .bool true) rfl o rfl) (mv rfl (lu rfl (lu rfl (lu rfl (lu rfl ?_)))))))))
   refine lv (rv_pick_t (v := .bool true) rfl rfl rfl) (wl_nil ?_)
   cases oi ab
   exact qd ⟨aa, rfl, J, G.le⟩
  refine lg o (rv_fieldAddr ff54_1 rfl) (lg o (rv_loadm1 tf51 rfl m0 J rfl) (lg o (rv_len (t := tGField) underlying51 rfl (H.mono G.le)) (lg o (rv_gtr rfl rfl) (lv (rv_pick_f rfl o rfl) (mv rfl (bt ab (fun q ac => ?_) (fun q ac => ?_)))))))
  ·refine lu q (lu q (lu q (lu q (lv (rv_pick_t (v := .bool true) rfl q rfl) (wl_nil ?_)))))
   cases oi ac
   exact qd ⟨aa, rfl, J, G.le⟩
  refine lg q (rv_fieldAddr ff54_2 rfl) (lg q (rv_loadm1 tf52 rfl m0 J rfl) (lg q (rv_len (t := tGAttr) underlying52 rfl (I.mono G.le)) (lg q (rv_gtr rfl rfl) (lv (rv_pick_f rfl q rfl) (wl_nil ?_)))))
  cases oi ac
  exact qd ⟨aa, rfl, J, G.le⟩
 rintro _ cE ⟨S, rfl, ad, y⟩
 refine qe_seq (wcc aL rfl (fun aO ae => ?_) (fun aO ae => ?_))
 ·refine sr (lv (rv_assign (v := .bool false) rfl) (nq (rr ?_)))
  cases oi ae
  exact ey results111 ⟨S, rfl, ad.s⟩
 refine wc_skip (qs (sr (fa ff54_1 rfl (lv (rv_loadm1 tf51 rfl m0 ad rfl) (lv (rv_len (t := tGField) underlying51 rfl (H.mono y)) (lv (rv_move (v := .int .i64 0) rfl) (nq ?_)))))))
 obtain ⟨aP, aQ, T⟩ := ob ae
 refine wc_cutg (IE aP w K [] S [(1, pt k)] [obj k [.int .i64 p0_d.Id, .slice A a b, .slice B c d] 54]) ?_ ?_
 ·refine wc_block ?_
  obtain ⟨cF, aR, aw⟩ := ob aQ
  refine qf (fun (af : Nat) (ax : Unit) => IV w K [] S [(1, pt k), (24, .slice A a b), (25, .int .i64 (p0_d.Fields.length : Int)), (26, .int .i64 ((af : Nat) : Int))] [obj k [.int .i64 p0_d.Id, .slice A a b, .slice B c d] 54]) aR ⟨S, rfl, ad, kr⟩ ?_ ?_
  ·rintro af ax _ aS cG hi54 aT aU ⟨ag, rfl, U, O⟩
   refine sr (lv (rv_lss rfl rfl) (ns (wc_cond_t rfl (decide_eq_true (by omega)) (wc_skip (qe_seq (wc_seq (wc_block (sr (mv rfl ?_)))))))))
   obtain ⟨C, aV, aW⟩ := ob aT
   refine li underlying51 tf158 (H.mono (y.trans O)) aV fun aX aY cH aZ a0 => ?_
   obtain ⟨rfl, a1, a2⟩ := aZ
   have a3 : AtK _ aX aY [sv C.Name, sv C.Text] := a0
   refine lv (rv_loadS (cs := [sv C.Name, sv C.Text]) tf158 rfl U a3 rfl) (al tf158 U fun a4 cI a5 => ?_)
   have a6 : SH _ _ _ _ _ [obj a4 [sv [], sv []] 158, _] := a5
   refine av rfl (ls [sv C.Name, sv C.Text] (.agg #[sv C.Name, sv C.Text]) tf158 a6 fun cJ a7 => (ns ?_))
   obtain ⟨a8, a9, ba⟩ := ob aW
   refine wc_cutg (IV w K [] ag [(1, pt k), (24, .slice A a b), (25, .int .i64 (p0_d.Fields.length : Int)), (26, .int .i64 ((af : Nat) : Int)), (56, .bool a8)] [obj k [.int .i64 p0_d.Id, .slice A a b, .slice B c d] 54]) ?_ ?_
   ·refine wc_quiet mixed (by kernel_rfl) a7 (kv (rv_fieldAddr ff158_0 rfl) (kh (rq_loadm1 tf9 rfl m0 rfl) ?_))
    obtain ⟨cK, bb, bc⟩ := ob a9
    refine kc co59 (fun _ _ bd cL => (ok_impl_WordOk F) bd.enter0 a1 bb) (kv (rv_not rfl) (km rfl (bt bc (fun s ah => ?_) (fun s ah => ?_))))
    ·refine kn s (kn s (kn s (kn s (kv (rv_pick_t (v := .bool true) rfl s rfl) (km rfl (qv rfl rfl rfl rfl (qv rfl rfl rfl rfl (qv rfl rfl rfl rfl ?_))))))))
     iterate 10 refine ku ?_
     refine qv rfl rfl rfl rfl (kv (rv_pick_t (v := .bool true) rfl rfl rfl) (wq_nil ?_))
     rintro cM ⟨be, bf, bg⟩
     cases oi ah
     exact qd ⟨be, rfl, bf.s, bg⟩
    refine kg s (rv_fieldAddr ff158_1 rfl) (kgh s (rq_loadm1 tf9 rfl m0 rfl) ?_)
    obtain ⟨cN, bh, bi⟩ := ob ah
    refine kcg s co124 (fun _ _ bj cO => (ok_impl_TextOk F) bj.enter0 a2 bh) (kg s (rv_not rfl) (kv (rv_pick_f rfl s rfl) (km rfl (bt bi (fun l ai => ?_) (fun l ai => ?_)))))
    ·refine kn l (kn l (kn l ?_))
     iterate 10 refine ku ?_
     refine kn l (kv (rv_pick_t (v := .bool true) rfl l rfl) (wq_nil ?_))
     rintro cP ⟨bk, bl, bm⟩
     cases oi ai
     exact qd ⟨bk, rfl, bl.s, bm⟩
    refine kg l (rv_move rfl) (kg l (rv_gtr rfl rfl) (kg l (rv_move rfl) (bt ai (fun f aj => ?_) (fun f aj => ?_))))
    ·refine kg f (rv_fieldAddr ff54_1 rfl) (kgh f (rq_loadm1 tf51 rfl m1 rfl) (kg f (rv_move rfl) (kg f (rv_sub rfl rfl) ?_)))
     obtain ⟨ay, bn, bo⟩ := ob aj
     refine wq_indexAddr (t := tGField) (wg rfl rfl f) rfl underlying51 tf158 rfl rfl (H.mono (y.trans O)) bn fun bp bq cQ br bs => ?_
     obtain ⟨rfl, cR, cS⟩ := br
     have bu : AtK _ bp bq [sv ay.Name, sv ay.Text] := bs
     refine kg f (rv_fieldAddr ff158_0 rfl) (kgh f (rq_load1 tf9 rfl (bu 0 _ rfl)) (kg f (rv_fieldAddr ff158_0 rfl) (kgh f (rq_loadm1 tf9 rfl m0 rfl) (kg f (rv_sgeq rfl rfl) (kg l (rv_pick_t rfl f rfl) (kv (rv_pick_f rfl l rfl) (wq_nil ?_)))))))
     rintro cT ⟨bv, bz, bA⟩
     cases oi bo
     exact qd ⟨bv, rfl, bz.s, bA⟩
    iterate 10 refine kn f ?_
    refine kg l (rv_pick_f (v := .bool false) rfl f rfl) (kv (rv_pick_f rfl l rfl) (wq_nil ?_))
    rintro cU ⟨bB, bC, bD⟩
    cases oi aj
    exact qd ⟨bB, rfl, bC.s, bD⟩
   rintro _ cV ⟨az, rfl, aA, bE⟩
   refine qe_seq (wcc ba rfl (fun bF ak => ?_) (fun bF ak => ?_))
   ·refine sr (lv (rv_assign (v := .bool false) rfl) (nq (wc_ret (qe_block_ret (qe_then_ret (qe_then_ret ?_))))))
    cases oi ak
    cases aU _ rfl
    refine qe_block_ret (qe_then_ret ?_)
    cases oi aw
    refine qe_then_ret ?_
    cases oi T
    exact ey results111 ⟨az, rfl, aA.s⟩
   refine wc_skip (qe_block (qg (lv (rv_add_to rfl rfl (w64_succ hi54 (SliceAt.max (H.mono y)))) (mv rfl (wl_nil ?_)))))
   cases oi ak
   exact qd ⟨_, rfl, az, rfl, aA, (O.trans bE)⟩
  rintro ax _ aS bG ⟨ag, rfl, U, O⟩
  subst bG
  refine sr (lv (rv_lss rfl rfl) (ns (wc_cond_f rfl (decide_eq_false (by omega)) (wc_exit (qe_then_exit (qe_then_exit (qe_block_eq ?_)))))))
  cases oi aw
  exact qd ⟨_, ag, rfl, rfl, U, O⟩
 rintro _ cW ⟨cX, am, rfl, rfl, aB, V⟩
 have T := elim_l T
 refine qs (sr (fa ff54_2 rfl (lv (rv_loadm1 tf52 rfl m0 aB rfl) (lv (rv_len (t := tGAttr) underlying52 rfl (I.mono (y.trans V))) (lv (rv_move (v := .int .i64 0) rfl) (nq ?_))))))
 obtain ⟨bH, bI, W⟩ := ob T
 refine wc_cutg (IE bH w K [] am [] []) ?_ ?_
 ·refine wc_block ?_
  obtain ⟨cY, bJ, aC⟩ := ob bI
  refine qf (fun (an : Nat) (aD : Unit) => IV w K [] am [(1, pt k), (59, .slice B c d), (60, .int .i64 (p0_d.Nums.length : Int)), (61, .int .i64 ((an : Nat) : Int))] [obj k [.int .i64 p0_d.Id, .slice A a b, .slice B c d] 54]) bJ ⟨am, rfl, aB, kr⟩ ?_ ?_
  ·rintro an aD _ bK cZ hi156 bL bM ⟨ao, rfl, X, R⟩
   refine sr (lv (rv_lss rfl rfl) (ns (wc_cond_t rfl (decide_eq_true (by omega)) (wc_skip (qe_seq (wc_seq (wc_block (sr (mv rfl ?_)))))))))
   obtain ⟨D, bN, bO⟩ := ob bL
   refine li underlying52 tf197 (I.mono ((y.trans V).trans R)) bN fun bP bQ c0 bR bS => ?_
   obtain ⟨rfl, bT, bU⟩ := bR
   have bV : AtK _ bP bQ [sv D.Name, .int .i64 D.Num] := bS
   refine lv (rv_loadS (cs := [sv D.Name, .int .i64 D.Num]) tf197 rfl X bV rfl) (al tf197 X fun bW c1 bX => ?_)
   have bY : SH _ _ _ _ _ [obj bW [sv [], .int .i64 0] 197, _] := bX
   refine av rfl (ls [sv D.Name, .int .i64 D.Num] (.agg #[sv D.Name, .int .i64 D.Num]) tf197 bY fun c2 bZ => (ns ?_))
   obtain ⟨b0, b1, b2⟩ := ob bO
   refine wc_cutg (IV w K [] ao [(1, pt k), (59, .slice B c d), (60, .int .i64 (p0_d.Nums.length : Int)), (61, .int .i64 ((an : Nat) : Int)), (91, .bool b0)] [obj k [.int .i64 p0_d.Id, .slice A a b, .slice B c d] 54]) ?_ ?_
   ·refine wc_quiet mixed (by kernel_rfl) bZ (kv (rv_fieldAddr ff197_0 rfl) (kh (rq_loadm1 tf9 rfl m0 rfl) ?_))
    obtain ⟨c3, b3, b4⟩ := ob b1
    refine kc co59 (fun _ _ b5 c4 => (ok_impl_WordOk F) b5.enter0 bT b3) (kv (rv_not rfl) (km rfl (bt b4 (fun x ap => ?_) (fun x ap => ?_))))
    ·refine kn x (kn x (kn x (kn x (kv (rv_pick_t (v := .bool true) rfl x rfl) (km rfl (qv rfl rfl rfl rfl (qv rfl rfl rfl rfl (qv rfl rfl rfl rfl ?_))))))))
     iterate 10 refine ku ?_
     refine qv rfl rfl rfl rfl (kv (rv_pick_t (v := .bool true) rfl rfl rfl) (wq_nil ?_))
     rintro c5 ⟨b6, b7, b8⟩
     cases oi ap
     exact qd ⟨b6, rfl, b7.s, b8⟩
    refine kg x (rv_fieldAddr ff197_1 rfl) (kgh x (rq_loadm1 tf3 rfl m0 rfl) ?_)
    obtain ⟨c6, b9, ca⟩ := ob ap
    refine kcg x co58 (fun _ _ cb c7 => (ok_impl_within F) cb.enter0 bU (by decide : rng64 0) (by decide : rng64 999999999) b9) (kg x (rv_not rfl) (kv (rv_pick_f rfl x rfl) (km rfl (bt ca (fun m aq => ?_) (fun m aq => ?_)))))
    ·refine kn m (kn m (kn m ?_))
     iterate 10 refine ku ?_
     refine kn m (kv (rv_pick_t (v := .bool true) rfl m rfl) (wq_nil ?_))
     rintro c8 ⟨cc, cd, ce⟩
     cases oi aq
     exact qd ⟨cc, rfl, cd.s, ce⟩
    refine kg m (rv_move rfl) (kg m (rv_gtr rfl rfl) (kg m (rv_move rfl) (bt aq (fun i ar => ?_) (fun i ar => ?_))))
    ·refine kg i (rv_fieldAddr ff54_2 rfl) (kgh i (rq_loadm1 tf52 rfl m1 rfl) (kg i (rv_move rfl) (kg i (rv_sub rfl rfl) ?_)))
     obtain ⟨aE, cf, cg⟩ := ob ar
     refine wq_indexAddr (t := tGAttr) (wg rfl rfl i) rfl underlying52 tf197 rfl rfl (I.mono ((y.trans V).trans R)) cf fun ch cj c9 ck cl => ?_
     obtain ⟨rfl, da, db⟩ := ck
     have cm : AtK _ ch cj [sv aE.Name, .int .i64 aE.Num] := cl
     refine kg i (rv_fieldAddr ff197_0 rfl) (kgh i (rq_load1 tf9 rfl (cm 0 _ rfl)) (kg i (rv_fieldAddr ff197_0 rfl) (kgh i (rq_loadm1 tf9 rfl m0 rfl) (kg i (rv_sgeq rfl rfl) (kg m (rv_pick_t rfl i rfl) (kv (rv_pick_f rfl m rfl) (wq_nil ?_)))))))
     rintro dc ⟨cn, cp, cq⟩
     cases oi cg
     exact qd ⟨cn, rfl, cp.s, cq⟩
    iterate 10 refine kn i ?_
    refine kg m (rv_pick_f (v := .bool false) rfl i rfl) (kv (rv_pick_f rfl m rfl) (wq_nil ?_))
    rintro dd ⟨cr, ct, cu⟩
    cases oi ar
    exact qd ⟨cr, rfl, ct.s, cu⟩
   rintro _ de ⟨aF, rfl, aG, cv⟩
   refine qe_seq (wcc b2 rfl (fun cw au => ?_) (fun cw au => ?_))
   ·refine sr (lv (rv_assign (v := .bool false) rfl) (nq (wc_ret (qe_block_ret (qe_then_ret (qe_then_ret ?_))))))
    cases oi au
    cases bM _ rfl
    refine qe_block_ret (qe_then_ret ?_)
    cases oi aC
    refine qe_then_ret ?_
    cases oi W
    exact ey results111 ⟨aF, rfl, aG.s⟩
   refine wc_skip (qe_block (qg (lv (rv_add_to rfl rfl (w64_succ hi156 (SliceAt.max (I.mono (y.trans V))))) (mv rfl (wl_nil ?_)))))
   cases oi au
   exact qd ⟨_, rfl, aF, rfl, aG, (R.trans cv)⟩
  rintro aD _ bK cx ⟨ao, rfl, X, R⟩
  subst cx
  refine sr (lv (rv_lss rfl rfl) (ns (wc_cond_f rfl (decide_eq_false (by omega)) (wc_exit (qe_then_exit (qe_then_exit (qe_block_eq ?_)))))))
  cases oi aC
  exact qe_mid' ⟨_, ao, rfl, rfl, X.s, R⟩ trivial
 rintro _ df ⟨dg, cy, rfl, rfl, cz, dh⟩
 have W := elim_l W
 refine qr (lv (rv_assign (v := .bool true) rfl) (nq (wc_ret ?_)))
 cases oi W
 exact ey results111 ⟨cy, rfl, cz⟩

set_option maxHeartbeats 2000000 in
theorem ok_impl_DocsOk {p0_list : List GDoc} {r : Bool} (hS : SH w K [] w K []) (f : SliceAt tGDoc K A a b p0_list) (hm : M.impl_DocsOk F p0_list = some r) :
  Calls prog 63 #[.slice A a b] w fun e w' => ∃ K', e = .returned (.bool r) ∧ SH w K [] w' K' [] := by
 rw [M.impl_DocsOk] at hm
 refine ci func63 rfl ntmps63 (sr (lv (rv_assign (v := .bool false) rfl) (nsr (mv rfl (lv (rv_len (t := tGDoc) underlying35 rfl f) (lv (rv_move (v := .int .i64 0) rfl) (nq ?_)))))))
 obtain ⟨U, V, y⟩ := ob hm
 refine wc_cutg (IE U w K [] K [(0, .slice A a b)] []) ?_ ?_
 ·refine wc_block ?_
  obtain ⟨a2, W, J⟩ := ob V
  refine qf (fun (C : Nat) (O : Unit) => IV w K [] K [(0, .slice A a b), (5, .slice A a b), (6, .int .i64 (p0_list.length : Int)), (7, .int .i64 ((C : Nat) : Int))] []) W ⟨K, rfl, hS, kr⟩ ?_ ?_
  ·rintro C O _ X a3 hi23 Y aa ⟨D, rfl, B, i⟩
   refine sr (lv (rv_lss rfl rfl) (ns (wc_cond_t rfl (decide_eq_true (by omega)) (wc_skip (qe_seq (wc_seq (wc_block (sr (mv rfl ?_)))))))))
   obtain ⟨k, ab, ac⟩ := ob Y
   refine li underlying35 tf54 (f.mono i) ab fun ad ae a4 af ag => ?_
   obtain ⟨l, m, o, q, s, x, rfl, ah, ai, aj⟩ := af
   have ak : AtK _ ad ae [.int .i64 k.Id, .slice l m o, .slice q s x] := ag
   refine lv (rv_loadS (cs := [.int .i64 k.Id, .slice l m o, .slice q s x]) tf54 rfl B ak rfl) (al tf54 B fun am a5 an => ?_)
   have ao : SH _ _ _ _ _ [obj am [.int .i64 0, .slice none 0 0, .slice none 0 0] 54] := an
   refine av rfl (ls [.int .i64 k.Id, .slice l m o, .slice q s x] (.agg #[.int .i64 k.Id, .slice l m o, .slice q s x]) tf54 ao fun a6 ap => (ns ?_))
   obtain ⟨aq, ar, au⟩ := ob ac
   refine wc_cutg (IV w K [] D [(0, .slice A a b), (5, .slice A a b), (6, .int .i64 (p0_list.length : Int)), (7, .int .i64 ((C : Nat) : Int)), (29, .bool aq)] []) ?_ ?_
   ·refine wc_quiet mixed (by kernel_rfl) ap (kh (rq_loadmS (ds := [.int .i64 k.Id, .slice l m o, .slice q s x]) tf54 rfl m0 rfl rfl) ?_)
    obtain ⟨a7, aw, ax⟩ := ob ar
    refine kc co111 (fun _ _ ay R => (ok_impl_DocOk F) ay.enter0 ah (ai.mono R) (aj.mono R) aw) (kv (rv_not rfl) (km rfl (bt ax (fun c G => ?_) (fun c G => ?_))))
    ·refine kn c (kn c (kn c ?_))
     iterate 9 refine ku ?_
     refine kn c (kv (rv_pick_t (v := .bool true) rfl c rfl) (wq_nil ?_))
     rintro a8 ⟨az, aA, aB⟩
     cases oi G
     exact qd ⟨az, rfl, aA.s, aB⟩
    refine kg c (rv_move rfl) (kg c (rv_gtr rfl rfl) (kg c (rv_move rfl) (bt G (fun d H => ?_) (fun d H => ?_))))
    ·refine kg d (rv_move rfl) (kg d (rv_move rfl) (kg d (rv_sub rfl rfl) ?_))
     obtain ⟨aC, aD, aE⟩ := ob H
     refine wq_indexAddr (t := tGDoc) (wg rfl rfl d) rfl underlying35 tf54 rfl rfl (f.mono i) aD fun aF aG a9 aH aI => ?_
     obtain ⟨aJ, aK, aL, aM, aN, aO, rfl, ba, bb, bc⟩ := aH
     have aP : AtK _ aF aG [.int .i64 aC.Id, .slice aJ aK aL, .slice aM aN aO] := aI
     refine kg d (rv_fieldAddr ff54_0 rfl) (kgh d (rq_load1 tf3 rfl (aP 0 _ rfl)) (kg d (rv_fieldAddr ff54_0 rfl) (kgh d (rq_loadm1 tf3 rfl m0 rfl) (kg d (rv_geq rfl rfl) (kg c (rv_pick_t rfl d rfl) (kv (rv_pick_f rfl c rfl) (wq_nil ?_)))))))
     rintro bd ⟨aQ, aR, aS⟩
     cases oi aE
     exact qd ⟨aQ, rfl, aR.s, aS⟩
    iterate 9 refine kn d ?_
    refine kg c (rv_pick_f (v := .bool false) rfl d rfl) (kv (rv_pick_f rfl c rfl) (wq_nil ?_))
    rintro be ⟨aT, aU, aV⟩
    cases oi H
    exact qd ⟨aT, rfl, aU.s, aV⟩
   rintro _ bf ⟨S, rfl, T, aW⟩
   refine qe_seq (wcc au rfl (fun aX I => ?_) (fun aX I => ?_))
   ·refine sr (lv (rv_assign (v := .bool false) rfl) (nq (wc_ret (qe_block_ret (qe_then_ret (qe_then_ret ?_))))))
    cases oi I
    cases aa _ rfl
    refine qe_block_ret (qe_then_ret ?_)
    cases oi J
    refine qe_then_ret ?_
    cases oi y
    exact ey results63 ⟨S, rfl, T⟩
   refine wc_skip (qe_block (qg (lv (rv_add_to rfl rfl (w64_succ hi23 (SliceAt.max f))) (mv rfl (wl_nil ?_)))))
   cases oi I
   exact qd ⟨_, rfl, S, rfl, T, (i.trans aW)⟩
  rintro O _ X aY ⟨D, rfl, B, i⟩
  subst aY
  refine sr (lv (rv_lss rfl rfl) (ns (wc_cond_f rfl (decide_eq_false (by omega)) (wc_exit (qe_then_exit (qe_then_exit (qe_block_eq ?_)))))))
  cases oi J
  exact qd ⟨_, D, rfl, rfl, B, i⟩
 rintro _ bg ⟨s8, K9, rfl, rfl, a0, a1⟩
 have y := elim_l y
 refine qr (mv rfl (lv (rv_len (t := tGDoc) underlying35 rfl (f.mono a1)) (lv (rv_leq rfl rfl) (av rfl (nq (wc_ret ?_))))))
 cases oi y
 exact ey results63 ⟨K9, rfl, a0⟩

theorem ok_impl_cloneDoc {p0_d : GDoc} {r : GDoc} (hS : SH w K [] w K []) (af : rng64 p0_d.Id) (ag : SliceAt tGField K A a b p0_d.Fields) (ah : SliceAt tGAttr K B c d p0_d.Nums) (hm : M.impl_cloneDoc F p0_d = some r) :
  Calls prog 115 #[.agg #[.int .i64 p0_d.Id, .slice A a b, .slice B c d]] w fun e w' => ∃ a_2 n_3 c_4 a_6 n_7 c_8 K', e = .returned (.agg #[.int .i64 r.Id, .slice a_2 n_3 c_4, .slice a_6 n_7 c_8]) ∧ SH w K [] w' K' [tail (.slice a_2 n_3 c_4) 158 2, tail (.slice a_6 n_7 c_8) 197 2] ∧ rng64 r.Id ∧ SliceAt tGField K' a_2 n_3 c_4 r.Fields ∧ SliceAt tGAttr K' a_6 n_7 c_8 r.Nums := by
 rw [M.impl_cloneDoc] at hm
 refine ci func115 rfl ntmps115 (sr (bx rfl hS fun aC aX aE => ?_))
 have aF : SH _ _ _ _ _ [obj aC [.int .i64 p0_d.Id, .slice A a b, .slice B c d] 54] := aE
 refine al tf54 aF fun aG aY aH => ?_
 have aI : SH _ _ _ _ _ [obj aG [.int .i64 0, .slice none 0 0, .slice none 0 0] 54, _] := aH
 refine ns ?_
 obtain ⟨aZ, ai, aJ⟩ := ob hm
 obtain ⟨a0, aj, ak⟩ := ob aJ
 have v := aI.drew
 refine wj0 (fun w' => Holds K w' ∧ HasObj aC [.int .i64 p0_d.Id, .slice A a b, .slice B c d] w') (fun w' => True) 12 [] mixed ⟨v.hasK kr, v.hasObj m1⟩ (fun _ => trivial) (jv 0 rfl (rv_fieldAddr ff54_0 rfl) (jh 1 rfl (fun _ h => rh_loadm1 tf3 rfl rfl h.2) (jv 3 rfl (rv_fieldAddr ff54_1 rfl) (jh 4 rfl (fun _ h => rh_loadm1 tf51 rfl rfl h.2) (jv 7 rfl (rv_fieldAddr ff54_2 rfl) (jh 8 rfl (fun _ h => rh_loadm1 tf52 rfl rfl h.2) (j2 2 6 rfl rfl ?_ ?_)))))))
 ·refine b0 tGField underlying51 tf158 v fun a1 a2 a3 f aD x => (jn ⟨x.hasK f, x.hasObj m2⟩ (fun _ => trivial) (j2 5 6 rfl rfl ?_ ?_))
  ·refine lp underlying51 tf158 aD (ag.mono f) ai x fun y C D a4 a5 m aK am => (jn ⟨am.hasK (f.trans m), am.hasObj m2⟩ (fun _ => trivial) (j1 6 rfl (b0 tGAttr underlying52 tf197 am fun a6 a7 a8 o aL an => (jn ⟨an.hasK ((f.trans m).trans o), an.hasObj m3⟩ (fun _ => trivial) (j1 9 rfl (lp underlying52 tf197 aL (ah.mono ((f.trans m).trans o)) aj an fun G H I a9 aM ao aN ap => (jn ⟨ap.hasK (((f.trans m).trans o).trans ao), ap.hasObj m3⟩ (fun _ => trivial) (jv 10 rfl (rv_build (cs := #[.int .i64 p0_d.Id, .slice y C D, .slice G H I]) sp54 tf54 rfl (by kernel_rfl)) (j1 11 rfl ?_)))))))))
   refine ls [.int .i64 p0_d.Id, .slice y C D, .slice G H I] (.agg #[.int .i64 p0_d.Id, .slice y C D, .slice G H I]) tf54 ap.f2 fun ba J => (jn ⟨J.hasK (((f.trans m).trans o).trans ao), J.hasObj m3⟩ (fun _ => trivial) (jd (qe_seq (wc_ret ?_))))
   cases oi ak
   exact ez results115 tf54 J m0 ⟨y, C, D, G, H, I, aM, rfl, J.f1.f2.s, af, (aK.mono (o.trans ao)), aN⟩
  refine b0 tGAttr underlying52 tf197 x fun bb bc bd i aO aq => (jn ⟨aq.hasK (f.trans i), aq.hasObj m3⟩ (fun _ => trivial) (j1 5 rfl (lp underlying51 tf158 (aD.mono i) (ag.mono (f.trans i)) ai aq.f1 fun O R S be bf q aP ar => (jn ⟨ar.hasK ((f.trans i).trans q), ar.hasObj m3⟩ (fun _ => trivial) (j1 9 rfl (lp underlying52 tf197 (aO.mono q) (ah.mono ((f.trans i).trans q)) aj ar.f1 fun T U V bg aQ au aR aw => (jn ⟨aw.hasK (((f.trans i).trans q).trans au), aw.hasObj m3⟩ (fun _ => trivial) (jv 10 rfl (rv_build (cs := #[.int .i64 p0_d.Id, .slice O R S, .slice T U V]) sp54 tf54 rfl (by kernel_rfl)) (j1 11 rfl ?_)))))))))
  refine ls [.int .i64 p0_d.Id, .slice O R S, .slice T U V] (.agg #[.int .i64 p0_d.Id, .slice O R S, .slice T U V]) tf54 aw.f2 fun bh W => (jn ⟨W.hasK (((f.trans i).trans q).trans au), W.hasObj m3⟩ (fun _ => trivial) (jd (qe_seq (wc_ret ?_))))
  cases oi ak
  exact ez results115 tf54 W m0 ⟨O, R, S, T, U, V, aQ, rfl, W.f1.f2.s, af, (aP.mono au), aR⟩
 refine b0 tGAttr underlying52 tf197 v fun bi bj bk k aS ax => (jn ⟨ax.hasK k, ax.hasObj m2⟩ (fun _ => trivial) (j1 2 rfl (b0 tGField underlying51 tf158 ax fun bl bm bn l aT ay => (jn ⟨ay.hasK (k.trans l), ay.hasObj m3⟩ (fun _ => trivial) (j1 5 rfl (lp underlying51 tf158 aT (ag.mono (k.trans l)) ai ay fun X Y aa bo bp s aU az => (jn ⟨az.hasK ((k.trans l).trans s), az.hasObj m3⟩ (fun _ => trivial) (j1 9 rfl (lp underlying52 tf197 (aS.mono (l.trans s)) (ah.mono ((k.trans l).trans s)) aj az.f1 fun ab ac ad bq aV aA aW aB => ?_)))))))))
 refine jn ⟨aB.hasK (((k.trans l).trans s).trans aA), aB.hasObj m3⟩ (fun _ => trivial) (jv 10 rfl (rv_build (cs := #[.int .i64 p0_d.Id, .slice X Y aa, .slice ab ac ad]) sp54 tf54 rfl (by kernel_rfl)) (j1 11 rfl (ls [.int .i64 p0_d.Id, .slice X Y aa, .slice ab ac ad] (.agg #[.int .i64 p0_d.Id, .slice X Y aa, .slice ab ac ad]) tf54 aB.f2 fun br ae => (jn ⟨ae.hasK (((k.trans l).trans s).trans aA), ae.hasObj m3⟩ (fun _ => trivial) (jd (qe_seq (wc_ret ?_)))))))
 cases oi ak
 exact ez results115 tf54 ae m0 ⟨X, Y, aa, ab, ac, ad, aV, rfl, ae.f1.f2.s, af, (aU.mono aA), aW⟩

theorem ok_impl_cloneDocs {p0_list : List GDoc} {r : (List GDoc)} (hS : SH w K [] w K []) (I : SliceAt tGDoc K A a b p0_list) (hm : M.impl_cloneDocs F p0_list = some r) :
  Calls prog 65 #[.slice A a b] w fun e w' => ∃ a_1 n_2 c_3 K', e = .returned (.slice a_1 n_2 c_3) ∧ SH w K [] w' K' [tail (.slice a_1 n_2 c_3) 54 3] ∧ SliceAt tGDoc K' a_1 n_2 c_3 r := by
 rw [M.impl_cloneDocs] at hm
 refine ci func65 rfl ntmps65 (sr (lv (rv_assign (v := .slice none 0 0) rfl) (nr (b0 tGDoc underlying35 tf54 hS fun a5 w6 J O ag ah => (av rfl (nsr (mv rfl (lv (rv_len (t := tGDoc) underlying35 rfl (I.mono O)) (lv (rv_move (v := .int .i64 0) rfl) ?_)))))))))
 refine nq ?_
 obtain ⟨ai, aj, ak⟩ := ob hm
 refine wc_cutg (fun E' w' => ∃ k l m o, E' = [(3, .slice k l m)] ∧ SH w K [] w' o [tail (.slice k l m) 54 3] ∧ KLe J o ∧ SliceAt tGDoc o k l m ai) ?_ ?_
 ·refine wc_block ?_
  obtain ⟨a1, am, an⟩ := ob aj
  refine qF (fun (ad : Nat) (R : (List GDoc)) E' w' => ∃ c d f i, E' = [(3, .slice c d f), (7, .slice A a b), (8, .int .i64 (p0_list.length : Int)), (9, .int .i64 ((ad : Nat) : Int))] ∧ SH w K [] w' i [tail (.slice c d f) 54 3] ∧ KLe J i ∧ SliceAt tGDoc i c d f R) am ⟨a5, 0, 0, J, rfl, ah, kr, ag⟩ ?_ ?_
  ·rintro ad R _ ao a2 hi36 ap ⟨c, d, f, i, rfl, G, H, S⟩
   refine sr (lv (rv_lss rfl rfl) (ns (wc_cond_t rfl (decide_eq_true (by omega)) (wc_skip (qe_seq (wc_seq (wc_block (sr ?_))))))))
   obtain ⟨q, aq, ar⟩ := ob ap
   refine li underlying35 tf54 (I.mono (O.trans H)) aq fun au aw a3 ax ay => ?_
   obtain ⟨s, x, y, B, C, D, rfl, az, aA, aB⟩ := ax
   have aC : AtK _ au aw [.int .i64 q.Id, .slice s x y, .slice B C D] := ay
   refine lv (rv_loadS (cs := [.int .i64 q.Id, .slice s x y, .slice B C D]) tf54 rfl G aC rfl) (al tf54 G fun aD a4 aE => ?_)
   have aF : SH _ _ _ _ _ [obj aD [.int .i64 0, .slice none 0 0, .slice none 0 0] 54, _] := aE
   refine ls [.int .i64 q.Id, .slice s x y, .slice B C D] (.agg #[.int .i64 q.Id, .slice s x y, .slice B C D]) tf54 aF fun a6 T => (nq (wc_region (mv rfl (lv (rv_loadmS (ds := [.int .i64 q.Id, .slice s x y, .slice B C D]) tf54 rfl m0 T rfl rfl) ?_))))
   obtain ⟨U, aG, aH⟩ := ob ar
   refine lk co115 ((ok_impl_cloneDoc F) T.enter0 az aA aB aG) ?_
   rintro a7 a8 ⟨V, W, X, Y, aa, ab, a9, rfl, ac, aI, aJ, aK⟩
   have aL := (T.c0 ac).t4
   refine lb tGDoc (.agg #[.int .i64 U.Id, .slice V W X, .slice Y aa ab]) [.int .i64 U.Id, .slice V W X, .slice Y aa ab] U underlying35 tf54 ⟨V, W, X, Y, aa, ab, rfl, aI, aJ, aK⟩ aL fun ba bb bc ae aM aN => ?_
   obtain ⟨bd, aO, aP⟩ := ob aH
   refine lp underlying35 tf54 (S.mono (ac.le.trans ae)) aM aO aN.f4 fun aQ aR aS be aT aU aV aW => (av rfl (nb (qg (lv (rv_add_to rfl rfl (w64_succ hi36 (SliceAt.max (I.mono O)))) (mv rfl (wl_nil ?_))))))
   cases oi aP
   exact qd ⟨aQ, aR, aS, aT, rfl, aW.s, (((H.trans ac.le).trans ae).trans aU), aV⟩
  rintro R _ ao aX ⟨c, d, f, i, rfl, G, H, S⟩
  subst aX
  refine sr (lv (rv_lss rfl rfl) (ns (wc_cond_f rfl (decide_eq_false (by omega)) (wc_exit (qe_then_exit (qe_then_exit (qe_block_eq ?_)))))))
  cases oi an
  exact qd ⟨c, d, f, i, rfl, G, H, S⟩
 rintro _ bf ⟨k, l, m, o, rfl, aY, bg, aZ⟩
 refine qr (mv rfl (av rfl (nq (wc_ret ?_))))
 cases oi ak
 exact ey results65 ⟨k, l, m, o, rfl, aY, aZ⟩

theorem ok_impl_lower {p0_b : UInt8} {r : UInt8} (hS : SH w K [] w K []) (hm : M.impl_lower F p0_b = some r) :
  Calls prog 171 #[iv8 p0_b] w fun e w' => ∃ K', e = .returned (iv8 r) ∧ SH w K [] w' K' [] := by
 rw [M.impl_lower] at hm
 refine ci func171 rfl ntmps171 (sr (lv (rv_assign (v := iv8 0) rfl) (ns (wc_seq ?_))))
 obtain ⟨k, l, m⟩ := ob hm
 refine wc_cutg (IV w K [] K [(0, iv8 p0_b), (8, .bool k)] []) ?_ ?_
 ·refine wc_region (mv rfl (lv (rv_bge (b := (65 : UInt8)) rfl rfl) (mv rfl (bt l (fun a c => ?_) (fun a c => ?_)))))
  ·refine lg a (rv_move rfl) (lg a (rv_ble (b := (90 : UInt8)) rfl rfl) (lv (rv_pick_t rfl a rfl) (wl_nil ?_)))
   cases oi c
   exact qd ⟨K, rfl, hS, kr⟩
  refine lu a (lu a (lv (rv_pick_f (v := .bool false) rfl a rfl) (wl_nil ?_)))
  cases oi c
  exact qd ⟨K, rfl, hS, kr⟩
 rintro _ q ⟨f, rfl, i, s⟩
 refine qe_seq (wcc m rfl (fun o d => ?_) (fun o d => ?_))
 ·refine sr (mv rfl (lv (rv_badd (b := (97 : UInt8)) rfl rfl) (lv (rv_bsub (b := (65 : UInt8)) rfl rfl) (av rfl (nq (rr ?_))))))
  cases oi d
  exact ey results171 ⟨f, rfl, i⟩
 refine wc_skip (qr (mv rfl (av rfl (nq (wc_ret ?_)))))
 cases oi d
 exact ey results171 ⟨f, rfl, i⟩

set_option maxHeartbeats 2000000 in
theorem ok_impl_WordsOf {p0_s : Str} {r : (List GWord)} (hS : SH w K [] w K []) (aI : p0_s.length ≤ maxLen) (hm : M.impl_WordsOf F p0_s = some r) :
  Calls prog 125 #[sv p0_s] w fun e w' => ∃ a_1 n_2 c_3 K', e = .returned (.slice a_1 n_2 c_3) ∧ SH w K [] w' K' [tail (.slice a_1 n_2 c_3) 169 4] ∧ SliceAt tGWord K' a_1 n_2 c_3 r := by
 rw [M.impl_WordsOf] at hm
 refine ci func125 rfl ntmps125 (sr (lv (rv_assign (v := .slice none 0 0) rfl) (nr (b0 tGWord underlying166 tf169 hS fun a2 w3 K4 b5 an ao => (av rfl (nsr (mv rfl ?_)))))))
 obtain ⟨r8, aJ, aK⟩ := ob hm
 refine lk co124 ((ok_impl_TextOk F) ao.enter0 aI aJ) ?_
 rintro b7 b8 ⟨J, rfl, W⟩
 have ap := (ao.c0 W).t1
 refine lv (rv_not rfl) (nq (wcc aK rfl (fun aL X => ?_) (fun aL X => ?_)))
 ·refine sr (mv rfl (av rfl (nq (rr ?_))))
  cases oi X
  exact ey results125 ⟨a2, 0, 0, J, rfl, ap, (an.mono W.le)⟩
 refine wc_skip (qs (sr (lv (rv_assign (v := .int .i64 0) rfl) (nq ?_))))
 obtain ⟨aM, aN, aO⟩ := ob X
 refine wc_cutg (fun E' w' => ∃ A B C D, E' = [(3, .slice A B C)] ∧ SH w K [] w' D [tail (.slice A B C) 169 4] ∧ KLe J D ∧ SliceAt tGWord D A B C aM) ?_ ?_
 ·refine wc_block ?_
  obtain ⟨b9, aP, aQ⟩ := ob aN
  refine qw (fun (a : (List GWord) × Int) E' w' => ∃ c d f G, E' = [(0, sv p0_s), (3, .slice c d f), (4, .int .i64 a.2)] ∧ SH w K [] w' G [tail (.slice c d f) 169 4] ∧ KLe J G ∧ SliceAt tGWord G c d f a.1 ∧ rng64 a.2) aP ⟨a2, 0, 0, J, rfl, ap, kr, (an.mono W.le), (by decide : rng64 0)⟩ ?_
  rintro a _ ca cb aR aS ⟨c, d, f, G, rfl, Y, aa, H, aq⟩
  refine wc_seq (sr (mv rfl (mv rfl (lv (rv_slen underlying9 rfl) (lv (rv_lss rfl rfl) (nq (wcc aR rfl (fun aT ab => ?_) (fun aT ab => ?_))))))))
  ·refine wc_skip (qe_seq (wc_block (wc_seq (sr (mv rfl (mv rfl ?_))))))
   obtain ⟨cc, aU, aV⟩ := ob ab
   refine lv (rv_sidx underlying9 rfl rfl aU) ?_
   obtain ⟨cd, aW, aX⟩ := ob aV
   refine lk co171 ((ok_impl_lower F) Y.enter0  aW) ?_
   rintro ce cf ⟨cg, rfl, o⟩
   have ar := (Y.c0 o).t1
   obtain ⟨ch, aY, aZ⟩ := ob aX
   refine lk co106 ((ok_impl_wordByte F) ar.enter0  aY) ?_
   rintro cj ck ⟨a0, rfl, q⟩
   have au := (ar.c0 q).t1
   refine lv (rv_not rfl) (nq (wcc aZ rfl (fun a1 ac => ?_) (fun a1 ac => ?_)))
   ·refine sr (mv rfl (lv (rv_add rfl rfl) (av rfl (nq (wc_exit (qe_then_exit (qe_block_eq ?_)))))))
    cases oi ac
    exact qd ⟨_, rfl, c, d, f, a0, rfl, au, ((aa.trans o.le).trans q.le), (H.mono (o.le.trans q.le)), (w64_rng _)⟩
   refine wc_skip (qr (mv rfl (lv (rv_len (t := tGWord) underlying166 rfl (H.mono (o.le.trans q.le))) (mv rfl (lv (rv_build (cs := #[sv [], .int .i64 (a.1.length : Int), .int .i64 a.2, .int .i64 0]) sp169 tf169 rfl (by kernel_rfl)) (al tf169 au fun s cl a3 => ?_))))))
   have a4 : SH _ _ _ _ _ [obj s [sv [], .int .i64 0, .int .i64 0, .int .i64 0] 169, _] := a3
   refine ls [sv [], .int .i64 (a.1.length : Int), .int .i64 a.2, .int .i64 0] (.agg #[sv [], .int .i64 (a.1.length : Int), .int .i64 a.2, .int .i64 0]) tf169 a4 fun cm a5 => (nr (b0 tU8 underlying22 tf5 a5 fun a6 cn ad aw a7 a8 => (av rfl (ns ?_))))
   obtain ⟨b, a9, ba⟩ := ob ac
   refine wc_cutg (fun E' w' => ∃ O R S T, E' = [(0, sv p0_s), (3, .slice c d f), (4, .int .i64 b.1), (5, pt s), (6, .slice O R S)] ∧ SH w K [] w' T [obj s [sv [], .int .i64 (a.1.length : Int), .int .i64 a.2, .int .i64 0] 169, tail (.slice c d f) 169 4, tail (.slice O R S) 5 1] ∧ KLe ad T ∧ rng64 b.1 ∧ SliceAt tU8 T O R S b.2) ?_ ?_
   ·refine wc_block ?_
    obtain ⟨cp, bb, bc⟩ := ob a9
    refine qw (fun (I : Int × (List UInt8)) E' w' => ∃ k l m y, E' = [(0, sv p0_s), (3, .slice c d f), (4, .int .i64 I.1), (5, pt s), (6, .slice k l m)] ∧ SH w K [] w' y [obj s [sv [], .int .i64 (a.1.length : Int), .int .i64 a.2, .int .i64 0] 169, tail (.slice c d f) 169 4, tail (.slice k l m) 5 1] ∧ KLe ad y ∧ rng64 I.1 ∧ SliceAt tU8 y k l m I.2) bb ⟨a6, 0, 0, ad, rfl, a8.f2.f2, kr, aq, a7⟩ ?_
    rintro I _ cq cr bd be ⟨k, l, m, y, rfl, ae, af, bf, U⟩
    refine wc_seq (wc_seq ?_)
    obtain ⟨bg, bh, bi⟩ := ob bd
    refine wc_cutg (IV w K [] y [(0, sv p0_s), (3, .slice c d f), (4, .int .i64 I.1), (5, pt s), (6, .slice k l m), (39, .bool bg)] [obj s [sv [], .int .i64 (a.1.length : Int), .int .i64 a.2, .int .i64 0] 169, tail (.slice c d f) 169 4, tail (.slice k l m) 5 1]) ?_ ?_
    ·refine wc_region (mv rfl (mv rfl (lv (rv_slen underlying9 rfl) (lv (rv_lss rfl rfl) (mv rfl (bt bh (fun i ag => ?_) (fun i ag => ?_)))))))
     ·refine lg i (rv_move rfl) (lg i (rv_move rfl) ?_)
      obtain ⟨bj, bk, bl⟩ := ob ag
      refine lg i (rv_sidx underlying9 rfl rfl bk) ?_
      obtain ⟨bm, bn, bo⟩ := ob bl
      refine wl_call (wg rfl rfl i) rfl (rt_call (vs := [iv8 bj]) co171 rfl) ((ok_impl_lower F) ae.enter0  bn) ?_
      rintro ct cu ⟨cv, rfl, ax⟩
      refine ⟨_, rfl, ?_⟩
      have ay := (ae.c0 ax).t3
      obtain ⟨cw, bp, bq⟩ := ob bo
      refine wl_call (wg rfl rfl i) rfl (rt_call (vs := [iv8 bm]) co106 rfl) ((ok_impl_wordByte F) ay.enter0  bp) ?_
      rintro cx cy ⟨br, rfl, az⟩
      refine ⟨_, rfl, ?_⟩
      have bs := (ay.c0 az).t3
      refine lv (rv_pick_t rfl i rfl) (wl_nil ?_)
      cases oi bq
      exact qd ⟨br, rfl, bs, (ax.le.trans az.le)⟩
     iterate 5 refine lu i ?_
     refine lv (rv_pick_f (v := .bool false) rfl i rfl) (wl_nil ?_)
     cases oi ag
     exact qd ⟨y, rfl, ae, kr⟩
    rintro _ cz ⟨aA, rfl, V, x⟩
    refine qe_seq (wcc bi rfl (fun bu ah => ?_) (fun bu ah => ?_))
    ·refine wc_skip (qe_seq (wc_block (wc_seq (sr (mv rfl (lv (rv_len (t := tU8) underlying22 rfl (U.mono x)) (lv (rv_lss rfl rfl) (nq (wcc ah rfl (fun bv ai => ?_) (fun bv ai => ?_))))))))))
     ·refine wc_region (mv rfl (mv rfl (mv rfl ?_)))
      obtain ⟨cA, bx, bz⟩ := ob ai
      refine lv (rv_sidx underlying9 rfl rfl bx) ?_
      obtain ⟨aj, bA, bB⟩ := ob bz
      refine lk co171 ((ok_impl_lower F) V.enter0  bA) ?_
      rintro cB cC ⟨cD, rfl, ak⟩
      have bC := (V.c0 ak).t3
      refine lb tU8 (iv8 aj) [iv8 aj] aj underlying22 tf5 rfl bC fun cE cF cG aB bD bE => ?_
      obtain ⟨cH, bF, bG⟩ := ob bB
      refine lp underlying22 tf5 (U.mono ((x.trans ak.le).trans aB)) bD bF bE.f3 fun bH bI bJ cI bK bL bM bN => (av rfl (nq (wc_region (mv rfl (lv (rv_add rfl rfl) (av rfl (nb ?_)))))))
      cases oi bG
      exact qd ⟨_, rfl, bH, bI, bJ, bK, rfl, bN.f3.f3.s, ((((af.trans x).trans ak.le).trans aB).trans bL), (w64_rng _), bM⟩
     refine wc_skip (qe_seq (wc_region (mv rfl (lv (rv_add rfl rfl) (av rfl (nb ?_))))))
     cases oi ai
     exact qd ⟨_, rfl, k, l, m, aA, rfl, V, (af.trans x), (w64_rng _), (U.mono x)⟩
    refine wc_exit (qe_then_exit (qe_then_exit ?_))
    cases oi ah
    cases be _ rfl
    refine qe_block_eq ?_
    cases oi bc
    exact qd ⟨k, l, m, aA, rfl, V, (af.trans x), bf, (U.mono x)⟩
   rintro _ cJ ⟨O, R, S, T, rfl, aC, aD, aE, aF⟩
   refine qr (mv rfl (lv (rv_b2s underlying22 underlying5 underlying9 rfl aF aC) (mv rfl (fa ff169_0 rfl (ls [sv b.2, .int .i64 (a.1.length : Int), .int .i64 a.2, .int .i64 0] (sv b.2) tf9 aC fun cK bO => (fa ff169_3 rfl (ls [sv b.2, .int .i64 (a.1.length : Int), .int .i64 a.2, .int .i64 b.1] (.int .i64 b.1) tf3 bO fun cL aG => (nq (wc_region ?_)))))))))
   refine mv rfl (lv (rv_loadmS (ds := [sv b.2, .int .i64 (a.1.length : Int), .int .i64 a.2, .int .i64 b.1]) tf169 rfl m0 aG rfl rfl) (lb tGWord (.agg #[sv b.2, .int .i64 (a.1.length : Int), .int .i64 a.2, .int .i64 b.1]) [sv b.2, .int .i64 (a.1.length : Int), .int .i64 a.2, .int .i64 b.1] (GWord.mk b.2 (a.1.length : Int) a.2 b.1) underlying166 tf169 ⟨rfl, (SliceAt.max aF), (H.mono (o.le.trans q.le)).rn, aq, aE⟩ aG fun cM cN cO aH bP bQ => ?_))
   obtain ⟨cP, bR, bS⟩ := ob ba
   refine lp underlying166 tf169 (SliceAt.mono ((((o.le.trans q.le).trans aw).trans aD).trans aH) H) bP bR bQ.f2 fun bT bU bV cQ bW bX bY bZ => (av rfl (nb ?_))
   cases oi bS
   exact qd ⟨_, rfl, bT, bU, bV, bW, rfl, bZ.s, ((((((aa.trans o.le).trans q.le).trans aw).trans aD).trans aH).trans bX), bY, aE⟩
  refine wc_exit (qe_then_exit (qe_then_exit ?_))
  cases oi ab
  cases aS _ rfl
  refine qe_block_eq ?_
  cases oi aQ
  exact qd ⟨c, d, f, G, rfl, Y, aa, H⟩
 rintro _ cR ⟨A, B, C, D, rfl, b1, cS, b2⟩
 refine qr (mv rfl (av rfl (nq (wc_ret ?_))))
 cases oi aO
 exact ey results125 ⟨A, B, C, D, rfl, b1, b2⟩

set_option maxHeartbeats 2000000 in
theorem ok_impl_ruleAt {p0_c : GConf} {p1_terms : List GTerm} {p2_at : Int} {r : (Option GSyn)} (hS : SH w K [] w K []) (bX : SliceAt tStr K A a b p0_c.Stops) (O : SliceAt tGSyn K B c d p0_c.Syns) (ac : SliceAt tGTerm K C f i p1_terms) (bY : rng64 p2_at) (hm : M.impl_ruleAt F p0_c p1_terms p2_at = some r) :
  Calls prog 126 #[.agg #[.slice A a b, .slice B c d], .slice C f i, .int .i64 p2_at] w fun e w' => ∃ v_1 K', e = .returned (v_1) ∧ SH w K [] w' K' [] ∧ PtrO tGSyn K' v_1 r := by
 rw [M.impl_ruleAt] at hm
 refine ci func126 rfl ntmps126 (sr (bx rfl hS fun s bZ ax => ?_))
 have ao : SH _ _ _ _ _ [obj s [.slice A a b, .slice B c d] 26] := ax
 refine lv (rv_assign (v := .pointer none) rfl) (nr (lv (rv_assign (v := .pointer none) rfl) (nsr (fa ff26_1 rfl (lv (rv_loadm1 tf24 rfl m0 ao rfl) (lv (rv_len (t := tGSyn) underlying24 rfl O) (lv (rv_move (v := .int .i64 0) rfl) (nq ?_))))))))
 obtain ⟨ay, az, aA⟩ := ob hm
 refine wc_cutg (fun E' w' => ∃ v25 R, E' = [(7, v25)] ∧ SH w K [] w' R [] ∧ KLe K R ∧ PtrO tGSyn R v25 ay) ?_ ?_
 ·refine wc_block ?_
  obtain ⟨b0, aB, aC⟩ := ob az
  refine qF (fun (S : Nat) (ad : (Option GSyn)) E' w' => ∃ v36 H, E' = [(1, .slice C f i), (2, .int .i64 p2_at), (3, pt s), (7, v36), (16, .int .i64 (p0_c.Syns.length : Int)), (17, .int .i64 ((S : Nat) : Int))] ∧ SH w K [] w' H [obj s [.slice A a b, .slice B c d] 26] ∧ KLe K H ∧ PtrO tGSyn H v36 ad) aB ⟨(.pointer none), K, rfl, ao, kr, (show PtrO tGSyn _ _ none from rfl)⟩ ?_ ?_
  ·rintro S ad _ aD b1 hi39 aE ⟨v36, H, rfl, V, x, hp37⟩
   refine sr (lv (rv_lss rfl rfl) (ns (wc_cond_t rfl (decide_eq_true (by omega)) (wc_skip (qe_seq (wc_seq (wc_block (sr (mv rfl (av rfl (nr (fa ff26_1 rfl ?_))))))))))))
   refine lv (rv_loadm1 tf24 rfl m0 V rfl) (mv rfl ?_)
   obtain ⟨ae, aF, aG⟩ := ob aE
   refine li underlying24 tf96 (O.mono x) aF fun I J b2 aH aI => ?_
   obtain ⟨W, X, Y, rfl, y, aJ⟩ := aH
   have aa : AtK _ I J [.slice W X Y, sv ae.To] := aI
   refine av rfl (ns (wc_seq ?_))
   obtain ⟨aK, aL, aM⟩ := ob aG
   refine wc_cutg (IV w K [] H [(1, .slice C f i), (2, .int .i64 p2_at), (3, pt s), (7, v36), (9, .pointer (some ⟨I, J, none⟩)), (16, .int .i64 (p0_c.Syns.length : Int)), (17, .int .i64 ((S : Nat) : Int)), (50, .bool aK)] [obj s [.slice A a b, .slice B c d] 26]) ?_ ?_
   ·refine wc_quiet mixed (by kernel_rfl) V (km rfl (kv (rv_nilCheck rfl) (kv (rv_fieldAddr ff96_0 rfl) (kh (rq_load1 tf23 rfl (aa 0 _ rfl)) (kv (rv_len (t := tStr) underlying23 rfl y) (km rfl (kv (rv_len (t := tGTerm) underlying114 rfl (ac.mono x)) (km rfl (kv (rv_sub rfl rfl) ?_)))))))))
    refine kv (rv_gtr rfl rfl) (km rfl (bt aL (fun o af => ?_) (fun o af => ?_)))
    ·refine kn o (kn o (kn o ?_))
     iterate 11 refine ku ?_
     refine kn o (kv (rv_pick_t (v := .bool true) rfl o rfl) (wq_nil ?_))
     rintro b3 ⟨aN, aO, aP⟩
     cases oi af
     exact qd ⟨aN, rfl, aO, aP⟩
    refine kg o (rv_move rfl) (kg o (rv_pnotnil underlying170 rfl rfl hp37) (kg o (rv_move rfl) (bt af (fun k ag => ?_) (fun k ag => ?_))))
    ·refine kg k (rv_move rfl) (kg k (rv_nilCheck rfl) (kg k (rv_fieldAddr ff96_0 rfl) (kgh k (rq_load1 tf23 rfl (aa 0 _ rfl)) (kg k (rv_len (t := tStr) underlying23 rfl y) (kg k (rv_move rfl) ?_)))))
     obtain ⟨aQ, aR, aS⟩ := ob ag
     obtain ⟨aT, aU, b4, rfl, aV, aW⟩ := PtrO.get hp37 aR
     obtain ⟨aX, aY, aZ, rfl, a0, b5⟩ := aV
     have a1 : AtK _ aT aU [.slice aX aY aZ, sv aQ.To] := aW
     refine kg k (rv_nilCheck rfl) (kg k (rv_fieldAddr ff96_0 rfl) (kgh k (rq_load1 tf23 rfl (a1 0 _ rfl)) (kg k (rv_len (t := tStr) underlying23 rfl a0) (kg k (rv_leq rfl rfl) (kg o (rv_pick_t rfl k rfl) (kv (rv_pick_f rfl o rfl) (wq_nil ?_)))))))
     rintro b6 ⟨a2, a3, a4⟩
     cases oi aS
     exact qd ⟨a2, rfl, a3, a4⟩
    iterate 11 refine kn k ?_
    refine kg o (rv_pick_f (v := .bool false) rfl k rfl) (kv (rv_pick_f rfl o rfl) (wq_nil ?_))
    rintro b7 ⟨a5, a6, a7⟩
    cases oi ag
    exact qd ⟨a5, rfl, a6, a7⟩
   rintro _ b8 ⟨ab, rfl, ah, l⟩
   refine qe_seq (wcc aM rfl (fun a8 ai => ?_) (fun a8 ai => ?_))
   ·refine wc_exit (qe_then_exit (qe_block_eq (qg (lv (rv_add_to rfl rfl (w64_succ hi39 (SliceAt.max O))) (mv rfl (wl_nil ?_))))))
    cases oi ai
    exact qd ⟨v36, ab, rfl, ah, (x.trans l), (PtrO.mono l hp37)⟩
   refine wc_skip (qr (lv (rv_assign (v := .bool true) rfl) (nsr (mv rfl (lv (rv_nilCheck rfl) (fa ff96_0 rfl (lv (rv_load1 tf23 rfl ah ((AtK.mono l aa) 0 _ rfl)) (lv (rv_len (t := tStr) underlying23 rfl (y.mono l)) (lv (rv_move (v := .int .i64 0) rfl) ?_)))))))))
   refine nq ?_
   obtain ⟨a9, ba, bb⟩ := ob ai
   refine wc_cutg (IV w K [] ab [(1, .slice C f i), (2, .int .i64 p2_at), (3, pt s), (7, v36), (9, .pointer (some ⟨I, J, none⟩)), (10, .bool a9), (16, .int .i64 (p0_c.Syns.length : Int)), (17, .int .i64 ((S : Nat) : Int))] [obj s [.slice A a b, .slice B c d] 26]) ?_ ?_
   ·refine wc_block ?_
    obtain ⟨b9, bc, bd⟩ := ob ba
    refine qF (fun (ap : Nat) (aj : Bool) => IV w K [] ab [(1, .slice C f i), (2, .int .i64 p2_at), (3, pt s), (7, v36), (9, .pointer (some ⟨I, J, none⟩)), (10, .bool aj), (16, .int .i64 (p0_c.Syns.length : Int)), (17, .int .i64 ((S : Nat) : Int)), (54, .slice W X Y), (55, .int .i64 (ae.From.length : Int)), (56, .int .i64 ((ap : Nat) : Int))] [obj s [.slice A a b, .slice B c d] 26]) bc ⟨ab, rfl, ah, kr⟩ ?_ ?_
    ·rintro ap aj _ be ca hi112 bf ⟨aq, rfl, T, D⟩
     refine sr (lv (rv_lss rfl rfl) (ns (wc_cond_t rfl (decide_eq_true (by omega)) (wc_skip (qe_seq (wc_seq (wc_block (sr (mv rfl ?_)))))))))
     obtain ⟨bg, bh, bi⟩ := ob bf
     refine li underlying23 tf9 (y.mono (l.trans D)) bh fun bj bk cb bl bm => ?_
     obtain ⟨rfl, cc⟩ := bl
     have bn : AtK _ bj bk [sv bg] := bm
     refine lv (rv_load1 tf9 rfl T (bn 0 _ rfl)) (av rfl (av rfl (nr (mv rfl (mv rfl (mv rfl (lv (rv_add rfl rfl) ?_)))))))
     obtain ⟨G, bo, bp⟩ := ob bi
     refine li underlying114 tf117 (ac.mono ((x.trans l).trans D)) bo fun bq br cd bs bu => ?_
     obtain ⟨rfl, ce, cf⟩ := bs
     have bv : AtK _ bq br [sv G.Text, .int .i64 G.At] := bu
     refine lv (rv_loadS (cs := [sv G.Text, .int .i64 G.At]) tf117 rfl T bv rfl) (al tf117 T fun bz cg bA => ?_)
     have bB : SH _ _ _ _ _ [obj bz [sv [], .int .i64 0] 117, _] := bA
     refine ls [sv G.Text, .int .i64 G.At] (.agg #[sv G.Text, .int .i64 G.At]) tf117 bB fun ch bC => (nq (wc_quiet mixed (by kernel_rfl) bC (km rfl (km rfl (bt bp (fun q ak => ?_) (fun q ak => ?_))))))
     ·refine kg q (rv_fieldAddr ff117_0 rfl) (kgh q (rq_loadm1 tf9 rfl m0 rfl) (kg q (rv_move rfl) (kg q (rv_seql rfl rfl) (kv (rv_pick_t rfl q rfl) (km rfl (bt ak (fun m am => ?_) (fun m am => ?_)))))))
      ·refine kg m (rv_fieldAddr ff117_1 rfl) (kgh m (rq_loadm1 tf3 rfl m0 rfl) (kg m (rv_move rfl) (kg m (rv_move rfl) ?_)))
       obtain ⟨ar, bD, bE⟩ := ob am
       refine wq_indexAddr (t := tGTerm) (wg rfl rfl m) rfl underlying114 tf117 rfl rfl (ac.mono ((x.trans l).trans D)) bD fun bF bG cj bH bI => ?_
       obtain ⟨rfl, ck, cl⟩ := bH
       have bJ : AtK _ bF bG [sv ar.Text, .int .i64 ar.At] := bI
       refine kg m (rv_fieldAddr ff117_1 rfl) (kgh m (rq_load1 tf3 rfl (bJ 1 _ rfl)) (kg m (rv_move rfl) (kg m (rv_add rfl rfl) (kg m (rv_eql rfl rfl) (kv (rv_pick_t rfl m rfl) (kv (rv_assign rfl) (wq_nil ?_)))))))
       rintro cm ⟨bK, bL, bM⟩
       refine qe_block (qg (lv (rv_add_to rfl rfl (w64_succ hi112 (SliceAt.max (y.mono l)))) (mv rfl (wl_nil ?_))))
       cases oi bE
       exact qd ⟨bK, rfl, bL.s, (D.trans bM)⟩
      iterate 10 refine kn m ?_
      refine kv (rv_pick_f (v := .bool false) rfl m rfl) (kv (rv_assign rfl) (wq_nil ?_))
      rintro cn ⟨bN, bO, bP⟩
      refine qe_block (qg (lv (rv_add_to rfl rfl (w64_succ hi112 (SliceAt.max (y.mono l)))) (mv rfl (wl_nil ?_))))
      cases oi am
      exact qd ⟨bN, rfl, bO.s, (D.trans bP)⟩
     refine kn q (kn q (kn q (kn q (kv (rv_pick_f (v := .bool false) rfl q rfl) (km rfl ?_)))))
     iterate 10 refine qv rfl rfl rfl rfl ?_
     refine kv (rv_pick_f (v := .bool false) rfl rfl rfl) (kv (rv_assign rfl) (wq_nil ?_))
     rintro cp ⟨bQ, bR, bS⟩
     refine qe_block (qg (lv (rv_add_to rfl rfl (w64_succ hi112 (SliceAt.max (y.mono l)))) (mv rfl (wl_nil ?_))))
     cases oi ak
     exact qd ⟨bQ, rfl, bR.s, (D.trans bS)⟩
    rintro aj _ be bT ⟨aq, rfl, T, D⟩
    subst bT
    refine sr (lv (rv_lss rfl rfl) (ns (wc_cond_f rfl (decide_eq_false (by omega)) (wc_exit (qe_then_exit (qe_then_exit (qe_block_eq ?_)))))))
    cases oi bd
    exact qd ⟨aq, rfl, T, D⟩
   rintro _ cq ⟨au, rfl, aw, U⟩
   refine qr (mv rfl (nq (wcc bb rfl (fun bU an => ?_) (fun bU an => ?_))))
   ·refine wc_region (mv rfl (av rfl (nb (qg (lv (rv_add_to rfl rfl (w64_succ hi39 (SliceAt.max O))) (mv rfl (wl_nil ?_)))))))
    cases oi an
    exact qd ⟨(.pointer (some ⟨I, J, none⟩)), au, rfl, aw, ((x.trans l).trans U), ⟨I, J, .agg #[.slice W X Y, sv ae.To], rfl, ⟨W, X, Y, rfl, (y.mono (l.trans U)), aJ⟩, (AtK.mono (l.trans U) aa)⟩⟩
   refine wc_skip (qe_block (qg (lv (rv_add_to rfl rfl (w64_succ hi39 (SliceAt.max O))) (mv rfl (wl_nil ?_)))))
   cases oi an
   exact qd ⟨v36, au, rfl, aw, ((x.trans l).trans U), (PtrO.mono (l.trans U) hp37)⟩
  rintro ad _ aD bV ⟨v36, H, rfl, V, x, hp37⟩
  subst bV
  refine sr (lv (rv_lss rfl rfl) (ns (wc_cond_f rfl (decide_eq_false (by omega)) (wc_exit (qe_then_exit (qe_then_exit (qe_block_eq ?_)))))))
  cases oi aC
  exact qd ⟨v36, H, rfl, V.s, x, hp37⟩
 rintro _ cr ⟨v25, R, rfl, bW, ct, hp26⟩
 refine qr (mv rfl (av rfl (nq (wc_ret ?_))))
 cases oi aA
 exact ey results126 ⟨v25, R, rfl, bW, hp26⟩

set_option maxHeartbeats 2000000 in
theorem ok_impl_TermsOf {p0_c : GConf} {p1_s : Str} {r : (List GTerm)} (hS : SH w K [] w K []) (aj : SliceAt tStr K A a b p0_c.Stops) (aS : SliceAt tGSyn K B c d p0_c.Syns) (aT : p1_s.length ≤ maxLen) (hm : M.impl_TermsOf F p0_c p1_s = some r) :
  Calls prog 73 #[.agg #[.slice A a b, .slice B c d], sv p1_s] w fun e w' => ∃ a_1 n_2 c_3 K', e = .returned (.slice a_1 n_2 c_3) ∧ SH w K [] w' K' [tail (.slice a_1 n_2 c_3) 117 2] ∧ SliceAt tGTerm K' a_1 n_2 c_3 r := by
 rw [M.impl_TermsOf] at hm
 refine ci func73 rfl ntmps73 (sr (bx rfl hS fun i dm ba => ?_))
 have bb : SH _ _ _ _ _ [obj i [.slice A a b, .slice B c d] 26] := ba
 refine lv (rv_assign (v := .slice none 0 0) rfl) (nr (b0 tGTerm underlying114 tf117 bb fun k dn bc J aU az => (av rfl (ns (wc_seq ?_)))))
 obtain ⟨bd, be, bf⟩ := ob hm
 refine wc_cutg (IV w K [] bc [(1, sv p1_s), (2, pt i), (5, .slice k 0 0), (20, .bool bd)] [obj i [.slice A a b, .slice B c d] 26, tail (.slice k 0 0) 117 2]) ?_ ?_
 ·refine wc_region (lv (rv_loadmS (ds := [.slice A a b, .slice B c d]) tf26 rfl m1 az rfl rfl) ?_)
  obtain ⟨dp, bg, bh⟩ := ob be
  refine lk co19 ((ok_impl_ConfOk F) az.enter0 (aj.mono J) (aS.mono J) bg) ?_
  rintro dq dr ⟨bi, rfl, aA⟩
  have aB := (az.c0 aA).t2
  refine lv (rv_not rfl) (mv rfl (bt bh (fun l aC => ?_) (fun l aC => ?_)))
  ·refine lu l (lu l (lu l (lv (rv_pick_t (v := .bool true) rfl l rfl) (wl_nil ?_))))
   cases oi aC
   exact qd ⟨bi, rfl, aB.f1, aA.le⟩
  refine lg l (rv_move rfl) ?_
  obtain ⟨dt, bj, bk⟩ := ob aC
  refine wl_call (wg rfl rfl l) rfl (rt_call (vs := [sv p1_s]) co124 rfl) ((ok_impl_TextOk F) aB.enter0 aT bj) ?_
  rintro du dv ⟨bl, rfl, aV⟩
  refine ⟨_, rfl, ?_⟩
  have bm := (aB.c0 aV).t2
  refine lg l (rv_not rfl) (lv (rv_pick_f rfl l rfl) (wl_nil ?_))
  cases oi bk
  exact qd ⟨bl, rfl, bm.f1, (aA.le.trans aV.le)⟩
 rintro _ dw ⟨bn, rfl, aW, O⟩
 refine qe_seq (wcc bf rfl (fun bo aD => ?_) (fun bo aD => ?_))
 ·refine sr (mv rfl (av rfl (nq (rr ?_))))
  cases oi aD
  exact ey results73 ⟨k, 0, 0, bn, rfl, aW.s, (aU.mono O)⟩
 refine wc_skip (qr (b0 tGTerm underlying114 tf117 aW fun bp dx dy Y bq aX => (av rfl (nsr (mv rfl ?_)))))
 obtain ⟨aY, br, bs⟩ := ob aD
 refine lk co125 ((ok_impl_WordsOf F) aX.enter0 aT br) ?_
 rintro dz dA ⟨aZ, a0, a1, aE, rfl, C, ak⟩
 have bu := (aX.c0 C).t4
 refine lv (rv_len (t := tGWord) underlying166 rfl ak) (lv (rv_move (v := .int .i64 0) rfl) (nq ?_))
 obtain ⟨bv, bz, bA⟩ := ob bs
 refine wc_cutg (fun E' w' => ∃ R S T D, E' = [(2, pt i), (5, .slice k 0 0), (6, .slice R S T)] ∧ SH w K [] w' D [obj i [.slice A a b, .slice B c d] 26, tail (.slice k 0 0) 117 2, tail (.slice R S T) 117 2] ∧ KLe aE D ∧ SliceAt tGTerm D R S T bv) ?_ ?_
 ·refine wc_block ?_
  obtain ⟨dB, bB, bC⟩ := ob bz
  have bD := bu.f1.f3.f3.sb (sk (sk (sk (sd sz))))
  refine qF (fun (aF : Nat) (aG : (List GTerm)) E' w' => ∃ m o q U, E' = [(2, pt i), (5, .slice k 0 0), (6, .slice m o q), (24, .slice aZ a0 a1), (25, .int .i64 (aY.length : Int)), (26, .int .i64 ((aF : Nat) : Int))] ∧ SH w K [] w' U [obj i [.slice A a b, .slice B c d] 26, tail (.slice k 0 0) 117 2, tail (.slice m o q) 117 2] ∧ KLe aE U ∧ SliceAt tGTerm U m o q aG) bB ⟨bp, 0, 0, aE, rfl, bD, kr, (bq.mono C.le)⟩ ?_ ?_
  ·rintro aF aG _ bE dC hi97 bF ⟨m, o, q, U, rfl, am, G, an⟩
   refine sr (lv (rv_lss rfl rfl) (ns (wc_cond_t rfl (decide_eq_true (by omega)) (wc_skip (qe_seq (wc_seq (wc_block (sr ?_))))))))
   obtain ⟨f, bG, bH⟩ := ob bF
   refine li underlying166 tf169 (ak.mono G) bG fun bI bJ dD bK bL => ?_
   obtain ⟨rfl, a2, bM, dE, dF⟩ := bK
   have bN : AtK _ bI bJ [sv f.Text, .int .i64 f.At, .int .i64 f.From, .int .i64 f.To] := bL
   refine lv (rv_loadS (cs := [sv f.Text, .int .i64 f.At, .int .i64 f.From, .int .i64 f.To]) tf169 rfl am bN rfl) (al tf169 am fun aH dG bO => ?_)
   have bP : SH _ _ _ _ _ [obj aH [sv [], .int .i64 0, .int .i64 0, .int .i64 0] 169, _, _, _] := bO
   refine ls [sv f.Text, .int .i64 f.At, .int .i64 f.From, .int .i64 f.To] (.agg #[sv f.Text, .int .i64 f.At, .int .i64 f.From, .int .i64 f.To]) tf169 bP fun dH aI => (nr (fa ff169_0 rfl (lv (rv_loadm1 tf9 rfl m0 aI rfl) ?_)))
   obtain ⟨V, bQ, bR⟩ := ob bH
   refine lk co60 ((ok_impl_StemOf F) aI.enter0 a2 bQ) ?_
   rintro dI dJ ⟨bS, rfl, H, a3⟩
   have ao := (aI.c0 H).t4
   refine av rfl (ns ?_)
   obtain ⟨bT, bU, bV⟩ := ob bR
   refine wc_cutg (IV w K [] bS [(2, pt i), (5, .slice k 0 0), (6, .slice m o q), (8, pt aH), (9, sv V), (24, .slice aZ a0 a1), (25, .int .i64 (aY.length : Int)), (26, .int .i64 ((aF : Nat) : Int)), (45, .bool bT)] [obj i [.slice A a b, .slice B c d] 26, obj aH [sv f.Text, .int .i64 f.At, .int .i64 f.From, .int .i64 f.To] 169, tail (.slice k 0 0) 117 2, tail (.slice m o q) 117 2]) ?_ ?_
   ·refine wc_region (fa ff26_0 rfl (lv (rv_loadm1 tf23 rfl m1 ao rfl) (fa ff169_0 rfl (lv (rv_loadm1 tf9 rfl m0 ao rfl) ?_))))
    obtain ⟨dK, bW, bX⟩ := ob bU
    refine lk co61 ((ok_slices_Contains_string F) ao.enter0 (SliceAt.mono (((((J.trans O).trans Y).trans C.le).trans G).trans H.le) aj) a2 bW) ?_
    rintro dL dM ⟨bY, rfl, ap⟩
    have aq := (ao.c0 ap).t4
    refine lv (rv_not rfl) (mv rfl (bt bX (fun s aJ => ?_) (fun s aJ => ?_)))
    ·refine lg s (rv_fieldAddr ff26_0 rfl) (lg s (rv_loadm1 tf23 rfl m1 aq rfl) (lg s (rv_move rfl) ?_))
     obtain ⟨dN, bZ, b1⟩ := ob aJ
     refine wl_call (wg rfl rfl s) rfl (rt_call (vs := [.slice A a b, sv V]) co61 rfl) ((ok_slices_Contains_string F) aq.enter0 (SliceAt.mono ((((((J.trans O).trans Y).trans C.le).trans G).trans H.le).trans ap.le) aj) a3 bZ) ?_
     rintro dO dP ⟨b2, rfl, a4⟩
     refine ⟨_, rfl, ?_⟩
     have b3 := (aq.c0 a4).t4
     refine lg s (rv_not rfl) (lv (rv_pick_t rfl s rfl) (wl_nil ?_))
     cases oi b1
     exact qd ⟨b2, rfl, b3.f3.f3.f2.f3, (ap.le.trans a4.le)⟩
    iterate 5 refine lu s ?_
    refine lv (rv_pick_f (v := .bool false) rfl s rfl) (wl_nil ?_)
    cases oi aJ
    exact qd ⟨bY, rfl, aq.f3.f3.f2.f3, ap.le⟩
   rintro _ dQ ⟨b4, rfl, aK, ar⟩
   refine qe_seq (wcc bV rfl (fun b5 aL => ?_) (fun b5 aL => ?_))
   ·refine wc_region (mv rfl (mv rfl (fa ff169_1 rfl (lv (rv_loadm1 tf3 rfl m1 aK rfl) (lv (rv_build (cs := #[sv V, .int .i64 f.At]) sp117 tf117 rfl (by kernel_rfl)) (lb tGTerm (.agg #[sv V, .int .i64 f.At]) [sv V, .int .i64 f.At] (GTerm.mk V f.At) underlying114 tf117 ⟨rfl, a3, bM⟩ aK fun dR dS dT a5 b6 b7 => ?_))))))
    obtain ⟨dU, b8, b9⟩ := ob aL
    refine lp underlying114 tf117 (an.mono ((H.le.trans ar).trans a5)) b6 b8 b7.f4 fun ca cb cc dV cd ce cf cg => (av rfl (nb (qg (lv (rv_add_to rfl rfl (w64_succ hi97 (SliceAt.max ak))) (mv rfl (wl_nil ?_))))))
    cases oi b9
    exact qd ⟨ca, cb, cc, cd, rfl, cg.f4.f3.s, ((((G.trans H.le).trans ar).trans a5).trans ce), cf⟩
   refine wc_skip (qe_block (qg (lv (rv_add_to rfl rfl (w64_succ hi97 (SliceAt.max ak))) (mv rfl (wl_nil ?_)))))
   cases oi aL
   exact qd ⟨m, o, q, b4, rfl, aK.s, ((G.trans H.le).trans ar), (an.mono (H.le.trans ar))⟩
  rintro aG _ bE ch ⟨m, o, q, U, rfl, am, G, an⟩
  subst ch
  refine sr (lv (rv_lss rfl rfl) (ns (wc_cond_f rfl (decide_eq_false (by omega)) (wc_exit (qe_then_exit (qe_then_exit (qe_block_eq ?_)))))))
  cases oi bC
  exact qd ⟨m, o, q, U, rfl, am, G, an⟩
 rintro _ dW ⟨R, S, T, D, rfl, cj, aM, au⟩
 refine qs (sr (lv (rv_assign (v := .int .i64 0) rfl) (nq ?_)))
 obtain ⟨ck, cl, cm⟩ := ob bA
 refine wc_cutg (fun E' w' => ∃ aa ab ac ad, E' = [(5, .slice aa ab ac)] ∧ SH w K [] w' ad [tail (.slice aa ab ac) 117 2] ∧ KLe D ad ∧ SliceAt tGTerm ad aa ab ac ck) ?_ ?_
 ·refine wc_block ?_
  obtain ⟨dX, cn, cp⟩ := ob cl
  refine qw (fun (aw : (List GTerm) × Int) E' w' => ∃ ae af ag ah, E' = [(2, pt i), (5, .slice ae af ag), (6, .slice R S T), (10, .int .i64 aw.2)] ∧ SH w K [] w' ah [obj i [.slice A a b, .slice B c d] 26, tail (.slice ae af ag) 117 2, tail (.slice R S T) 117 2] ∧ KLe D ah ∧ SliceAt tGTerm ah ae af ag aw.1 ∧ rng64 aw.2) cn ⟨k, 0, 0, D, rfl, cj, kr, (SliceAt.mono (((O.trans Y).trans C.le).trans aM) aU), (by decide : rng64 0)⟩ ?_
  rintro aw _ dY dZ cq cr ⟨ae, af, ag, ah, rfl, ax, x, aN, ct⟩
  refine wc_seq (sr (mv rfl (mv rfl (lv (rv_len (t := tGTerm) underlying114 rfl (au.mono x)) (lv (rv_lss rfl rfl) (nq (wcc cq rfl (fun cu aO => ?_) (fun cu aO => ?_))))))))
  ·refine wc_skip (qe_seq (wc_block (sr (lv (rv_loadmS (ds := [.slice A a b, .slice B c d]) tf26 rfl m0 ax rfl rfl) (mv rfl (mv rfl ?_))))))
   obtain ⟨d0, cv, cw⟩ := ob aO
   refine lk co126 ((ok_impl_ruleAt F) ax.enter0 (SliceAt.mono (((((J.trans O).trans Y).trans C.le).trans aM).trans x) aj) (SliceAt.mono (((((J.trans O).trans Y).trans C.le).trans aM).trans x) aS) (au.mono x) ct cv) ?_
   rintro d1 d2 ⟨v221, cx, rfl, I, hp222⟩
   have aP := (ax.c0 I).t3
   refine av rfl (nsr (mv rfl (lv (rv_pnil underlying170 rfl rfl hp222) (nq (wcc cw rfl (fun cy aQ => ?_) (fun cy aQ => ?_))))))
   ·refine sr (mv rfl (mv rfl (mv rfl ?_)))
    obtain ⟨y, cz, cA⟩ := ob aQ
    refine li underlying114 tf117 (au.mono (x.trans I.le)) cz fun cB cC d3 cD cE => ?_
    obtain ⟨rfl, cF, cG⟩ := cD
    have cH : AtK _ cB cC [sv y.Text, .int .i64 y.At] := cE
    refine lv (rv_loadS (cs := [sv y.Text, .int .i64 y.At]) tf117 rfl aP cH rfl) (lb tGTerm (.agg #[sv y.Text, .int .i64 y.At]) [sv y.Text, .int .i64 y.At] y underlying114 tf117 ⟨rfl, cF, cG⟩ aP fun d4 d5 d6 a6 cI cJ => ?_)
    obtain ⟨d7, cK, cL⟩ := ob cA
    refine lp underlying114 tf117 (aN.mono (I.le.trans a6)) cI cK cJ.f2 fun cM cN cO d8 cP cQ cR cS => (av rfl (nr (mv rfl (lv (rv_add rfl rfl) (av rfl (nq (wc_exit (qe_then_exit (qe_block_eq ?_)))))))))
    cases oi cL
    exact qd ⟨_, rfl, cM, cN, cO, cP, rfl, cS.f3.f1.f3.s, (((x.trans I.le).trans a6).trans cQ), cR, (w64_rng _)⟩
   refine wc_skip (qs ?_)
   have a7 := aP.drew
   refine wh1 (fun w' => Holds cx w') (fun w' => True) 14 [] mixed (a7.hasK kr) (fun _ => trivial) (gt (rv_move rfl) (gt (rv_move rfl) ?_))
   obtain ⟨ai, cT, cU⟩ := ob aQ
   obtain ⟨cV, cW, d9, rfl, cX, cY⟩ := PtrO.get hp222 cT
   obtain ⟨cZ, c0, c1, rfl, c2, c3⟩ := cX
   have a8 : AtK _ cV cW [.slice cZ c0 c1, sv ai.To] := cY
   refine gt (rv_nilCheck rfl) (gt (rv_fieldAddr ff96_1 rfl) (gh (fun _ h => rh_load1 tf9 rfl (a8 1 _ rfl) h) (gt (rv_move rfl) (gt (rv_move rfl) ?_))))
   obtain ⟨W, c4, c5⟩ := ob cU
   refine gi underlying114 tf117 (au.mono (x.trans I.le)) c4 fun c6 c7 ea c8 c9 => ?_
   obtain ⟨rfl, eb, da⟩ := c8
   have db : AtK _ c6 c7 [sv W.Text, .int .i64 W.At] := c9
   refine gt (rv_fieldAddr ff117_1 rfl) (gh (fun _ h => rh_load1 tf3 rfl (db 1 _ rfl) h) (gt (rv_build (cs := #[sv ai.To, .int .i64 W.At]) sp117 tf117 rfl (by kernel_rfl)) (gn (lb tGTerm (.agg #[sv ai.To, .int .i64 W.At]) [sv ai.To, .int .i64 W.At] (GTerm.mk ai.To W.At) underlying114 tf117 ⟨rfl, c3, da⟩ a7 fun ec ed ee X dc a9 => (wl_nil (qh (a9.hasK X) (fun _ => trivial) (gn ?_)))))))
   obtain ⟨ef, dd, de⟩ := ob c5
   refine lp underlying114 tf117 (aN.mono (I.le.trans X)) dc dd a9.f2 fun df dg dh eg di ay dj aR => (wl_nil (qh (aR.hasK (X.trans ay)) (fun _ => trivial) (gt (rv_assign rfl) (gd' (qe_seq (wc_region (mv rfl (mv rfl (lv (rv_nilCheck rfl) (fa ff96_0 rfl ?_))))))))))
   refine lv (rv_load1 tf23 rfl aR ((AtK.mono (X.trans ay) a8) 0 _ rfl)) (lv (rv_len (t := tStr) underlying23 rfl (c2.mono (X.trans ay))) (lv (rv_add rfl rfl) (av rfl (nb ?_))))
   cases oi de
   exact qd ⟨_, rfl, df, dg, dh, di, rfl, aR.f3.f1.f3.s, (((x.trans I.le).trans X).trans ay), dj, (w64_rng _)⟩
  refine wc_exit (qe_then_exit (qe_then_exit ?_))
  cases oi aO
  cases cr _ rfl
  refine qe_block_eq ?_
  cases oi cp
  exact qd ⟨ae, af, ag, ah, rfl, ax.s, x, aN⟩
 rintro _ eh ⟨aa, ab, ac, ad, rfl, dk, ei, dl⟩
 refine qr (mv rfl (av rfl (nq (wc_ret ?_))))
 cases oi cm
 exact ey results73 ⟨aa, ab, ac, ad, rfl, dk, dl⟩

theorem ok_impl_Seg_put_1 {p0_e : GEntry} {p1_x : Str} {p2_x : GTerm} {r : Bool} (hS : SH w K Z w K [obj c [sv p1_x] 9, obj d [sv p2_x.Text, .int .i64 p2_x.At] 117]) (o : p0_e.Field.length ≤ maxLen) (q : p0_e.Term.length ≤ maxLen) (s : SliceAt tGPost K A a b p0_e.Posts) (x : p1_x.length ≤ maxLen) (y : p2_x.Text.length ≤ maxLen) (B : rng64 p2_x.At) (hm : M.impl_Seg_put_1 F p0_e p1_x p2_x = some r) :
  Calls prog 166 #[.agg #[sv p0_e.Field, sv p0_e.Term, .slice A a b], .pointer (some ⟨c, 0, none⟩), .pointer (some ⟨d, 0, none⟩)] w fun e w' => ∃ K', e = .returned (.bool r) ∧ SH w K Z w' K' [obj c [sv p1_x] 9, obj d [sv p2_x.Text, .int .i64 p2_x.At] 117] := by
 rw [M.impl_Seg_put_1] at hm
 refine ci func166 rfl ntmps166 (sr (bx rfl hS fun l C m => ?_))
 have i : SH _ _ _ _ _ [obj l [sv p0_e.Field, sv p0_e.Term, .slice A a b] 112, _, _] := m
 refine lv (rv_assign (v := .bool false) rfl) (nr (fa ff112_0 rfl (lv (rv_loadm1 tf9 rfl m0 i rfl) (lv (rv_loadm1 tf9 rfl m1 i rfl) (lv (rv_seql rfl rfl) (mv rfl (bt hm (fun f k => ?_) (fun f k => ?_))))))))
 ·refine lg f (rv_fieldAddr ff112_1 rfl) (lg f (rv_loadm1 tf9 rfl m0 i rfl) (lg f (rv_fieldAddr ff117_0 rfl) (lg f (rv_loadm1 tf9 rfl m2 i rfl) (lg f (rv_seql rfl rfl) (lv (rv_pick_t rfl f rfl) (av rfl (nq (wc_ret ?_))))))))
  cases oi k
  exact ey results166 ⟨K, rfl, i.s⟩
 iterate 5 refine lu f ?_
 refine lv (rv_pick_f (v := .bool false) rfl f rfl) (av rfl (nq (wc_ret ?_)))
 cases oi k
 exact ey results166 ⟨K, rfl, i.s⟩

theorem ok_slices_IndexFunc_Entry__impl_Seg_put_1 {p0_s : List GEntry} {p1_f_c0 : Str} {p1_f_c1 : GTerm} {r : Int} (hS : SH w K Z w K [obj c [sv p1_f_c0] 9, obj d [sv p1_f_c1.Text, .int .i64 p1_f_c1.At] 117]) (i : SliceAt tGEntry K A a b p0_s) (O : p1_f_c0.length ≤ maxLen) (R : p1_f_c1.Text.length ≤ maxLen) (S : rng64 p1_f_c1.At) (hm : M.slices_IndexFunc_Entry__impl_Seg_put_1 F p0_s p1_f_c0 p1_f_c1 = some r) :
  Calls prog 165 #[.slice A a b, .func (.func 166) #[] #[.pointer (some ⟨c, 0, none⟩), .pointer (some ⟨d, 0, none⟩)]] w fun e w' => ∃ K', e = .returned (.int .i64 r) ∧ SH w K Z w' K' [obj c [sv p1_f_c0] 9, obj d [sv p1_f_c1.Text, .int .i64 p1_f_c1.At] 117] ∧ rng64 r := by
 rw [M.slices_IndexFunc_Entry__impl_Seg_put_1] at hm
 refine ci func165 rfl ntmps165 (sr (lv (rv_assign (v := .int .i64 0) rfl) (nsr (mv rfl (lv (rv_len (t := tGEntry) underlying44 rfl i) (lv (rv_move (v := .int .i64 0) rfl) (nq ?_)))))))
 obtain ⟨T, U, k⟩ := ob hm
 refine wc_cutg (IE T w K Z K [] [obj c [sv p1_f_c0] 9, obj d [sv p1_f_c1.Text, .int .i64 p1_f_c1.At] 117]) ?_ ?_
 ·refine wc_block ?_
  obtain ⟨aq, V, y⟩ := ob U
  refine qf (fun (B : Nat) (C : Unit) => IV w K Z K [(0, .slice A a b), (1, .func (.func 166) #[] #[pt c, pt d]), (7, .int .i64 (p0_s.length : Int)), (8, .int .i64 ((B : Nat) : Int))] [obj c [sv p1_f_c0] 9, obj d [sv p1_f_c1.Text, .int .i64 p1_f_c1.At] 117]) V ⟨K, rfl, hS, kr⟩ ?_ ?_
  ·rintro B C _ W ar hi28 X Y ⟨D, rfl, l, m⟩
   refine sr (lv (rv_lss rfl rfl) (ns (wc_cond_t rfl (decide_eq_true (by omega)) (wc_skip (qe_seq (wc_seq (wc_block (sr (mv rfl (av rfl (nr (mv rfl ?_))))))))))))
   refine mv rfl (mv rfl ?_)
   obtain ⟨f, aa, ab⟩ := ob X
   refine li underlying44 tf112 (i.mono m) aa fun ac ad au ae af => ?_
   obtain ⟨o, q, s, rfl, ag, ah, ai⟩ := ae
   have aj : AtK _ ac ad [sv f.Field, sv f.Term, .slice o q s] := af
   refine lv (rv_loadS (cs := [sv f.Field, sv f.Term, .slice o q s]) tf112 rfl l aj rfl) ?_
   obtain ⟨aw, ak, al⟩ := ob ab
   have G := l.f1.f1
   refine wl_call wn rfl (rt_callv (vs := [.agg #[sv f.Field, sv f.Term, .slice o q s]]) (cap := #[pt c, pt d]) co166 rfl rfl) ((ok_impl_Seg_put_1 F) G.e2 ag ah ai O R S ak) ?_
   rintro ax ay ⟨H, rfl, I⟩
   refine ⟨_, rfl, ?_⟩
   have J := (G.c2 I).t2
   refine nq (wcc al rfl (fun am x => ?_) (fun am x => ?_))
   ·refine sr (mv rfl (av rfl (nq (wc_ret (qe_block_ret (qe_then_ret (qe_then_ret ?_)))))))
    cases oi x
    cases Y _ rfl
    refine qe_block_ret (qe_then_ret ?_)
    cases oi y
    refine qe_then_ret ?_
    cases oi k
    exact ey results165 ⟨H, rfl, J, (rng_idx hi28 (SliceAt.max i))⟩
   refine wc_skip (qe_block (qg (lv (rv_add_to rfl rfl (w64_succ hi28 (SliceAt.max i))) (mv rfl (wl_nil ?_)))))
   cases oi x
   exact qd ⟨_, rfl, H, rfl, J, (m.trans I.le)⟩
  rintro C _ W an ⟨D, rfl, l, m⟩
  subst an
  refine sr (lv (rv_lss rfl rfl) (ns (wc_cond_f rfl (decide_eq_false (by omega)) (wc_exit (qe_then_exit (qe_then_exit (qe_block_eq ?_)))))))
  cases oi y
  exact qe_mid' ⟨_, D, rfl, rfl, l, m⟩ trivial
 rintro _ az ⟨aA, ao, rfl, rfl, ap, aB⟩
 have k := elim_l k
 refine qr (lv (rv_assign (v := .int .i64 (-1)) rfl) (nq (wc_ret ?_)))
 cases oi k
 exact ey results165 ⟨ao, rfl, ap, (by decide : rng64 (-1))⟩

set_option maxHeartbeats 2000000 in
theorem ok_impl_Seg_put {g : Nat} {a : Option Addr} {n : Nat} {c : Nat} {lay : List ELay} {p0_s : GSeg} {p1_field : Str} {p2_t : GTerm} {p3_id : Int} {r : GSeg} (aJ : SH w K (List.flatMap Item.gs [obj g [.slice A b d, .slice a n c] 46, pack (segItems 112 71 3 a n c lay)]) w K [obj g [.slice A b d, .slice a n c] 46, pack (segItems 112 71 3 a n c lay)]) (aK : SliceAt tGDoc K A b d p0_s.Docs) (U : LayOk lay p0_s.Entries) (ap : p1_field.length ≤ maxLen) (aq : p2_t.Text.length ≤ maxLen) (ag : rng64 p2_t.At) (aL : rng64 p3_id) (hm : M.impl_Seg_put F p0_s p1_field p2_t p3_id = some r) :
  Calls prog 116 #[.pointer (some ⟨g, 0, none⟩), sv p1_field, .agg #[sv p2_t.Text, .int .i64 p2_t.At], .int .i64 p3_id] w fun e w' => ∃ a_1 n_2 c_3 a_4 n_5 c_6 lay_7 K', e = .returned (.tuple #[]) ∧ SH w K (List.flatMap Item.gs [obj g [.slice A b d, .slice a n c] 46, pack (segItems 112 71 3 a n c lay)]) w' K' [obj g [.slice a_1 n_2 c_3, .slice a_4 n_5 c_6] 46, pack (segItems 112 71 3 a_4 n_5 c_6 lay_7)] ∧ SliceAt tGDoc K' a_1 n_2 c_3 r.Docs ∧ LayOk lay_7 r.Entries := by
 rw [M.impl_Seg_put] at hm
 obtain ⟨k, aM, h1⟩ := ob hm
 obtain ⟨es, B, h2⟩ := ob h1
 obtain ⟨en, ar, h3⟩ := ob h2
 obtain ⟨ps, C, h4⟩ := ob h3
 obtain ⟨p, ah, h5⟩ := ob h4
 obtain ⟨at_, V, h6⟩ := ob h5
 cases oi h6
 have aT : SH w K (List.flatMap Item.gs [obj g [.slice A b d, .slice a n c] 46, pack (segItems 112 71 3 a n c lay)]) w K (segTop 112 a n c lay :: ((lay).flatMap (ELay.items 71 3) ++ [obj g [.slice A b d, .slice a n c] 46])) := (aJ.perm (List.Perm.swap _ _ _)).unpack
 have aU : SH w K (List.flatMap Item.gs [obj g [.slice A b d, .slice a n c] 46, pack (segItems 112 71 3 a n c lay)]) w K (obj g [.slice A b d, .slice a n c] 46 :: segTop 112 a n c lay :: (lay).flatMap (ELay.items 71 3)) := aT.perm (by rw [← List.cons_append]; exact List.perm_append_singleton _ _ |>.symm)
 generalize hMM : (List.flatMap Item.gs [obj g [.slice A b d, .slice a n c] 46, pack (segItems 112 71 3 a n c lay)]) = MM at *
 refine ci func116 rfl ntmps116 (sr (bx rfl aU fun i w5 hS3' => ?_))
 have aW : SH w K MM w5 K (obj i [sv p1_field] 9 :: obj g [.slice A b d, .slice a n c] 46 :: segTop 112 a n c lay :: (lay).flatMap (ELay.items 71 3)) := hS3'
 refine bx rfl aW fun f w6 hS4' => ?_
 have au : SH w K MM w6 K (obj f [sv p2_t.Text, .int .i64 p2_t.At] 117 :: obj i [sv p1_field] 9 :: obj g [.slice A b d, .slice a n c] 46 :: segTop 112 a n c lay :: (lay).flatMap (ELay.items 71 3)) := hS4'
 refine nr (mv rfl (lv (rv_nilCheck rfl) (fa ff46_1 rfl (lv (rv_loadm1 tf44 rfl m2 au rfl) (lv (rv_makeFunc (vs := [pt i, pt f]) rfl) ?_)))))
 obtain ⟨gs, hgs⟩ : ∃ gs, gs = (segTop 112 a n c lay :: (lay).flatMap (ELay.items 71 3)).flatMap Item.gs := ⟨_, rfl⟩
 have s : SH w K MM w6 K ([obj i [sv p1_field] 9, obj f [sv p2_t.Text, .int .i64 p2_t.At] 117] ++ (obj g [.slice A b d, .slice a n c] 46 :: segTop 112 a n c lay :: (lay).flatMap (ELay.items 71 3))) := au.perm (List.Perm.swap _ _ _)
 have hnd := s.nodup
 rw [List.flatMap_append, List.nodup_append, List.flatMap_cons] at hnd
 have hg56 : i ∉ gs ∧ f ∉ gs := by
  rw [hgs]
  exact ⟨fun hb => hnd.2.2 i (by simp [obj, Go.Fk.one]) i (List.mem_append_right _ hb) rfl, fun hb => hnd.2.2 f (by simp [obj, Go.Fk.one]) f (List.mem_append_right _ hb) rfl⟩
 have hseg := seg_lent (TE := 112) (TP := 71) (TI := 3) (gs := gs) s (fun it hi => List.mem_append_right _ (List.mem_cons_of_mem _ hi)) (fun it hi b hb => by rw [hgs]; exact List.mem_flatMap.2 ⟨it, hi, hb⟩) U
 have hlnd := s.lend (Kin := seeK K w6 gs) (see_holds s.holds) (fun it hi => by
  rcases List.mem_cons.1 hi with rfl | hi
  ·exact obj_see (s.items _ (List.mem_cons_self ..)) hg56.1
  rcases List.mem_singleton.1 hi with rfl
  exact obj_see (s.items _ (List.mem_cons_of_mem _ (List.mem_cons_self ..))) hg56.2)
 refine lk co165 ((ok_slices_IndexFunc_Entry__impl_Seg_put_1 F) hlnd hseg.1 ap aq ag aM) ?_
 rintro e7 w7 ⟨K7, rfl, hS7', bn⟩
 have aX : SH w K MM w7 K ([obj i [sv p1_field] 9, obj f [sv p2_t.Text, .int .i64 p2_t.At] 117] ++ (obj g [.slice A b d, .slice a n c] 46 :: segTop 112 a n c lay :: (lay).flatMap (ELay.items 71 3))) := s.lent (see_le s.holds) hS7' rfl (fun it hi => by
  rcases List.mem_cons.1 hi with rfl | hi
  ·exact obj_on (hS7'.items _ (List.mem_cons_self ..)) ((see_le s.holds).trans hS7'.le)
  rcases List.mem_singleton.1 hi with rfl
  exact obj_on (hS7'.items _ (List.mem_cons_of_mem _ (List.mem_cons_self ..))) ((see_le s.holds).trans hS7'.le))
 have aj : SH w K MM w7 K (obj f [sv p2_t.Text, .int .i64 p2_t.At] 117 :: obj i [sv p1_field] 9 :: obj g [.slice A b d, .slice a n c] 46 :: segTop 112 a n c lay :: (lay).flatMap (ELay.items 71 3)) := aX.perm (List.Perm.swap _ _ _)
 refine av rfl (nsr (mv rfl (lv (rv_lss rfl rfl) (nq (wc_cutg (fun E' w' => ∃ a2 l m lay2 D, E' = [(0, pt g), (3, .int .i64 p3_id), (6, pt f), (8, .int .i64 (cond (decide (k < 0)) (p0_s.Entries.length : Int) k))] ∧ SH w K MM w' D (obj f [sv p2_t.Text, .int .i64 p2_t.At] 117 :: obj i [sv p1_field] 9 :: obj g [.slice A b d, .slice a2 l m] 46 :: segTop 112 a2 l m lay2 :: (lay2).flatMap (ELay.items 71 3)) ∧ KLe K D ∧ LayOk lay2 es) ?_ ?_)))))
 ·refine wc_cond rfl (fun hb => ?_) (fun hb => ?_)
  ·rw [hb] at B ⊢
   simp only [cond_true] at B ⊢
   refine sr (mv rfl (lv (rv_nilCheck rfl) (fa ff46_1 rfl (lv (rv_loadm1 tf44 rfl m2 aj rfl) (lv (rv_lenRow underlying44 rfl hseg.2) (av rfl (nq ?_)))))))
   have G := aj.drew
   refine wh1 (fun w' => Holds K w' ∧ HasObj i [sv p1_field] w' ∧ HasObj f [sv p2_t.Text, .int .i64 p2_t.At] w') (fun w' => HasObj g [.slice A b d, .slice a n c] w') 13 [(4, 10), (10, 13)] mixed ⟨G.hasK kr, G.hasObj m1, G.hasObj m0⟩ (fun _ => G.hasObj (.tail _ (.tail _ (.head _)))) (gt (rv_move rfl) (gt (rv_move rfl) (gt (rv_nilCheck rfl) (gt (rv_fieldAddr ff46_1 rfl) (gf (fun _ h => rh_loadm1 tf44 rfl rfl h) (gh (fun _ h => rh_loadm1 tf9 rfl rfl h.2.1) (gt (rv_fieldAddr ff117_0 rfl) (gh (fun _ h => rh_loadm1 tf9 rfl rfl h.2.2) (gt (rv_build (cs := #[sv p1_field, sv p2_t.Text, .slice none 0 0]) sp112 tf112 rfl (by kernel_rfl)) ?_)))))))))
   refine gn (wl_buildSlice (t := tRaw 3) (n := 1) (pv := [(0, .agg #[sv p1_field, sv p2_t.Text, .slice none 0 0])]) (cs := [sv p1_field, sv p2_t.Text, .slice none 0 0]) (xs := [([sv p1_field, sv p2_t.Text, .slice none 0 0] : List Value)]) wn rfl underlying44 tf112 rfl rfl rfl (by kernel_rfl) rfl rfl (lit_cons (t := tRaw 3) (u := .agg #[sv p1_field, sv p2_t.Text, .slice none 0 0]) (z := ([sv p1_field, sv p2_t.Text, .slice none 0 0] : List Value)) ⟨rfl, rfl, by simp [Value.oneCell', sv]⟩ lit_nil) G fun a9 w9 K9 W ay hS9' => ?_)
   obtain ⟨b9, o9, rfl⟩ := raw_addr ay
   have aZ := raw_lit ay
   have H := hS9'.drop
   refine wl_nil (qh ⟨H.hasK W, H.hasObj m1, H.hasObj m0⟩ (fun _ => H.hasObj (.tail _ (.tail _ (.head _)))) ?_)
   unfold catL at B
   split at B
   case isFalse => cases B
   rename_i hbd
   cases B
   have hnl : n = p0_s.Entries.length := hseg.2
   have hS9t : SH w K MM w9 K9 (rowI (.slice a n c) (lay.flatMap ELay.cells) 112 3 :: (obj f [sv p2_t.Text, .int .i64 p2_t.At] 117 :: obj i [sv p1_field] 9 :: obj g [.slice A b d, .slice a n c] 46 :: (lay).flatMap (ELay.items 71 3))) := H.perm (List.perm_middle (l₁ := [_, _, _])).symm
   refine gn ?_
   have hcl9 : (lay.flatMap ELay.cells).length = n * 3 := by rw [sg_cells3, ← sg_top_len hS9t (List.mem_cons_self ..)]
   refine wl_appendI wn rfl underlying44 tf112 rfl rfl rfl (by decide) rfl aZ (by simp [Value.oneCell', sv]) hcl9 (by simp at hbd; omega) (by simp at hbd; omega) hS9t fun X Y br I => (wl_nil (qh ⟨I.hasK W, I.hasObj m2, I.hasObj m1⟩ (fun _ => I.hasObj (.tail _ (.tail _ (.tail _ (.head _))))) (gt (rv_nilCheck rfl) (gt (rv_fieldAddr ff46_1 rfl) (gn (ls [.slice A b d, .slice (some ⟨X, 0, none⟩) (n + 1) Y] (.slice (some ⟨X, 0, none⟩) (n + 1) Y) tf44 I.f3 fun a0 aa => (wl_nil (qh ⟨aa.hasK W, aa.hasObj m3, aa.hasObj m2⟩ (fun h => nomatch h) (gd' ?_)))))))))
   have a1 := SH.rowNil aa 71 2
   have a3 : SH w K MM a0 K9 (obj f [sv p2_t.Text, .int .i64 p2_t.At] 117 :: obj i [sv p1_field] 9 :: obj g [.slice A b d, .slice (some ⟨X, 0, none⟩) (n + 1) Y] 46 :: segTop 112 (some ⟨X, 0, none⟩) (n + 1) Y (lay ++ [ELay.mk p1_field p2_t.Text [] none 0 0]) :: ((lay ++ [ELay.mk p1_field p2_t.Text [] none 0 0])).flatMap (ELay.items 71 3)) := by
    have e1 : (lay ++ [ELay.mk p1_field p2_t.Text [] none 0 0]).flatMap ELay.cells = lay.flatMap ELay.cells ++ [sv p1_field, sv p2_t.Text, .slice none 0 0] := by rw [List.flatMap_append]; rfl
    have e2 : ((lay ++ [ELay.mk p1_field p2_t.Text [] none 0 0])).flatMap (ELay.items 71 3) = (lay).flatMap (ELay.items 71 3) ++ [rowI (.slice none 0 0) [] 71 2] := by rw [List.flatMap_append]; rfl
    unfold segTop
    rw [e1, e2]
    exact a1.perm ((show List.Perm ((_ :: _ :: _ :: _ :: (lay).flatMap (ELay.items 71 3)) ++ [_]) _ from List.perm_append_singleton _ _).trans (.cons _ (List.Perm.append_right ((lay).flatMap (ELay.items 71 3)) (List.perm_append_comm (l₁ := [_, _]) (l₂ := [_, _])))))
   refine qe_mid' ⟨_, _, _, _, K9, rfl, a3, W, fun x hx => ?_, ?_⟩ ⟨rfl, rfl, rfl, rfl, trivial⟩
   ·rcases List.mem_append.1 hx with hx | hx
    ·exact U.1 x hx
    rcases List.mem_singleton.1 hx with rfl
    exact ⟨ap, aq, by simp⟩
   rw [List.map_append, U.2]; rfl
  rw [hb] at B ⊢
  simp only [cond_false] at B ⊢
  cases oi B
  exact wc_skip (qd ⟨a, n, c, lay, K, rfl, aj, .refl _, U⟩)
 rintro _ az ⟨a2, l, m, lay2, D, rfl, am, aA, hlay2⟩
 generalize hkk : (cond (decide (k < 0)) (p0_s.Entries.length : Int) k) = kk at *
 obtain ⟨hok2, hes⟩ := hlay2
 obtain ⟨el, aB, hel⟩ := sg_getI_map (hes ▸ ar : getI (lay2.map ELay.x) kk = some en)
 obtain ⟨pre, post, hsplit, hpre, bs⟩ := sg_split aB
 have hn2 := sg_top_len am m3
 have hn2e : l = es.length := by rw [← hes, List.length_map]; exact hn2
 obtain ⟨gE, rfl⟩ := SH.rowI_at am m3 hn2 aB
 obtain ⟨R, hR⟩ : ∃ R, R = ((pre).flatMap (ELay.items 71 3) ++ (post).flatMap (ELay.items 71 3)) := ⟨_, rfl⟩
 have y : SH w K MM az D (obj f [sv p2_t.Text, .int .i64 p2_t.At] 117 :: obj i [sv p1_field] 9 :: obj g [.slice A b d, .slice (some ⟨gE, 0, none⟩) l m] 46 :: segTop 112 (some ⟨gE, 0, none⟩) l m (pre ++ el :: post) :: ELay.row 71 el :: (el.posts.map (PLay.item 3) ++ R)) := by
  rw [hR]
  have J := am
  rw [hsplit] at J
  exact J.perm ((List.Perm.append_left [_, _, _] (seg_focus (TE := 112) (TP := 71) (TI := 3))).symm)
 have helok : el.ok := hok2 el (by rw [hsplit]; simp)
 have hnP : el.n = el.posts.length := sg_row_len y m4
 have hhead := sg_head_at (pre := pre) (post := post) (e := el) (o := kk.toNat * 3 + 2) (by rw [hpre])
 have hpl : el.posts.length ≤ maxLen := rowI_max y m4 hnP
 have henp : en.Posts = el.posts.map PLay.x := by rw [← hel]; rfl
 refine qr (mv rfl (lv (rv_nilCheck rfl) (fa ff46_1 rfl (lv (rv_loadm1 tf44 rfl m2 y rfl) (mv rfl (lv (rv_indexI (t := tGEntry) underlying44 tf112 rfl rfl rfl hn2e ar) (av rfl (nr (mv rfl ?_)))))))))
 refine lv (rv_nilCheck rfl) (fa ff112_2 rfl (lv (rh_loadI1 tf57 rfl rfl hhead rfl (y.hasRow (.tail _ (.tail _ (.tail _ (.head _)))))) (lv (rv_lenRow underlying57 rfl hnP) (lv (rv_sub rfl rfl) (av rfl (ns (wc_seq (wc_cutg (fun E' w' => E' = [(3, .int .i64 p3_id), (6, pt f), (9, .pointer (some ⟨gE, kk.toNat * tGEntry.size, none⟩)), (10, .int .i64 (w64 ((el.posts.length : Int) - 1))), (62, .bool (needPost en.Posts p3_id))] ∧ w' = az) ?_ ?_))))))))
 ·refine wc_region (mv rfl (lv (rv_lss rfl rfl) (mv rfl ?_)))
  rcases List.eq_nil_or_concat el.posts with hnil | ⟨ps0, p0, hcat⟩
  ·have hb : decide (w64 ((el.posts.length : Int) - 1) < 0) = true := by rw [sg_pred hpl, hnil]; rfl
   have hnp : needPost en.Posts p3_id = true := by rw [henp, hnil]; rfl
   rw [hnp]
   iterate 10 refine lu hb ?_
   refine lv (rv_pick_t (v := .bool true) rfl hb rfl) (wl_nil ?_)
   exact qd ⟨rfl, rfl⟩
  rw [List.concat_eq_append] at hcat
  have hlp : el.posts.length = ps0.length + 1 := by rw [hcat]; simp
  have hw : w64 ((el.posts.length : Int) - 1) = (ps0.length : Int) := by rw [sg_pred hpl, hlp]; omega
  have hb : decide (w64 ((el.posts.length : Int) - 1) < 0) = false := by rw [hw]; exact decide_eq_false (by omega)
  have hnp : needPost en.Posts p3_id = !(p0.doc == p3_id) := by rw [henp, hcat, List.map_append]; simp [needPost, PLay.x]
  rw [hnp]
  have hzp : getI en.Posts (w64 ((el.posts.length : Int) - 1)) = some p0.x := by rw [henp, hcat, List.map_append]; exact sg_last (by rw [← hcat, hw]; simp)
  have hnPe : el.n = en.Posts.length := by rw [henp, List.length_map]; exact hnP
  obtain ⟨gP, hgP⟩ := SH.rowI_at y m4 hnPe hzp
  have hdoc : (el.posts.flatMap PLay.cells)[(w64 ((el.posts.length : Int) - 1)).toNat * 2 + 0]? = some (.int .i64 p0.doc) := by rw [hcat]; exact sg_post_at (k := 0) (by rw [← hcat, hw]; simp)
  refine lg hb (rv_move rfl) (lg hb (rv_nilCheck rfl) (lg hb (rv_fieldAddr ff112_2 rfl) (lg hb (rh_loadI1 tf57 rfl rfl hhead rfl (y.hasRow (.tail _ (.tail _ (.tail _ (.head _)))))) (lg hb (rv_move rfl) (lg hb (rv_indexI (t := tGPost) underlying57 tf71 rfl rfl hgP hnPe hzp) (lg hb (rv_fieldAddr ff71_0 rfl) (lg hb (rh_loadI1 tf3 rfl rfl hdoc hgP (y.hasRow (.tail _ (.tail _ (.tail _ (.tail _ (.head _))))))) (lg hb (rv_move rfl) (lg hb (rv_neq rfl rfl) ?_)))))))))
  refine lv (rv_pick_f rfl hb rfl) (wl_nil ?_)
  exact qd ⟨rfl, rfl⟩
 rintro _ _ ⟨rfl, rfl⟩
 refine qe_seq (wc_cutg (fun E' w' => ∃ el2 ps0 pl K3, E' = [(6, pt f), (9, .pointer (some ⟨gE, kk.toNat * tGEntry.size, none⟩)), (10, .int .i64 (ps0.length : Int))] ∧ SH w K MM w' K3 (obj f [sv p2_t.Text, .int .i64 p2_t.At] 117 :: obj i [sv p1_field] 9 :: obj g [.slice A b d, .slice (some ⟨gE, 0, none⟩) l m] 46 :: segTop 112 (some ⟨gE, 0, none⟩) l m (pre ++ el2 :: post) :: ELay.row 71 el2 :: (pl.item 3 :: (ps0.map (PLay.item 3) ++ R))) ∧ KLe K K3 ∧ el2.ok ∧ el2.field = el.field ∧ el2.term = el.term ∧ el2.posts = ps0 ++ [pl] ∧ ps = el2.posts.map PLay.x) ?_ ?_)
 ·refine wc_cond rfl (fun hb => ?_) (fun hb => ?_)
  ·rw [hb] at C
   simp only [cond_true] at C
   refine sr (mv rfl (mv rfl (lv (rv_nilCheck rfl) (fa ff112_2 rfl (lv (rh_loadI1 tf57 rfl rfl hhead rfl (y.hasRow (.tail _ (.tail _ (.tail _ (.head _)))))) (mv rfl (lv (rv_build (cs := #[.int .i64 p3_id, .slice none 0 0]) sp71 tf71 rfl (by kernel_rfl)) (wl_buildSlice (t := tRaw 2) (n := 1) (pv := [(0, .agg #[.int .i64 p3_id, .slice none 0 0])]) (cs := [.int .i64 p3_id, .slice none 0 0]) (xs := [([.int .i64 p3_id, .slice none 0 0] : List Value)]) wn rfl underlying57 tf71 rfl rfl rfl (by kernel_rfl) rfl rfl (lit_cons (t := tRaw 2) (u := .agg #[.int .i64 p3_id, .slice none 0 0]) (z := ([.int .i64 p3_id, .slice none 0 0] : List Value)) ⟨rfl, rfl, by simp [Value.oneCell']⟩ lit_nil) y fun bu bv aC a4 aD hS22' => ?_))))))))
   obtain ⟨bz, bA, rfl⟩ := raw_addr aD
   have a5 := raw_lit aD
   have a6 := hS22'.drop
   unfold catL at C
   split at C
   case isFalse => cases C
   rename_i hbd
   cases C
   have hbd2 : (el.n + 1) * 32 ≤ 140737488355328 := by rw [henp] at hbd; simp at hbd; rw [hnP]; exact hbd
   refine wl_appendI wn rfl underlying57 tf71 rfl rfl rfl (by decide) rfl a5 (by simp [Value.oneCell']) (by rw [sg_cells2, hnP]) (by omega) hbd2 a6.f4 fun aE c24 bB a7 => (lv (rv_nilCheck rfl) (fa ff112_2 rfl (wl_storeC wn tf57 rfl rfl rfl a7.f4 (by have := (List.getElem?_eq_some_iff.1 hhead).1; exact this) ?_)))
   intro a8 ba
   refine nq (wc_region (mv rfl (lv (rv_add rfl rfl) (lv (rv_as rfl (congrArg (Value.int .i64) (sg_back hpl))) (wl_nil ?_)))))
   obtain ⟨el2, hel2⟩ : ∃ el2 : ELay, el2 = ⟨el.field, el.term, el.posts ++ [⟨p3_id, [], none, 0, 0⟩], some ⟨aE, 0, none⟩, el.n + 1, c24⟩ := ⟨_, rfl⟩
   have hset := sg_head_set (pre := pre) (post := post) (e := el) (e' := el2) (o := kk.toNat * 3 + 2) (by rw [hpre]) (by rw [hel2]) (by rw [hel2])
   have bb : SH w K MM a8 aC (rowI (.slice (some ⟨gE, 0, none⟩) l m) ((pre ++ el2 :: post).flatMap ELay.cells) 112 3 :: ELay.row 71 el2 :: obj f [sv p2_t.Text, .int .i64 p2_t.At] 117 :: obj i [sv p1_field] 9 :: obj g [.slice A b d, .slice (some ⟨gE, 0, none⟩) l m] 46 :: (el.posts.map (PLay.item 3) ++ R)) := by
    have e1 : el2.posts.flatMap PLay.cells = el.posts.flatMap PLay.cells ++ [.int .i64 p3_id, .slice none 0 0] := by rw [hel2, List.flatMap_append]; rfl
    have e2 : el2.a = some ⟨aE, 0, none⟩ := by rw [hel2]
    have e3 : el2.n = el.n + 1 := by rw [hel2]
    have e4 : el2.c = c24 := by rw [hel2]
    rw [← hset]
    unfold ELay.row
    rw [e1, e2, e3, e4]
    exact ba
   have bc := SH.rowNil bb 3 1
   refine qe_mid' ⟨el2, el.posts, ⟨p3_id, [], none, 0, 0⟩, aC, rfl, bc.perm ?_, aA.trans a4, ?_, by rw [hel2], by rw [hel2], by rw [hel2], ?_⟩ ⟨rfl, rfl, rfl, trivial⟩
   ·exact (List.Perm.append_left [_, _, _, _, _] (List.Perm.refl _)).trans ((List.perm_middle (l₁ := [_, _, _, _, _])).trans (.cons _ (List.Perm.append_right _ (List.perm_append_comm (l₁ := [_, _, _]) (l₂ := [_, _])))))
   ·rw [hel2]
    refine ⟨helok.1, helok.2.1, fun q hq => ?_⟩
    rcases List.mem_append.1 hq with hq | hq
    ·exact helok.2.2 q hq
    rcases List.mem_singleton.1 hq with rfl
    exact ⟨aL, by simp⟩
   rw [hel2, henp, List.map_append]; rfl
  rw [hb] at C
  simp only [cond_false] at C
  cases oi C
  refine wc_skip ?_
  rcases List.eq_nil_or_concat el.posts with hnil | ⟨ps0, p0, hcat⟩
  ·rw [henp, hnil] at hb; cases hb
  rw [List.concat_eq_append] at hcat
  have hlp : el.posts.length = ps0.length + 1 := by rw [hcat]; simp
  have hw : w64 ((el.posts.length : Int) - 1) = (ps0.length : Int) := by rw [sg_pred hpl, hlp]; omega
  rw [hw]
  refine qe_mid' ⟨el, ps0, p0, D, rfl, ?_, aA, helok, rfl, rfl, hcat, henp⟩ ⟨rfl, rfl, rfl, trivial⟩
  have J := y
  rw [hcat] at J
  exact J.perm (List.Perm.append_left [_, _, _, _, _] (post_focus (TI := 3)).symm)
 rintro _ bC ⟨el2, ps0, pl, K3, rfl, ac, bd, hel2ok, hf2, ht2, hcat2, hps⟩
 refine qe_seq ?_
 have hpx : p = pl.x := by rw [hps, hcat2, List.map_append] at ah; simp at ah; exact ah.symm
 have hn30 : el2.n = el2.posts.length := sg_row_len ac m4
 have be : getI el2.posts (ps0.length : Int) = some pl := by rw [hcat2]; exact sg_last rfl
 obtain ⟨gP, hgP⟩ := SH.rowI_at ac m4 hn30 be
 have hpn : pl.n = pl.at_.length := sg_item_len ac m5
 have hhead2 := sg_head_at (pre := pre) (post := post) (e := el2) (o := kk.toNat * 3 + 2) (by rw [hpre])
 have aF : getI (el2.posts.map PLay.x) (ps0.length : Int) = some pl.x := by rw [hcat2, List.map_append]; exact sg_last (by simp)
 have hn31 : el2.n = (el2.posts.map PLay.x).length := by rw [List.length_map]; exact hn30
 have hat : (el2.posts.flatMap PLay.cells)[(ps0.length : Int).toNat * 2 + 1]? = some (.slice pl.a pl.n pl.c) := by rw [hcat2]; exact sg_post_at (k := 1) (by simp)
 have O := ac.drew
 refine wh1 (fun w' => Holds K3 w' ∧ HasRow (some ⟨gE, 0, none⟩) ((pre ++ el2 :: post).flatMap ELay.cells) w' ∧ HasObj f [sv p2_t.Text, .int .i64 p2_t.At] w') (fun w' => HasRow el2.a (el2.posts.flatMap PLay.cells) w') 19 [(12, 16), (16, 19)] mixed ⟨O.hasK kr, O.hasRow m3, O.hasObj m0⟩ (fun _ => O.hasRow (.tail _ (.tail _ (.tail _ (.tail _ (.head _)))))) (gt (rv_move rfl) (gt (rv_nilCheck rfl) (gt (rv_fieldAddr ff112_2 rfl) (gh (fun _ h => rh_loadI1 tf57 rfl rfl hhead2 rfl h.2.1) (gt (rv_move rfl) (gt (rv_move rfl) (gt (rv_nilCheck rfl) (gt (rv_fieldAddr ff112_2 rfl) (gh (fun _ h => rh_loadI1 tf57 rfl rfl hhead2 rfl h.2.1) ?_)))))))))
 refine gt (rv_move rfl) (gt (rv_indexI (t := tGPost) underlying57 tf71 rfl rfl hgP hn31 aF) (gt (rv_fieldAddr ff71_1 rfl) (gf (fun _ h => rh_loadI1 tf55 rfl rfl hat hgP h) (gt (rv_fieldAddr ff117_1 rfl) (gh (fun _ h => rh_loadm1 tf3 rfl rfl h.2.2) (gn (lb tInt (.int .i64 p2_t.At) [.int .i64 p2_t.At] p2_t.At underlying55 tf3 ⟨rfl, ag⟩ O fun bD bE ad ae aG hS35' => ?_)))))))
 obtain ⟨bF, bG, rfl⟩ := sg_addr aG
 have bf := int_lit aG
 have S := hS35'.drop
 refine wl_nil (qh ⟨S.hasK ae, S.hasRow m3, S.hasObj m0⟩ (fun _ => S.hasRow (.tail _ (.tail _ (.tail _ (.tail _ (.head _)))))) (gn ?_))
 unfold catL at V
 split at V
 case isFalse => cases V
 rename_i hbd
 cases V
 have hbd2 : (pl.n + 1) * 8 ≤ 140737488355328 := by rw [hpx] at hbd; simp [PLay.x] at hbd; rw [hpn]; exact hbd
 refine wl_appendI wn rfl underlying55 tf3 rfl rfl rfl (by decide) rfl bf (by simp [Value.oneCell']) (by rw [List.length_map, hpn, Nat.mul_one]) (by omega) hbd2 S.f5 fun aH c37 bH T => (wl_nil (qh ⟨T.hasK ae, T.hasRow m4, T.hasObj m1⟩ (fun _ => T.hasRow (.tail _ (.tail _ (.tail _ (.tail _ (.tail _ (.head _))))))) (gt (rv_indexI (t := tGPost) underlying57 tf71 rfl rfl hgP hn31 aF) (gt (rv_fieldAddr ff71_1 rfl) (gn ?_)))))
 obtain ⟨fl2, tm2, po2, a2', m2', c2'⟩ := el2
 simp only at hgP hat hcat2 hf2 ht2 hn30
 subst hgP
 refine wl_storeC wn tf55 rfl rfl rfl T.f5 (by have := (List.getElem?_eq_some_iff.1 hat).1; exact this) ?_
 intro ao af
 refine wl_nil (qh ⟨af.hasK ae, af.hasRow m5, af.hasObj m2⟩ (fun h => nomatch h) (gd' ?_))
 subst hR
 subst hcat2
 obtain ⟨pl2, hpl2⟩ : ∃ pl2 : PLay, pl2 = ⟨pl.doc, pl.at_ ++ [p2_t.At], some ⟨aH, 0, none⟩, pl.n + 1, c37⟩ := ⟨_, rfl⟩
 obtain ⟨el3, hel3⟩ : ∃ el3 : ELay, el3 = ⟨fl2, tm2, ps0 ++ [pl2], some ⟨gP, 0, none⟩, m2', c2'⟩ := ⟨_, rfl⟩
 have bg : SH w K MM ao ad (ELay.row 71 el3 :: pl2.item 3 :: obj f [sv p2_t.Text, .int .i64 p2_t.At] 117 :: obj i [sv p1_field] 9 :: obj g [.slice A b d, .slice (some ⟨gE, 0, none⟩) l m] 46 :: segTop 112 (some ⟨gE, 0, none⟩) l m (pre ++ el3 :: post) :: (ps0.map (PLay.item 3) ++ ((pre).flatMap (ELay.items 71 3) ++ (post).flatMap (ELay.items 71 3)))) := by
  have e1 := sg_post_set (ps := ps0) (p := pl) (p' := pl2) (o := (ps0.length : Int).toNat * 2 + 1) (by simp) (by rw [hpl2])
  have e2 : pl2.a = some ⟨aH, 0, none⟩ := by rw [hpl2]
  have e3 : pl2.n = pl.n + 1 := by rw [hpl2]
  have e4 : pl2.c = c37 := by rw [hpl2]
  have e5 : pl2.at_.map intC = pl.at_.map intC ++ [.int .i64 p2_t.At] := by rw [hpl2, List.map_append]; rfl
  have e6 : (pre ++ el3 :: post).flatMap ELay.cells = (pre ++ ⟨fl2, tm2, ps0 ++ [pl], some ⟨gP, 0, none⟩, m2', c2'⟩ :: post).flatMap ELay.cells := by rw [hel3, List.flatMap_append, List.flatMap_append, List.flatMap_cons, List.flatMap_cons]; rfl
  have e7 : ELay.row 71 el3 = rowI (.slice (some ⟨gP, 0, none⟩) m2' c2') ((ps0 ++ [pl2]).flatMap PLay.cells) 71 2 := by rw [hel3]; rfl
  rw [e7, ← e1]
  unfold segTop
  rw [e6]
  show SH w K MM ao ad (_ :: rowI (.slice pl2.a pl2.n pl2.c) (pl2.at_.map intC) 3 1 :: _)
  rw [e2, e3, e4, e5]
  exact af
 have bj := bg.sublist (.cons_cons _ (.cons_cons _ (.cons _ (.cons _ (List.Sublist.refl _)))))
 have hpo3 : el3.posts = ps0 ++ [pl2] := by rw [hel3]
 have bk : SH w K MM ao ad (segItems 112 71 3 (some ⟨gE, 0, none⟩) l m (pre ++ el3 :: post) ++ [obj g [.slice A b d, .slice (some ⟨gE, 0, none⟩) l m] 46]) := by
  refine bj.perm ((List.perm_append_singleton _ _).trans ((List.Perm.cons _ (seg_focus (TE := 112) (TP := 71) (TI := 3))).trans ?_))
  rw [hpo3]
  exact (List.Perm.append_left [_, _, _] (post_focus (TI := 3))).trans (List.Perm.append_right _ (List.perm_append_comm (l₁ := [_, _]) (l₂ := [_, _])))
 have bl := bk.packUp.perm (List.Perm.swap _ _ _)
 refine qe_ret_normal (qe_ret (vs := []) results116 trivial ⟨A, b, d, some ⟨gE, 0, none⟩, l, m, pre ++ el3 :: post, ad, rfl, bl, aK.mono (bd.trans ae), ?_, ?_⟩)
 ·intro x hx
  rw [hsplit] at hok2
  rcases List.mem_append.1 hx with hx | hx
  ·exact hok2 x (List.mem_append_left _ hx)
  rcases List.mem_cons.1 hx with rfl | hx
  ·rw [hel3, hpl2]
   refine ⟨hel2ok.1, hel2ok.2.1, fun q hq => ?_⟩
   rcases List.mem_append.1 hq with hq | hq
   ·exact hel2ok.2.2 q (List.mem_append_left _ hq)
   rcases List.mem_singleton.1 hq with rfl
   have h8 := hel2ok.2.2 pl (List.mem_append_right _ (List.mem_singleton.2 rfl))
   refine ⟨h8.1, fun z hz => ?_⟩
   rcases List.mem_append.1 hz with hz | hz
   ·exact h8.2 z hz
   rcases List.mem_singleton.1 hz with rfl
   exact ag
  exact hok2 x (List.mem_append_right _ (List.mem_cons_of_mem _ hx))
 show _ = es.set kk.toNat _
 rw [← hes, hsplit, List.map_append, List.map_cons, List.map_append, List.map_cons, List.set_append_right _ _ (by rw [List.length_map, hpre]; exact Nat.le_refl _), List.length_map, hpre, Nat.sub_self, List.set_cons_zero]
 have e1 : el3.x = GEntry.mk en.Field en.Term (ps.dropLast ++ [GPost.mk p.Doc (p.At ++ [p2_t.At])]) := by
  rw [hel3, hps, hpx, hpl2, ← hel]
  simp [ELay.x, PLay.x, hf2, ht2]
 rw [e1]
end Go.Proofs.YtmkhlppjphodfaaGreatDoor
