/-
 Walks of the functions. Printed by gen.py.
-/
import Derived.Test.YtmkhlppjphodfaaGreatDoorWalkA0
import Derived.Test.YtmkhlppjphodfaaGreatDoorWalkA1
import Derived.Test.YtmkhlppjphodfaaGreatDoorWalkA2
import Derived.Test.YtmkhlppjphodfaaGreatDoorWalkA3
import Derived.Test.YtmkhlppjphodfaaGreatDoorWalkA4
import Derived.Test.YtmkhlppjphodfaaGreatDoorWalkA5
set_option linter.unusedVariables false
set_option linter.unusedSectionVars false
set_option maxRecDepth 100000
namespace Go.Proofs.YtmkhlppjphodfaaGreatDoor
open Go Go.Fk Go.RowKit Tryz
variable (F : Nat) {w : World} {K : KMap} {Z : List Nat} {g1 g2 g3 : Nat} {A B C D G H I J O R S T : Option Addr} {a b c d f i k l m n o p q s v x y aa ab ac ad ae af ag : Nat}
variable [dr : Dr]

set_option maxHeartbeats 2000000 in
theorem ok_slices_BinarySearch_int {p0_x : List Int} {p1_target : Int} {r : Int × Bool} (hS : SH w K [] w K []) (k : SliceAt tInt K A a b p0_x) (J : rng64 p1_target) (hm : M.slices_BinarySearch_int F p0_x p1_target = some r) :
  Calls prog 259 #[.slice A a b, .int .i64 p1_target] w fun e w' => ∃ K', e = .returned (.tuple #[.int .i64 r.1, .bool r.2]) ∧ SH w K [] w' K' [] ∧ rng64 r.1 := by
 rw [M.slices_BinarySearch_int] at hm
 refine ci func259 rfl ntmps259 (sr (lv (rv_assign (v := .int .i64 0) rfl) (lv (rv_assign (v := .bool false) rfl) (nr (mv rfl (lv (rv_len (t := tInt) underlying55 rfl k) (av rfl (nr (mv rfl ?_)))))))))
 refine lv (rv_assign (v := .int .i64 0) rfl) (av rfl (ns ?_))
 obtain ⟨O, X, Y⟩ := ob hm
 refine wc_cutg (IW w K [] K [(0, .slice A a b), (1, .int .i64 p1_target), (6, .int .i64 (p0_x.length : Int)), (7, .int .i64 O)] [] (rng64 O)) ?_ ?_
 ·refine wc_block ?_
  obtain ⟨aX, aa, ab⟩ := ob X
  refine qw (fun (l : Int × Int) => IW w K [] K [(0, .slice A a b), (1, .int .i64 p1_target), (6, .int .i64 (p0_x.length : Int)), (7, .int .i64 l.1), (8, .int .i64 l.2)] [] (rng64 l.1 ∧ rng64 l.2)) aa ⟨K, rfl, hS, kr, (by decide : rng64 0), k.rn⟩ ?_
  rintro l _ aY aZ ac ad ⟨ae, rfl, m, o, R, af⟩
  refine wc_seq (sr (mv rfl (mv rfl (lv (rv_lss rfl rfl) (nq (wcc ac rfl (fun ag s => ?_) (fun ag s => ?_)))))))
  ·refine wc_skip (qe_seq (wc_block (sr (mv rfl (mv rfl (lv (rv_add rfl rfl) ?_))))))
   obtain ⟨a0, x, ah⟩ := ob s
   refine lv (rv_i2u underlying3 underlying200 rfl (w64_rng _) x) ?_
   obtain ⟨a1, y, ai⟩ := ob ah
   refine lv (rv_shrU rfl rfl y) (lv (rv_u2i underlying200 underlying3 rfl (rng_shr (nnI_rng (w64_rng _) x).2.2 y)) (av rfl (nr (mv rfl (mv rfl ?_)))))
   obtain ⟨aj, ak, al⟩ := ob ai
   refine li underlying55 tf3 (k.mono o) ak fun am an a2 ao ap => ?_
   obtain ⟨rfl, aq⟩ := ao
   have ar : AtK _ am an [.int .i64 aj] := ap
   refine lv (rv_load1 tf3 rfl m (ar 0 _ rfl)) (mv rfl ?_)
   obtain ⟨a3, au, aw⟩ := ob al
   refine lk co269 ((ok_cmp_Less_int F) m.enter0 aq J au) ?_
   rintro a4 a5 ⟨S, rfl, B⟩
   have T := (m.c0 B).t0
   refine nq (wcc aw rfl (fun ax C => ?_) (fun ax C => ?_))
   ·refine wc_region (mv rfl (lv (rv_add rfl rfl) (av rfl (nb ?_))))
    cases oi C
    exact qd ⟨_, rfl, S, rfl, T, (o.trans B.le), (w64_rng _), af⟩
   refine wc_region (mv rfl (av rfl (nb ?_)))
   cases oi C
   exact qd ⟨_, rfl, S, rfl, T, (o.trans B.le), R, (rng_shr (nnI_rng (w64_rng _) x).2.2 y)⟩
  refine wc_exit (qe_then_exit (qe_then_exit ?_))
  cases oi s
  cases ad _ rfl
  refine qe_block_eq ?_
  cases oi ab
  exact qd ⟨ae, rfl, m, o, R⟩
 rintro _ a6 ⟨U, rfl, i, V, q⟩
 refine qr (mv rfl (mv rfl (mv rfl (lv (rv_lss rfl rfl) (mv rfl (bt Y (fun c D => ?_) (fun c D => ?_)))))))
 ·refine lg c (rv_move rfl) (lg c (rv_move rfl) ?_)
  obtain ⟨ay, az, aA⟩ := ob D
  refine wl_indexAddr (t := tInt) (wg rfl rfl c) rfl underlying55 tf3 rfl rfl (k.mono V) az fun aB aC a7 aD aE => ?_
  obtain ⟨rfl, a8⟩ := aD
  have aF : AtK _ aB aC [.int .i64 ay] := aE
  refine lg c (rv_load1 tf3 rfl i (aF 0 _ rfl)) (lg c (rv_move rfl) (lg c (rv_eql rfl rfl) (lg c (rv_move rfl) (bt aA (fun d G => ?_) (fun d G => ?_)))))
  ·iterate 6 refine lu d ?_
   refine wl_un (uu rfl rfl) rfl (wl_un (uu rfl rfl) rfl (lu d (lg c (rv_pick_t (v := .bool true) rfl d rfl) (lv (rv_pick_t rfl c rfl) (av rfl (av rfl (nq (wc_ret ?_))))))))
   cases oi G
   exact qe_ret (vs := [_, _]) results259 ⟨rfl, rfl, trivial⟩ ⟨U, rfl, i, q⟩
  refine lg d (rv_move rfl) (lg d (rv_move rfl) ?_)
  obtain ⟨W, aG, aH⟩ := ob G
  refine wl_indexAddr (t := tInt) (wg rfl rfl d) rfl underlying55 tf3 rfl rfl (k.mono V) aG fun aI aJ a9 aK aL => ?_
  obtain ⟨rfl, aM⟩ := aK
  have aN : AtK _ aI aJ [.int .i64 W] := aL
  refine lg d (rv_load1 tf3 rfl i (aN 0 _ rfl)) ?_
  obtain ⟨ba, aO, aP⟩ := ob aH
  refine wl_call (wg rfl rfl d) rfl (rt_call (vs := [.int .i64 W]) co270 rfl) ((ok_slices_isNaN_int F) i.enter0 aM aO) ?_
  rintro bb bc ⟨aQ, rfl, aR⟩
  refine ⟨_, rfl, ?_⟩
  have H := (i.c0 aR).t0
  refine lg d (rv_move rfl) (bt aP (fun f I => ?_) (fun f I => ?_))
  ·refine lg f (rv_move rfl) ?_
   obtain ⟨bd, aS, aT⟩ := ob I
   refine wl_call (wg rfl rfl f) rfl (rt_call (vs := [.int .i64 p1_target]) co270 rfl) ((ok_slices_isNaN_int F) H.enter0 J aS) ?_
   rintro be bf ⟨aU, rfl, aV⟩
   refine ⟨_, rfl, ?_⟩
   have aW := (H.c0 aV).t0
   refine lg d (rv_pick_t rfl f rfl) (lg c (rv_pick_f rfl d rfl) (lv (rv_pick_t rfl c rfl) (av rfl (av rfl (nq (wc_ret ?_))))))
   cases oi aT
   exact qe_ret (vs := [_, _]) results259 ⟨rfl, rfl, trivial⟩ ⟨aU, rfl, aW, q⟩
  refine lu f (lu f (lg d (rv_pick_f (v := .bool false) rfl f rfl) (lg c (rv_pick_f rfl d rfl) (lv (rv_pick_t rfl c rfl) (av rfl (av rfl (nq (wc_ret ?_))))))))
  cases oi I
  exact qe_ret (vs := [_, _]) results259 ⟨rfl, rfl, trivial⟩ ⟨aQ, rfl, H, q⟩
 iterate 7 refine lu c ?_
 refine wl_un (uu rfl rfl) rfl (wl_un (uu rfl rfl) rfl (wl_un (uu rfl rfl) rfl (wl_un (uu rfl rfl) rfl (wl_un (uu rfl rfl) rfl (wl_un (uu rfl rfl) rfl (wl_un (uu rfl rfl) rfl (wl_un (uu rfl rfl) rfl (wl_un (uu rfl rfl) rfl (lu c ?_)))))))))
 refine lv (rv_pick_f (v := .bool false) rfl c rfl) (av rfl (av rfl (nq (wc_ret ?_))))
 cases oi D
 exact qe_ret (vs := [_, _]) results259 ⟨rfl, rfl, trivial⟩ ⟨U, rfl, i, q⟩

theorem ok_impl_next {p0_list : List Int} {p1_n : Int} {r : Int × Bool} (hS : SH w K [] w K []) (c : SliceAt tInt K A a b p0_list) (l : rng64 p1_n) (hm : M.impl_next F p0_list p1_n = some r) :
  Calls prog 228 #[.slice A a b, .int .i64 p1_n] w fun e w' => ∃ K', e = .returned (.tuple #[.int .i64 r.1, .bool r.2]) ∧ SH w K [] w' K' [] ∧ rng64 r.1 := by
 rw [M.impl_next] at hm
 refine ci func228 rfl ntmps228 (sr (lv (rv_assign (v := .int .i64 0) rfl) (lv (rv_assign (v := .bool false) rfl) (nr (mv rfl (mv rfl ?_))))))
 obtain ⟨J, m, o⟩ := ob hm
 refine lk co259 ((ok_slices_BinarySearch_int F) hS.enter0 c l m) ?_
 rintro O R ⟨k, rfl, d, S⟩
 have f := (hS.c0 d).t0
 refine mv rfl (lv (rv_extract rfl rfl) (lv (rv_extract rfl rfl) (av rfl (av rfl (nsr (mv rfl (mv rfl (lv (rv_len (t := tInt) underlying55 rfl (c.mono d.le)) (lv (rv_eql rfl rfl) ?_)))))))))
 refine nq (wcc o rfl (fun q i => ?_) (fun q i => ?_))
 ·refine sr (lv (rv_assign (v := .int .i64 0) rfl) (lv (rv_assign (v := .bool false) rfl) (nq (rr ?_))))
  cases oi i
  exact qe_ret (vs := [_, _]) results228 ⟨rfl, rfl, trivial⟩ ⟨k, rfl, f, (by decide : rng64 0)⟩
 refine wc_skip (qr (mv rfl (mv rfl ?_)))
 obtain ⟨s, x, y⟩ := ob i
 refine li underlying55 tf3 (c.mono d.le) x fun B C T D G => ?_
 obtain ⟨rfl, H⟩ := D
 have I : AtK _ B C [.int .i64 s] := G
 refine lv (rv_load1 tf3 rfl f (I 0 _ rfl)) (av rfl (lv (rv_assign (v := .bool true) rfl) (nq (wc_ret ?_))))
 cases oi y
 exact qe_ret (vs := [_, _]) results228 ⟨rfl, rfl, trivial⟩ ⟨k, rfl, f, H⟩

set_option maxHeartbeats 2000000 in
theorem ok_impl_PhraseOf {p0_lists : List (List Int)} {p1_slop : Int} {r : (List Int)} (hS : SH w K [] w K []) (T : SliceAt (tSlice tInt) K A a b p0_lists) (aJ : rng64 p1_slop) (hm : M.impl_PhraseOf F p0_lists p1_slop = some r) :
  Calls prog 179 #[.slice A a b, .int .i64 p1_slop] w fun e w' => ∃ a_1 n_2 c_3 K', e = .returned (.slice a_1 n_2 c_3) ∧ SH w K [] w' K' [tail (.slice a_1 n_2 c_3) 3 1] ∧ SliceAt tInt K' a_1 n_2 c_3 r := by
 rw [M.impl_PhraseOf] at hm
 refine ci func179 rfl ntmps179 (sr (lv (rv_assign (v := .slice none 0 0) rfl) (nr (b0 tInt underlying55 tf3 hS fun U w7 K8 V ar au => (av rfl (ns (wc_seq ?_)))))))
 obtain ⟨aL, aM, aN⟩ := ob hm
 refine wc_cutg (IV w K [] K8 [(0, .slice A a b), (1, .int .i64 p1_slop), (5, .slice U 0 0), (22, .bool aL)] [tail (.slice U 0 0) 3 1]) ?_ ?_
 ·refine wc_region (mv rfl ?_)
  obtain ⟨ca, aO, aP⟩ := ob aM
  refine lk co227 ((ok_impl_placesOk F) au.enter0 (T.mono V) aO) ?_
  rintro cb cc ⟨aQ, rfl, ad⟩
  have ae := (au.c0 ad).t1
  refine lv (rv_not rfl) (mv rfl (bt aP (fun k af => ?_) (fun k af => ?_)))
  ·refine lu k (lu k (lu k (lv (rv_pick_t (v := .bool true) rfl k rfl) (wl_nil ?_))))
   cases oi af
   exact qd ⟨aQ, rfl, ae, ad.le⟩
  refine lg k (rv_move rfl) ?_
  obtain ⟨cd, aR, aS⟩ := ob af
  refine wl_call (wg rfl rfl k) rfl (rt_call (vs := [.int .i64 p1_slop, .int .i64 0, .int .i64 5]) co58 rfl) ((ok_impl_within F) ae.enter0 aJ (by decide : rng64 0) (by decide : rng64 5) aR) ?_
  rintro ce cf ⟨aT, rfl, aw⟩
  refine ⟨_, rfl, ?_⟩
  have aU := (ae.c0 aw).t1
  refine lg k (rv_not rfl) (lv (rv_pick_f rfl k rfl) (wl_nil ?_))
  cases oi aS
  exact qd ⟨aT, rfl, aU, (ad.le.trans aw.le)⟩
 rintro _ cg ⟨W, rfl, ag, B⟩
 refine qe_seq (wcc aN rfl (fun aV ah => ?_) (fun aV ah => ?_))
 ·refine sr (mv rfl (av rfl (nq (rr ?_))))
  cases oi ah
  exact ey results179 ⟨U, 0, 0, W, rfl, ag, (ar.mono B)⟩
 refine wc_skip (qs (sr (mv rfl ?_)))
 obtain ⟨C, aW, aX⟩ := ob ah
 refine li underlying211 tf55 (T.mono (V.trans B)) aW fun aY aZ ch a0 a1 => ?_
 obtain ⟨q, s, x, rfl, X⟩ := a0
 have a2 : AtK _ aY aZ [.slice q s x] := a1
 refine lv (rv_load1 tf55 rfl ag (a2 0 _ rfl)) (lv (rv_len (t := tInt) underlying55 rfl X) (lv (rv_move (v := .int .i64 0) rfl) (nq ?_)))
 obtain ⟨a3, a4, a5⟩ := ob aX
 refine wc_cutg (fun E' w' => ∃ D G H I, E' = [(5, .slice D G H)] ∧ SH w K [] w' I [tail (.slice D G H) 3 1] ∧ KLe W I ∧ SliceAt tInt I D G H a3) ?_ ?_
 ·refine wc_block ?_
  obtain ⟨cj, a7, a8⟩ := ob a4
  refine qF (fun (y : Nat) (ai : (List Int)) E' w' => ∃ c d f l, E' = [(0, .slice A a b), (1, .int .i64 p1_slop), (5, .slice c d f), (26, .slice q s x), (27, .int .i64 (C.length : Int)), (28, .int .i64 ((y : Nat) : Int))] ∧ SH w K [] w' l [tail (.slice c d f) 3 1] ∧ KLe W l ∧ SliceAt tInt l c d f ai) a7 ⟨U, 0, 0, W, rfl, ag, kr, (ar.mono B)⟩ ?_ ?_
  ·rintro y ai _ a9 ck hi77 ba ⟨c, d, f, l, rfl, Y, o, aa⟩
   refine sr (lv (rv_lss rfl rfl) (ns (wc_cond_t rfl (decide_eq_true (by omega)) (wc_skip (qe_seq (wc_seq (wc_block (sr ?_))))))))
   obtain ⟨m, bb, bc⟩ := ob ba
   refine li underlying55 tf3 (X.mono o) bb fun bd be cl bf bg => ?_
   obtain ⟨rfl, ax⟩ := bf
   have bh : AtK _ bd be [.int .i64 m] := bg
   refine lv (rv_load1 tf3 rfl Y (bh 0 _ rfl)) (av rfl (nr (mv rfl (av rfl (lv (rv_assign (v := .bool true) rfl) (nsr (mv rfl ?_)))))))
   obtain ⟨ay, bi, bj⟩ := ob bc
   refine wl_sl_l (t := (tSlice tInt)) wn rfl underlying211 tf55 rfl rfl (T.mono ((V.trans B).trans o)) bi fun az aA aB aj => (lv (rv_len (t := (tSlice tInt)) underlying211 rfl aj) (lv (rv_move (v := .int .i64 0) rfl) (nq ?_)))
   obtain ⟨ak, bk, bl⟩ := ob bj
   refine wc_cutg (IW w K [] l [(0, .slice A a b), (1, .int .i64 p1_slop), (5, .slice c d f), (7, .int .i64 m), (8, .int .i64 ak.1), (9, .bool ak.2), (26, .slice q s x), (27, .int .i64 (C.length : Int)), (28, .int .i64 ((y : Nat) : Int))] [tail (.slice c d f) 3 1] (rng64 ak.1)) ?_ ?_
   ·refine wc_block ?_
    obtain ⟨cm, bm, bn⟩ := ob bk
    refine qF (fun (al : Nat) (J : Int × Bool) => IW w K [] l [(0, .slice A a b), (1, .int .i64 p1_slop), (5, .slice c d f), (7, .int .i64 m), (8, .int .i64 J.1), (9, .bool J.2), (26, .slice q s x), (27, .int .i64 (C.length : Int)), (28, .int .i64 ((y : Nat) : Int)), (34, .slice az aA aB), (35, .int .i64 (ay.length : Int)), (36, .int .i64 ((al : Nat) : Int))] [tail (.slice c d f) 3 1] (rng64 J.1)) bm ⟨l, rfl, Y, kr, ax⟩ ?_ ?_
    ·rintro al J _ bo cn hi116 bp ⟨aC, rfl, O, ab, aD⟩
     refine sr (lv (rv_lss rfl rfl) (ns (wc_cond_t rfl (decide_eq_true (by omega)) (wc_skip (qe_seq (wc_seq (wc_block (sr ?_))))))))
     obtain ⟨cp, bq, br⟩ := ob bp
     refine li underlying211 tf55 (aj.mono ab) bq fun bs bu cq bv bx => ?_
     obtain ⟨bz, bA, bB, rfl, bC⟩ := bv
     have bD : AtK _ bs bu [.slice bz bA bB] := bx
     refine lv (rv_load1 tf55 rfl O (bD 0 _ rfl)) (av rfl (nr (mv rfl (mv rfl (lv (rv_add rfl rfl) ?_)))))
     obtain ⟨bE, bF, bG⟩ := ob br
     refine lk co228 ((ok_impl_next F) O.enter0 bC (w64_rng _) bF) ?_
     rintro cr cs ⟨am, rfl, aE, bH⟩
     have aF := (O.c0 aE).t1
     refine mv rfl (lv (rv_extract rfl rfl) (lv (rv_extract rfl rfl) (av rfl (av rfl (ns ?_)))))
     obtain ⟨bI, bJ, bK⟩ := ob bG
     refine wc_cutg (IV w K [] am [(0, .slice A a b), (1, .int .i64 p1_slop), (5, .slice c d f), (7, .int .i64 m), (9, .bool bI), (12, .int .i64 bE.1), (26, .slice q s x), (27, .int .i64 (C.length : Int)), (28, .int .i64 ((y : Nat) : Int)), (34, .slice az aA aB), (35, .int .i64 (ay.length : Int)), (36, .int .i64 ((al : Nat) : Int))] [tail (.slice c d f) 3 1]) ?_ ?_
     ·refine wc_region (mv rfl (mv rfl (bt bJ (fun R an => ?_) (fun R an => ?_))))
      ·refine lg R (rv_move rfl) (lv (rv_pick_t rfl R rfl) (av rfl (wl_nil ?_)))
       cases oi an
       exact qd ⟨am, rfl, aF, kr⟩
      refine lu R (lv (rv_pick_f (v := .bool false) rfl R rfl) (av rfl (wl_nil ?_)))
      cases oi an
      exact qd ⟨am, rfl, aF, kr⟩
     rintro _ ct ⟨bL, rfl, bM, bN⟩
     refine qe_seq (wc_region (mv rfl (av rfl (nb (qg (lv (rv_add_to rfl rfl (w64_succ hi116 (SliceAt.max aj))) (mv rfl (wl_nil ?_))))))))
     cases oi bK
     exact qd ⟨bL, rfl, bM, ((ab.trans aE.le).trans bN), bH⟩
    rintro J _ bo bO ⟨aC, rfl, O, ab, aD⟩
    subst bO
    refine sr (lv (rv_lss rfl rfl) (ns (wc_cond_f rfl (decide_eq_false (by omega)) (wc_exit (qe_then_exit (qe_then_exit (qe_block_eq ?_)))))))
    cases oi bn
    exact qd ⟨aC, rfl, O, ab, aD⟩
   rintro _ cu ⟨ao, rfl, aG, S, cv⟩
   refine qs ?_
   obtain ⟨bP, bQ, bR⟩ := ob bl
   refine wc_cutg (IV w K [] ao [(0, .slice A a b), (1, .int .i64 p1_slop), (5, .slice c d f), (7, .int .i64 m), (26, .slice q s x), (27, .int .i64 (C.length : Int)), (28, .int .i64 ((y : Nat) : Int)), (64, .bool bP)] [tail (.slice c d f) 3 1]) ?_ ?_
   ·refine wc_region (mv rfl (mv rfl (bt bQ (fun i ap => ?_) (fun i ap => ?_))))
    ·refine lg i (rv_move rfl) (lg i (rv_move rfl) (lg i (rv_move rfl) (lg i (rv_len (t := (tSlice tInt)) underlying211 rfl (SliceAt.mono (((V.trans B).trans o).trans S) T)) (lg i (rv_add rfl rfl) (lg i (rv_sub rfl rfl) (lg i (rv_move rfl) (lg i (rv_add rfl rfl) (lg i (rv_leq rfl rfl) (lv (rv_pick_t rfl i rfl) ?_)))))))))
     refine wl_nil ?_
     cases oi ap
     exact qd ⟨ao, rfl, aG, kr⟩
    iterate 9 refine lu i ?_
    refine lv (rv_pick_f (v := .bool false) rfl i rfl) (wl_nil ?_)
    cases oi ap
    exact qd ⟨ao, rfl, aG, kr⟩
   rintro _ cw ⟨bS, rfl, aH, ac⟩
   refine qe_seq (wcc bR rfl (fun bT aq => ?_) (fun bT aq => ?_))
   ·refine wc_region (mv rfl (mv rfl (lb tInt (.int .i64 m) [.int .i64 m] m underlying55 tf3 ⟨rfl, ax⟩ aH fun cx cy cz aI bU bV => ?_)))
    obtain ⟨cA, bW, bX⟩ := ob aq
    refine lp underlying55 tf3 (aa.mono ((S.trans ac).trans aI)) bU bW bV.f1 fun bY bZ b1 cB b2 b3 b4 b5 => (av rfl (nb (qg (lv (rv_add_to rfl rfl (w64_succ hi77 (SliceAt.max X))) (mv rfl (wl_nil ?_))))))
    cases oi bX
    exact qd ⟨bY, bZ, b1, b2, rfl, b5.s, ((((o.trans S).trans ac).trans aI).trans b3), b4⟩
   refine wc_skip (qe_block (qg (lv (rv_add_to rfl rfl (w64_succ hi77 (SliceAt.max X))) (mv rfl (wl_nil ?_)))))
   cases oi aq
   exact qd ⟨c, d, f, bS, rfl, aH, ((o.trans S).trans ac), (aa.mono (S.trans ac))⟩
  rintro ai _ a9 b6 ⟨c, d, f, l, rfl, Y, o, aa⟩
  subst b6
  refine sr (lv (rv_lss rfl rfl) (ns (wc_cond_f rfl (decide_eq_false (by omega)) (wc_exit (qe_then_exit (qe_then_exit (qe_block_eq ?_)))))))
  cases oi a8
  exact qd ⟨c, d, f, l, rfl, Y, o, aa⟩
 rintro _ cC ⟨D, G, H, I, rfl, b7, cD, b8⟩
 refine qr (mv rfl (av rfl (nq (wc_ret ?_))))
 cases oi a5
 exact ey results179 ⟨D, G, H, I, rfl, b7, b8⟩

set_option maxHeartbeats 2000000 in
theorem ok_impl_scorer_phrase {p0_x : GScorer} {p1_q : GQuery} {p2_d : GDoc} {r : Int} (hS : SH w K Z w K [obj g1 [.slice A a b, .slice B c d, .slice C f i, .slice D k l] 123]) (aQ : SliceAt tStr K A a b p0_x.c_.Stops) (aR : SliceAt tGSyn K B c d p0_x.c_.Syns) (a2 : SliceAt tGDoc K C f i p0_x.s_.Docs) (a3 : SliceAt tGEntry K D k l p0_x.s_.Entries) (cZ : rng64 p1_q.Kind) (a4 : p1_q.Field.length ≤ maxLen) (bf : SliceAt tStr K G m n p1_q.Words) (bg : rng64 p1_q.From) (c0 : rng64 p1_q.To) (c1 : SliceAt tkGQuery K H o p p1_q.Kids) (a5 : rng64 p2_d.Id) (c2 : SliceAt tGField K I q s p2_d.Fields) (c3 : SliceAt tGAttr K J v x p2_d.Nums) (hD : ¬ dr.D) (hm : M.impl_scorer_phrase F p0_x p1_q p2_d = some r) :
  Calls prog 130 #[.pointer (some ⟨g1, 0, none⟩), .agg #[.int .i64 p1_q.Kind, sv p1_q.Field, .slice G m n, .int .i64 p1_q.From, .int .i64 p1_q.To, .slice H o p], .agg #[.int .i64 p2_d.Id, .slice I q s, .slice J v x]] w fun e w' => ∃ K', e = .returned (.int .i64 r) ∧ SH w K Z w' K' [obj g1 [.slice A a b, .slice B c d, .slice C f i, .slice D k l] 123] ∧ rng64 r := by
 rw [M.impl_scorer_phrase] at hm
 refine ci func130 rfl ntmps130 (sr (bx rfl hS fun U c4 bh => ?_))
 have bi : SH _ _ _ _ _ [obj U [.int .i64 p1_q.Kind, sv p1_q.Field, .slice G m n, .int .i64 p1_q.From, .int .i64 p1_q.To, .slice H o p] 42, _] := bh
 refine bx rfl bi fun ac c5 bj => ?_
 have bk : SH _ _ _ _ _ [obj ac [.int .i64 p2_d.Id, .slice I q s, .slice J v x] 54, _, _] := bj
 refine lv (rv_assign (v := .int .i64 0) rfl) (ns ?_)
 have aw := bk.drew
 refine wh1 (fun w' => Holds K w' ∧ HasObj g1 [.slice A a b, .slice B c d, .slice C f i, .slice D k l] w' ∧ HasObj U [.int .i64 p1_q.Kind, sv p1_q.Field, .slice G m n, .int .i64 p1_q.From, .int .i64 p1_q.To, .slice H o p] w') (fun w' => True) 9 [] mixed ⟨aw.hasK kr, aw.hasObj m2, aw.hasObj m1⟩ (fun _ => trivial) (gt (rv_move rfl) (gt (rv_nilCheck rfl) (gt (rv_fieldAddr ff123_0 rfl) (gh (fun _ h => rh_loadmS (ds := [.slice A a b, .slice B c d]) tf26 rfl rfl rfl h.2.1) (gt (rv_fieldAddr ff42_2 rfl) (gh (fun _ h => rh_loadm1 tf23 rfl rfl h.2.2) (gn ?_)))))))
 obtain ⟨c6, bl, bm⟩ := ob hm
 refine lk co178 (join_call Tryz.strings_Join_none Tryz.strings_Join aw.enter0 bf hD bl) ?_
 rintro c7 c8 ⟨c9, rfl, O, bn⟩
 have ax := (aw.c0 O).t3
 refine wl_nil (qh ⟨ax.hasK O.le, ax.hasObj m2, ax.hasObj m1⟩ (fun _ => trivial) (gn ?_))
 obtain ⟨aS, bo, bp⟩ := ob bm
 refine lk co73 ((ok_impl_TermsOf F) ax.enter0 (aQ.mono O.le) (aR.mono O.le) bn bo) ?_
 rintro da db ⟨ah, ai, aj, bq, rfl, V, ay⟩
 have az := (ax.c0 V).t4
 refine wl_nil (qh ⟨az.hasK (O.le.trans V.le), az.hasObj m3, az.hasObj m2⟩ (fun _ => trivial) (gt (rv_assign rfl) (gd' (qs (sr (mv rfl (lv (rv_len (t := tGTerm) underlying114 rfl ay) (lv (rv_eql rfl rfl) (nq (wcc bp rfl (fun br aT => ?_) (fun br aT => ?_)))))))))))
 ·refine sr (lv (rv_assign (v := .int .i64 0) rfl) (nq (rr ?_)))
  cases oi aT
  exact ey results130 ⟨bq, rfl, az.s, (by decide : rng64 0)⟩
 refine wc_skip (qr (wl_buildSlice0 (tSlice tInt) wn rfl underlying211 tf55 az fun bs dc aU S bu bv => (av rfl (nr (lv (rv_assign (v := .int .i64 0) rfl) (nsr (mv rfl (lv (rv_len (t := tGTerm) underlying114 rfl (ay.mono S)) (lv (rv_move (v := .int .i64 0) rfl) ?_)))))))))
 refine nq ?_
 obtain ⟨aV, bz, bA⟩ := ob aT
 refine wc_cutg (fun E' w' => ∃ aD aE aF aG, E' = [(0, pt g1), (4, pt U), (8, .slice aD aE aF), (9, .int .i64 aV.2)] ∧ SH w K Z w' aG [obj g1 [.slice A a b, .slice B c d, .slice C f i, .slice D k l] 123, obj U [.int .i64 p1_q.Kind, sv p1_q.Field, .slice G m n, .int .i64 p1_q.From, .int .i64 p1_q.To, .slice H o p] 42, tail (.slice aD aE aF) 55 1] ∧ KLe aU aG ∧ SliceAt (tSlice tInt) aG aD aE aF aV.1 ∧ rng64 aV.2) ?_ ?_
 ·refine wc_block ?_
  obtain ⟨dd, bB, bC⟩ := ob bz
  have bD := bv.f2.f3.f4.sb (sk (sk (sk (sk (sd sz)))))
  refine qF (fun (ab : Nat) (ad : (List (List Int)) × Int) E' w' => ∃ W X Y ak, E' = [(0, pt g1), (4, pt U), (5, pt ac), (7, .slice ah ai aj), (8, .slice W X Y), (9, .int .i64 ad.2), (28, .slice ah ai aj), (29, .int .i64 (aS.length : Int)), (30, .int .i64 ((ab : Nat) : Int))] ∧ SH w K Z w' ak [obj g1 [.slice A a b, .slice B c d, .slice C f i, .slice D k l] 123, obj U [.int .i64 p1_q.Kind, sv p1_q.Field, .slice G m n, .int .i64 p1_q.From, .int .i64 p1_q.To, .slice H o p] 42, obj ac [.int .i64 p2_d.Id, .slice I q s, .slice J v x] 54, tail (.slice W X Y) 55 1] ∧ KLe aU ak ∧ SliceAt (tSlice tInt) ak W X Y ad.1 ∧ rng64 ad.2) bB ⟨bs, 0, 0, aU, rfl, bD, kr, bu, (by decide : rng64 0)⟩ ?_ ?_
  ·rintro ab ad _ bE de hi110 bF ⟨W, X, Y, ak, rfl, aH, R, aW, a6⟩
   refine sr (lv (rv_lss rfl rfl) (ns (wc_cond_t rfl (decide_eq_true (by omega)) (wc_skip (qe_seq (wc_seq (wc_block (sr (mv rfl ?_)))))))))
   obtain ⟨y, bG, bH⟩ := ob bF
   refine li underlying114 tf117 (ay.mono (S.trans R)) bG fun bI bJ df bK bL => ?_
   obtain ⟨rfl, a7, dg⟩ := bK
   have bM : AtK _ bI bJ [sv y.Text, .int .i64 y.At] := bL
   refine lv (rv_loadS (cs := [sv y.Text, .int .i64 y.At]) tf117 rfl aH bM rfl) (al tf117 aH fun aA dh bN => ?_)
   have bO : SH _ _ _ _ _ [obj aA [sv [], .int .i64 0] 117, _, _, _, _] := bN
   refine av rfl (ls [sv y.Text, .int .i64 y.At] (.agg #[sv y.Text, .int .i64 y.At]) tf117 bO fun di bP => (nr (b0 tInt underlying55 tf3 bP fun bQ dj dk T bR aI => (av rfl (nsr (mv rfl (fa ff42_1 rfl (lv (rv_loadm1 tf9 rfl m3 aI rfl) (fa ff117_0 rfl ?_)))))))))
   refine lv (rv_loadm1 tf9 rfl m1 aI rfl) (fa ff54_0 rfl (lv (rv_loadm1 tf3 rfl m4 aI rfl) ?_))
   obtain ⟨bS, bT, bU⟩ := ob bH
   have a8 := aI.f2
   refine lk co134 ((ok_impl_scorer_places F) a8.e1 (SliceAt.mono ((((O.le.trans V.le).trans S).trans R).trans T) aQ) (SliceAt.mono ((((O.le.trans V.le).trans S).trans R).trans T) aR) (SliceAt.mono ((((O.le.trans V.le).trans S).trans R).trans T) a2) (SliceAt.mono ((((O.le.trans V.le).trans S).trans R).trans T) a3) a4 a7 a5 bT) ?_
   rintro dl dm ⟨bV, bW, bX, aX, rfl, aa, aJ⟩
   have bY := (a8.c1 aa).t6
   refine lv (rv_len (t := tInt) underlying55 rfl aJ) (lv (rv_move (v := .int .i64 0) rfl) (nq ?_))
   obtain ⟨a9, bZ, b1⟩ := ob bU
   refine wc_cutg (fun E' w' => ∃ am an ao aK, E' = [(0, pt g1), (4, pt U), (5, pt ac), (7, .slice ah ai aj), (8, .slice W X Y), (9, .int .i64 ad.2), (11, pt aA), (12, .slice am an ao), (28, .slice ah ai aj), (29, .int .i64 (aS.length : Int)), (30, .int .i64 ((ab : Nat) : Int))] ∧ SH w K Z w' aK [obj g1 [.slice A a b, .slice B c d, .slice C f i, .slice D k l] 123, obj U [.int .i64 p1_q.Kind, sv p1_q.Field, .slice G m n, .int .i64 p1_q.From, .int .i64 p1_q.To, .slice H o p] 42, obj ac [.int .i64 p2_d.Id, .slice I q s, .slice J v x] 54, obj aA [sv y.Text, .int .i64 y.At] 117, tail (.slice W X Y) 55 1, tail (.slice am an ao) 3 1] ∧ KLe aX aK ∧ SliceAt tInt aK am an ao a9) ?_ ?_
   ·refine wc_block ?_
    obtain ⟨dn, b2, b3⟩ := ob bZ
    refine qF (fun (ba : Nat) (aY : (List Int)) E' w' => ∃ ae af ag ap, E' = [(0, pt g1), (4, pt U), (5, pt ac), (7, .slice ah ai aj), (8, .slice W X Y), (9, .int .i64 ad.2), (10, .int .i64 ((ab : Nat) : Int)), (11, pt aA), (12, .slice ae af ag), (28, .slice ah ai aj), (29, .int .i64 (aS.length : Int)), (30, .int .i64 ((ab : Nat) : Int)), (43, .slice bV bW bX), (44, .int .i64 (bS.length : Int)), (45, .int .i64 ((ba : Nat) : Int))] ∧ SH w K Z w' ap [obj g1 [.slice A a b, .slice B c d, .slice C f i, .slice D k l] 123, obj U [.int .i64 p1_q.Kind, sv p1_q.Field, .slice G m n, .int .i64 p1_q.From, .int .i64 p1_q.To, .slice H o p] 42, obj ac [.int .i64 p2_d.Id, .slice I q s, .slice J v x] 54, obj aA [sv y.Text, .int .i64 y.At] 117, tail (.slice W X Y) 55 1, tail (.slice ae af ag) 3 1] ∧ KLe aX ap ∧ SliceAt tInt ap ae af ag aY) b2 ⟨bQ, 0, 0, aX, rfl, bY.f1.f5.f3.f5.f5.f5, kr, (bR.mono aa.le)⟩ ?_ ?_
    ·rintro ba aY _ b4 dp hi180 b5 ⟨ae, af, ag, ap, rfl, aL, aq, aM⟩
     refine sr (lv (rv_lss rfl rfl) (ns (wc_cond_t rfl (decide_eq_true (by omega)) (wc_skip (qe_seq (wc_seq (wc_block (sr ?_))))))))
     obtain ⟨aN, b6, b7⟩ := ob b5
     refine li underlying55 tf3 (aJ.mono aq) b6 fun b8 b9 dq ca cb => ?_
     obtain ⟨rfl, dt⟩ := ca
     have cc : AtK _ b8 b9 [.int .i64 aN] := cb
     refine lv (rv_load1 tf3 rfl aL (cc 0 _ rfl)) (av rfl (ns (wc_quiet mixed (by kernel_rfl) aL (km rfl (kv (rv_fieldAddr ff117_1 rfl) (kh (rq_loadm1 tf3 rfl m3 rfl) (km rfl ?_)))))))
     obtain ⟨aB, cd, ce⟩ := ob b7
     refine ki underlying114 tf117 (SliceAt.mono ((((S.trans R).trans T).trans aa.le).trans aq) ay) cd fun cf cg du ch cj => ?_
     obtain ⟨rfl, dv, dw⟩ := ch
     have ck : AtK _ cf cg [sv aB.Text, .int .i64 aB.At] := cj
     refine kv (rv_fieldAddr ff117_1 rfl) (kh (rq_load1 tf3 rfl (ck 1 _ rfl)) (kv (rv_sub rfl rfl) (km rfl (kv (rv_sub rfl rfl) (kv (rv_sub rfl rfl) (kv (rv_assign rfl) (wq_nil ?_)))))))
     rintro dx ⟨cl, bb, aO⟩
     refine qr (mv rfl (lv (rv_geq rfl rfl) (nq (wcc ce rfl (fun cm aZ => ?_) (fun cm aZ => ?_)))))
     ·refine wc_region (mv rfl (mv rfl (lb tInt (.int .i64 (w64 (aN - (w64 ((w64 (y.At - aB.At)) - ((ab : Nat) : Int)))))) [.int .i64 (w64 (aN - (w64 ((w64 (y.At - aB.At)) - ((ab : Nat) : Int)))))] (w64 (aN - (w64 ((w64 (y.At - aB.At)) - ((ab : Nat) : Int))))) underlying55 tf3 ⟨rfl, (w64_rng _)⟩ bb fun dy dz dA bc cn cp => ?_)))
      obtain ⟨dB, cq, cr⟩ := ob aZ
      refine lp underlying55 tf3 (aM.mono (aO.trans bc)) cn cq cp.f6 fun ct cu cv dC cw cx cy cz => (av rfl (nb (qg (lv (rv_add_to rfl rfl (w64_succ hi180 (SliceAt.max aJ))) (mv rfl (wl_nil ?_))))))
      cases oi cr
      exact qd ⟨ct, cu, cv, cw, rfl, cz.f6.f6.f6.f6.f6.s, (((aq.trans aO).trans bc).trans cx), cy⟩
     refine wc_skip (qe_block (qg (lv (rv_add_to rfl rfl (w64_succ hi180 (SliceAt.max aJ))) (mv rfl (wl_nil ?_)))))
     cases oi aZ
     exact qd ⟨ae, af, ag, cl, rfl, bb, (aq.trans aO), (aM.mono aO)⟩
    rintro aY _ b4 cA ⟨ae, af, ag, ap, rfl, aL, aq, aM⟩
    subst cA
    refine sr (lv (rv_lss rfl rfl) (ns (wc_cond_f rfl (decide_eq_false (by omega)) (wc_exit (qe_then_exit (qe_then_exit (qe_block_eq ?_)))))))
    cases oi b3
    exact qd ⟨ae, af, ag, ap, rfl, aL, aq, aM⟩
   rintro _ dD ⟨am, an, ao, aK, rfl, cB, ar, cC⟩
   refine qr (mv rfl (mv rfl (lb (tSlice tInt) (.slice am an ao) [.slice am an ao] a9 underlying211 tf55 ⟨_, _, _, rfl, cC⟩ cB fun dE dF dG au cD cE => ?_)))
   obtain ⟨dH, cF, cG⟩ := ob b1
   refine lp underlying211 tf55 (SliceAt.mono (((T.trans aa.le).trans ar).trans au) aW) cD cF cE.f5 fun cH cI cJ dI dJ aC cK aP => (av rfl (nq (wc_region (mv rfl (mv rfl (fa ff42_1 rfl (lv (rv_loadm1 tf9 rfl m3 aP rfl) (fa ff117_0 rfl (lv (rv_loadm1 tf9 rfl m5 aP rfl) ?_)))))))))
   refine fa ff54_0 rfl (lv (rv_loadm1 tf3 rfl m4 aP rfl) ?_)
   obtain ⟨dK, cL, cM⟩ := ob cG
   have bd := aP.f2
   refine lk co83 ((ok_impl_scorer_points F) bd.e1 (SliceAt.mono ((((((((O.le.trans V.le).trans S).trans R).trans T).trans aa.le).trans ar).trans au).trans aC) aQ) (SliceAt.mono ((((((((O.le.trans V.le).trans S).trans R).trans T).trans aa.le).trans ar).trans au).trans aC) aR) (SliceAt.mono ((((((((O.le.trans V.le).trans S).trans R).trans T).trans aa.le).trans ar).trans au).trans aC) a2) (SliceAt.mono ((((((((O.le.trans V.le).trans S).trans R).trans T).trans aa.le).trans ar).trans au).trans aC) a3) a4 a7 a5 cL) ?_
   rintro dL dM ⟨cN, rfl, a0, dN⟩
   have cO := (bd.c1 a0).t7
   refine lv (rv_add rfl rfl) (av rfl (nb (qg (lv (rv_add_to rfl rfl (w64_succ hi110 (SliceAt.max (ay.mono S)))) (mv rfl (wl_nil ?_))))))
   cases oi cM
   exact qd ⟨cH, cI, cJ, cN, rfl, cO.f1.f4.f4.f3.s, ((((((R.trans T).trans aa.le).trans ar).trans au).trans aC).trans a0.le), (cK.mono a0.le), (w64_rng _)⟩
  rintro ad _ bE cP ⟨W, X, Y, ak, rfl, aH, R, aW, a6⟩
  subst cP
  refine sr (lv (rv_lss rfl rfl) (ns (wc_cond_f rfl (decide_eq_false (by omega)) (wc_exit (qe_then_exit (qe_then_exit (qe_block_eq ?_)))))))
  cases oi bC
  exact qd ⟨W, X, Y, ak, rfl, aH.s, R, aW, a6⟩
 rintro _ dO ⟨aD, aE, aF, aG, rfl, a1, dP, cQ, dQ⟩
 refine qr (mv rfl (fa ff42_3 rfl (lv (rv_loadm1 tf3 rfl m1 a1 rfl) ?_)))
 obtain ⟨dR, cR, cS⟩ := ob bA
 refine lk co179 ((ok_impl_PhraseOf F) a1.enter0 cQ bg cR) ?_
 rintro dS dT ⟨dU, dV, dW, cT, rfl, cU, cV⟩
 have cW := (a1.c0 cU).t4
 refine lv (rv_len (t := tInt) underlying55 rfl cV) (lv (rv_min2 rfl rfl) (mv rfl (lv (rv_mul rfl rfl) ?_)))
 obtain ⟨dX, cX, cY⟩ := ob cS
 have be := oi cX
 refine lv (rv_as rfl (congrArg (Value.int .i64) be)) (nq (wc_ret ?_))
 cases oi cY
 exact ey results130 ⟨cT, rfl, cW.s, (cast_rng be (w64_rng _))⟩

set_option maxHeartbeats 2000000 in
theorem ok_impl_NearFar {p0_a : Str} {p1_b : Str} {r : Int} (hS : SH w K [] w K []) (aC : p0_a.length ≤ maxLen) (aD : p1_b.length ≤ maxLen) (hm : M.impl_NearFar F p0_a p1_b = some r) :
  Calls prog 132 #[sv p0_a, sv p1_b] w fun e w' => ∃ K', e = .returned (.int .i64 r) ∧ SH w K [] w' K' [] ∧ rng64 r := by
 rw [M.impl_NearFar] at hm
 refine ci func132 rfl ntmps132 (sr (lv (rv_assign (v := .int .i64 0) rfl) (ns (wc_seq ?_))))
 obtain ⟨o3, h4, h5⟩ := ob hm
 refine wc_cutg (IV w K [] K [(0, sv p0_a), (1, sv p1_b), (18, .bool o3)] []) ?_ ?_
 ·refine wc_region (mv rfl ?_)
  obtain ⟨b7, aH, aI⟩ := ob h4
  refine lk co59 ((ok_impl_WordOk F) hS.enter0 aC aH) ?_
  rintro b8 b9 ⟨aJ, rfl, O⟩
  have R := (hS.c0 O).t0
  refine lv (rv_not rfl) (mv rfl (bt aI (fun o S => ?_) (fun o S => ?_)))
  ·refine lu o (lu o (lu o (lv (rv_pick_t (v := .bool true) rfl o rfl) (wl_nil ?_))))
   cases oi S
   exact qd ⟨aJ, rfl, R, O.le⟩
  refine lg o (rv_move rfl) ?_
  obtain ⟨ca, aK, aL⟩ := ob S
  refine wl_call (wg rfl rfl o) rfl (rt_call (vs := [sv p1_b]) co59 rfl) ((ok_impl_WordOk F) R.enter0 aD aK) ?_
  rintro cb cc ⟨aM, rfl, ag⟩
  refine ⟨_, rfl, ?_⟩
  have aN := (R.c0 ag).t0
  refine lg o (rv_not rfl) (lv (rv_pick_f rfl o rfl) (wl_nil ?_))
  cases oi aL
  exact qd ⟨aM, rfl, aN, (O.le.trans ag.le)⟩
 rintro _ w8 ⟨I, rfl, ah, ce⟩
 refine qe_seq (wcc h5 rfl (fun aO T => ?_) (fun aO T => ?_))
 ·refine sr (lv (rv_assign (v := .int .i64 (-1)) rfl) (nq (rr ?_)))
  cases oi T
  exact ey results132 ⟨I, rfl, ah, (by decide : rng64 (-1))⟩
 refine wc_skip (qr (mv rfl (lv (rv_slen underlying9 rfl) (lv (rv_add rfl rfl) ?_))))
 obtain ⟨ai, aP, aQ⟩ := ob T
 refine wl_make (t := tInt) wn rfl underlying55 tf3 rfl rfl rfl aP ⟨rfl, (by decide : rng64 0)⟩ ah fun b cs34 cf hmx38 hrow36 aR => ?_
 obtain ⟨m39, hm40⟩ : ∃ m, m = ai.length := ⟨_, rfl⟩
 rw [← hm40] at hmx38
 rw [← hm40]
 refine av rfl (nsr (mv rfl (lv (rv_lenRow underlying55 rfl hm40) (lv (rv_move (v := .int .i64 0) rfl) (nq ?_)))))
 obtain ⟨aj, aS, aT⟩ := ob aQ
 refine wc_cutg (fun E' w' => ∃ cs48 s, E' = [(0, sv p0_a), (1, sv p1_b), (5, .slice (some ⟨b, 0, none⟩) m39 m39)] ∧ SH w K [] w' s [obj b cs48 3] ∧ KLe I s ∧ RowAt true tInt s cs48 aj ∧ m39 = aj.length) ?_ ?_
 ·refine wc_block ?_
  obtain ⟨cg, aU, aV⟩ := ob aS
  refine qF (fun (x : Nat) (J : (List Int)) E' w' => ∃ cs60 y, E' = [(0, sv p0_a), (1, sv p1_b), (5, .slice (some ⟨b, 0, none⟩) m39 m39), (24, .int .i64 (ai.length : Int)), (25, .int .i64 ((x : Nat) : Int))] ∧ SH w K [] w' y [obj b cs60 3] ∧ KLe I y ∧ RowAt true tInt y cs60 J ∧ m39 = J.length) aU ⟨cs34, I, rfl, aR, kr, hrow36, hm40⟩ ?_ ?_
  ·rintro x J _ aW ch hi64 aX ⟨cs60, y, rfl, U, V, hrow61, hm62⟩
   refine sr (lv (rv_lss rfl rfl) (ns (wc_cond_t rfl (decide_eq_true (by omega)) (wc_skip (qe_seq (wc_seq (wc_block (sr (mv rfl (av rfl (nq (wc_region ?_))))))))))))
   refine mv rfl (mv rfl (mv rfl ?_))
   obtain ⟨aY, W, aZ⟩ := ob aX
   obtain ⟨cj, a0, a1⟩ := RowAt.at hrow61 W
   obtain ⟨rfl, ck⟩ := a0
   have cl : ∀ (j : Nat) (d : Value), [.int .i64 aY][j]? = some d → cs60[((x : Nat) : Int).toNat * tInt.size + j]? = some d := a1
   refine lv (rv_indexRow (t := tInt) underlying55 tf3 rfl rfl hm62 W) (wl_storeRow (t := tInt) (v := .int .i64 ((x : Nat) : Int)) (e := ((x : Nat) : Int)) wn tf3 rfl rfl ⟨rfl, (rng_idx hi64 (row_max hm40 hmx38))⟩ U hrow61 W fun cs75 cm hrow77 a2 => ?_)
   have hm79 := hm62.trans (List.length_set (i := ((x : Nat) : Int).toNat) (a := ((x : Nat) : Int))).symm
   refine nb (qg (lv (rv_add_to rfl rfl (w64_succ hi64 (row_max hm40 hmx38))) (mv rfl (wl_nil ?_))))
   cases oi aZ
   exact qd ⟨cs75, y, rfl, a2, V, hrow77, hm79⟩
  rintro J _ aW a3 ⟨cs60, y, rfl, U, V, hrow61, hm62⟩
  subst a3
  refine sr (lv (rv_lss rfl rfl) (ns (wc_cond_f rfl (decide_eq_false (by omega)) (wc_exit (qe_then_exit (qe_then_exit (qe_block_eq ?_)))))))
  cases oi aV
  exact qd ⟨cs60, y, rfl, U, V, hrow61, hm62⟩
 rintro _ cn ⟨cs48, s, rfl, a4, cp, hrow49, hm50⟩
 refine qs (sr (lv (rv_assign (v := .int .i64 1) rfl) (nq ?_)))
 obtain ⟨ak, a5, a6⟩ := ob aT
 refine wc_cutg (fun E' w' => ∃ cs88 D, E' = [(1, sv p1_b), (5, .slice (some ⟨b, 0, none⟩) m39 m39)] ∧ SH w K [] w' D [obj b cs88 3] ∧ KLe s D ∧ RowAt true tInt D cs88 ak ∧ m39 = ak.length) ?_ ?_
 ·refine wc_block ?_
  obtain ⟨cq, a7, a8⟩ := ob a5
  refine qw (fun (l : Int × (List Int)) E' w' => ∃ cs100 q, E' = [(0, sv p0_a), (1, sv p1_b), (5, .slice (some ⟨b, 0, none⟩) m39 m39), (7, .int .i64 l.1)] ∧ SH w K [] w' q [obj b cs100 3] ∧ KLe s q ∧ rng64 l.1 ∧ RowAt true tInt q cs100 l.2 ∧ m39 = l.2.length) a7 ⟨cs48, s, rfl, a4, kr, (by decide : rng64 1), hrow49, hm50⟩ ?_
  rintro l _ cr cs a9 ba ⟨cs100, q, rfl, X, al, bb, hrow101, hm102⟩
  refine wc_seq (sr (mv rfl (mv rfl (lv (rv_slen underlying9 rfl) (lv (rv_leq rfl rfl) (nq (wcc a9 rfl (fun bc Y => ?_) (fun bc Y => ?_))))))))
  ·refine wc_skip (qs (wc_block (sr (mv rfl ?_))))
   obtain ⟨bd, am, be⟩ := ob Y
   obtain ⟨ct, bf, bg⟩ := RowAt.at hrow101 am
   obtain ⟨rfl, bh⟩ := bf
   have bi : ∀ (j : Nat) (d : Value), [.int .i64 bd][j]? = some d → cs100[(0 : Int).toNat * tInt.size + j]? = some d := bg
   refine lv (rv_indexRow (t := tInt) underlying55 tf3 rfl rfl hm102 am) (lv (rh_loadR1 tf3 rfl rfl (bi 0 _ rfl) (X.hasObj (.head _))) (av rfl (nr (mv rfl (mv rfl ?_)))))
   obtain ⟨bj, aa, bk⟩ := ob be
   obtain ⟨cu, bl, bm⟩ := RowAt.at hrow101 aa
   obtain ⟨rfl, cv⟩ := bl
   have cw : ∀ (j : Nat) (d : Value), [.int .i64 bj][j]? = some d → cs100[(0 : Int).toNat * tInt.size + j]? = some d := bm
   refine lv (rv_indexRow (t := tInt) underlying55 tf3 rfl rfl hm102 aa) (wl_storeRow (t := tInt) (v := .int .i64 l.1) (e := l.1) wn tf3 rfl rfl ⟨rfl, bb⟩ X hrow101 aa fun cs124 cx hrow126 bn => ?_)
   have hm128 := hm102.trans (List.length_set (i := (0 : Int).toNat) (a := l.1)).symm
   refine nr (lv (rv_assign (v := .int .i64 1) rfl) (nq ?_))
   obtain ⟨an, bo, bp⟩ := ob bk
   refine wc_cutg (fun E' w' => ∃ cs136 G, E' = [(0, sv p0_a), (1, sv p1_b), (5, .slice (some ⟨b, 0, none⟩) m39 m39), (7, .int .i64 l.1)] ∧ SH w K [] w' G [obj b cs136 3] ∧ KLe q G ∧ RowAt true tInt G cs136 an ∧ m39 = an.length) ?_ ?_
   ·refine wc_block ?_
    obtain ⟨cy, bq, br⟩ := ob bo
    refine qw (fun (f : Int × Int × (List Int)) E' w' => ∃ cs149 H, E' = [(0, sv p0_a), (1, sv p1_b), (5, .slice (some ⟨b, 0, none⟩) m39 m39), (7, .int .i64 l.1), (8, .int .i64 f.1), (9, .int .i64 f.2.1)] ∧ SH w K [] w' H [obj b cs149 3] ∧ KLe q H ∧ rng64 f.1 ∧ rng64 f.2.1 ∧ RowAt true tInt H cs149 f.2.2 ∧ m39 = f.2.2.length) bq ⟨cs124, q, rfl, bn, kr, bh, (by decide : rng64 1), hrow126, hm128⟩ ?_
    rintro f _ cz cA bs bu ⟨cs149, H, rfl, ao, ap, bv, cB, hrow150, hm151⟩
    refine wc_seq (sr (mv rfl (mv rfl (lv (rv_slen underlying9 rfl) (lv (rv_leq rfl rfl) (nq (wcc bs rfl (fun bx ab => ?_) (fun bx ab => ?_))))))))
    ·refine wc_skip (qs (wc_block (sr (mv rfl (av rfl (ns (wc_seq (wc_quiet mixed (by kernel_rfl) ao (km rfl ?_)))))))))
     refine km rfl (kv (rv_sub rfl rfl) ?_)
     obtain ⟨cC, bz, bA⟩ := ob ab
     refine kv (rv_sidx underlying9 rfl rfl bz) (km rfl (km rfl (kv (rv_sub rfl rfl) ?_)))
     obtain ⟨cD, bB, bC⟩ := ob bA
     refine kv (rv_sidx underlying9 rfl rfl bB) (kv (rv_bne rfl rfl) (wq_nil ?_))
     rintro cE ⟨ac, aq, B⟩
     refine qe_seq ?_
     obtain ⟨c, bD, bE⟩ := ob bC
     refine wc_cutg (IW w K [] ac [(0, sv p0_a), (1, sv p1_b), (5, .slice (some ⟨b, 0, none⟩) m39 m39), (7, .int .i64 l.1), (9, .int .i64 f.2.1), (10, .int .i64 c)] [obj b cs149 3] (rng64 c)) ?_ ?_
     ·refine wcc bD rfl (fun bF ad => ?_) (fun bF ad => ?_)
      ·refine wc_region (mv rfl (lv (rv_add rfl rfl) (av rfl (wl_nil ?_))))
       cases oi ad
       exact qd ⟨ac, rfl, aq, kr, (w64_rng _)⟩
      refine wc_skip ?_
      cases oi ad
      exact qd ⟨ac, rfl, aq, kr, bv⟩
     rintro _ cF ⟨ar, rfl, au, C, bG⟩
     refine qr (mv rfl (mv rfl ?_))
     obtain ⟨bH, aw, bI⟩ := ob bE
     obtain ⟨cG, bJ, bK⟩ := RowAt.at (RowAt.mono (B.trans C) hrow150) aw
     obtain ⟨rfl, bL⟩ := bJ
     have bM : ∀ (j : Nat) (d : Value), [.int .i64 bH][j]? = some d → cs149[f.2.1.toNat * tInt.size + j]? = some d := bK
     refine lv (rv_indexRow (t := tInt) underlying55 tf3 rfl rfl hm151 aw) (lv (rh_loadR1 tf3 rfl rfl (bM 0 _ rfl) (au.hasObj (.head _))) (av rfl (nq ?_)))
     have ae := au.drew
     refine wh1 (fun w' => Holds ar w') (fun w' => HasObj b cs149 w') 16 [(6, 7), (6, 15), (6, 16), (7, 14), (7, 15), (7, 16), (12, 13), (12, 15), (12, 16), (13, 14), (13, 15), (13, 16), (14, 15), (14, 16), (15, 16)] mixed (ae.hasK kr) (fun _ => ae.hasObj (.head _)) (gt (rv_move rfl) (gt (rv_move rfl) (gt (rv_move rfl) (gt (rv_move rfl) (gt (rv_move rfl) ?_)))))
     obtain ⟨k, ax, bN⟩ := ob bI
     obtain ⟨cH, bO, bP⟩ := RowAt.at (RowAt.mono (B.trans C) hrow150) ax
     obtain ⟨rfl, cI⟩ := bO
     have bQ : ∀ (j : Nat) (d : Value), [.int .i64 k][j]? = some d → cs149[f.2.1.toNat * tInt.size + j]? = some d := bP
     refine gt (rv_indexRow (t := tInt) underlying55 tf3 rfl rfl hm151 ax) (gf (fun _ h => (rh_loadR1 tf3 rfl rfl (bQ 0 _ rfl) h)) (gt (rv_add rfl rfl) (gt (rv_move rfl) (gt (rv_move rfl) (gt (rv_sub rfl rfl) ?_)))))
     obtain ⟨A, ay, bR⟩ := ob bN
     obtain ⟨cJ, bS, bT⟩ := RowAt.at (RowAt.mono (B.trans C) hrow150) ay
     obtain ⟨rfl, cK⟩ := bS
     have bU : ∀ (j : Nat) (d : Value), [.int .i64 A][j]? = some d → cs149[(w64 (f.2.1 - (1 : Int))).toNat * tInt.size + j]? = some d := bT
     refine gt (rv_indexRow (t := tInt) underlying55 tf3 rfl rfl hm151 ay) (gf (fun _ h => (rh_loadR1 tf3 rfl rfl (bU 0 _ rfl) h)) (gt (rv_add rfl rfl) (gt (rv_min3 rfl rfl rfl) ?_)))
     obtain ⟨bV, af, bW⟩ := ob bR
     obtain ⟨cL, bX, bY⟩ := RowAt.at (RowAt.mono (B.trans C) hrow150) af
     obtain ⟨rfl, cM⟩ := bX
     have cN : ∀ (j : Nat) (d : Value), [.int .i64 bV][j]? = some d → cs149[f.2.1.toNat * tInt.size + j]? = some d := bY
     refine gt (rv_indexRow (t := tInt) underlying55 tf3 rfl rfl hm151 af) (gn (wl_storeRow (t := tInt) (v := .int .i64 (if (w64 (A + (1 : Int))) < (if (w64 (k + (1 : Int))) < c then (w64 (k + (1 : Int))) else c) then (w64 (A + (1 : Int))) else (if (w64 (k + (1 : Int))) < c then (w64 (k + (1 : Int))) else c))) (e := (if (w64 (A + (1 : Int))) < (if (w64 (k + (1 : Int))) < c then (w64 (k + (1 : Int))) else c) then (w64 (A + (1 : Int))) else (if (w64 (k + (1 : Int))) < c then (w64 (k + (1 : Int))) else c))) wn tf3 rfl rfl ⟨rfl, (rng_min (rng_min bG (w64_rng _)) (w64_rng _))⟩ ae (RowAt.mono (B.trans C) hrow150) af fun cs211 cO hrow213 az => ?_))
     have hm215 := hm151.trans (List.length_set (i := f.2.1.toNat) (a := (if (w64 (A + (1 : Int))) < (if (w64 (k + (1 : Int))) < c then (w64 (k + (1 : Int))) else c) then (w64 (A + (1 : Int))) else (if (w64 (k + (1 : Int))) < c then (w64 (k + (1 : Int))) else c)))).symm
     refine wl_nil (qh (az.hasK kr) (fun h => nomatch h) (gd' (qe_block (qe_seq (wc_region (mv rfl (lv (rv_add rfl rfl) (av rfl (wl_nil ?_)))))))))
     cases oi bW
     exact qd ⟨_, rfl, cs211, ar, rfl, az, ((ap.trans B).trans C), bL, (w64_rng _), hrow213, hm215⟩
    refine wc_exit (qe_then_exit (qe_then_exit ?_))
    cases oi ab
    cases bu _ rfl
    refine qe_block_eq ?_
    cases oi br
    exact qd ⟨cs149, H, rfl, ao, ap, hrow150, hm151⟩
   rintro _ cP ⟨cs136, G, rfl, bZ, b0, hrow137, hm138⟩
   refine qe_block (qe_seq (wc_region (mv rfl (lv (rv_add rfl rfl) (av rfl (wl_nil ?_))))))
   cases oi bp
   exact qd ⟨_, rfl, cs136, G, rfl, bZ, (al.trans b0), (w64_rng _), hrow137, hm138⟩
  refine wc_exit (qe_then_exit (qe_then_exit ?_))
  cases oi Y
  cases ba _ rfl
  refine qe_block_eq ?_
  cases oi a8
  exact qd ⟨cs100, q, rfl, X, al, hrow101, hm102⟩
 rintro _ cQ ⟨cs88, D, rfl, aA, cR, hrow89, hm90⟩
 refine qr (mv rfl (mv rfl (lv (rv_slen underlying9 rfl) ?_)))
 obtain ⟨b1, aB, b2⟩ := ob a6
 obtain ⟨cS, b3, b4⟩ := RowAt.at hrow89 aB
 obtain ⟨rfl, b5⟩ := b3
 have b6 : ∀ (j : Nat) (d : Value), [.int .i64 b1][j]? = some d → cs88[(p1_b.length : Int).toNat * tInt.size + j]? = some d := b4
 refine lv (rv_indexRow (t := tInt) underlying55 tf3 rfl rfl hm90 aB) (lv (rh_loadR1 tf3 rfl rfl (b6 0 _ rfl) (aA.hasObj (.head _))) (av rfl (nq (wc_ret ?_))))
 cases oi b2
 exact ey results132 ⟨D, rfl, aA.s, b5⟩

set_option maxHeartbeats 2000000 in
theorem ok_impl_globHas (F : Nat) : ∀ {w : World} {K : KMap} {p0_p : Str} {p1_s : Str} {r : Bool} (hS : SH w K [] w K []) (i : p0_p.length ≤ maxLen) (k : p1_s.length ≤ maxLen) (hm : M.impl_globHas F p0_p p1_s = some r),
  Calls prog 180 #[sv p0_p, sv p1_s] w fun e w' => ∃ K', e = .returned (.bool r) ∧ SH w K [] w' K' [] := by
 induction F with
 | zero => intros; rename_i hm; rw [M.impl_globHas] at hm; cases hm
 | succ F ih =>
  intro w K p0_p p1_s r hS i k hm
  rw [M.impl_globHas] at hm
  refine ci func180 rfl ntmps180 (sr (lv (rv_assign (v := .bool false) rfl) (ns (wc_block (sr (mv rfl (lv (rv_seql (r := ([] : Str)) rfl rfl) (av rfl (nq ?_)))))))))
  refine wc_cond rfl (fun o => ?_) (fun o => ?_)
  ·have q := cond_t o hm
   refine sr (mv rfl (lv (rv_seql (r := ([] : Str)) rfl rfl) (av rfl (nq (wc_ret (qe_block_ret (qe_then_ret ?_)))))))
   cases oi q
   exact ey results180 ⟨K, rfl, hS⟩
  have q := cond_f o hm
  refine sr (mv rfl ?_)
  obtain ⟨x5, T, U⟩ := ob q
  refine lv (rv_sidx underlying9 rfl rfl T) (lv (rv_beq (b := (42 : UInt8)) rfl rfl) (av rfl (nq (wcc U rfl (fun V s => ?_) (fun V s => ?_)))))
  ·refine wc_seq ?_
   obtain ⟨W, X, Y⟩ := ob s
   refine wc_cutg (IV w K [] K [(4, .bool W)] []) ?_ ?_
   ·refine wc_region (mv rfl ?_)
    obtain ⟨aM, D, aa⟩ := ob X
    refine lv (rv_ssl_l underlying9 rfl rfl D) (mv rfl ?_)
    obtain ⟨aN, ab, ac⟩ := ob aa
    refine lk co180 (ih hS.enter0 (len_sub i D) k ab) ?_
    rintro aO aP ⟨G, rfl, l⟩
    have m := (hS.c0 l).t0
    refine mv rfl (bt ac (fun a x => ?_) (fun a x => ?_))
    ·refine lu a (lu a (lu a (wl_un (uu rfl rfl) rfl (wl_un (uu rfl rfl) rfl (wl_un (uu rfl rfl) rfl (wl_un (uu rfl rfl) rfl (lu a (lv (rv_pick_t (v := .bool true) rfl a rfl) (av rfl ?_)))))))))
     refine wl_nil ?_
     cases oi x
     exact qd ⟨G, rfl, m, l.le⟩
    refine lg a (rv_move rfl) (lg a (rv_sneq (r := ([] : Str)) rfl rfl) (lg a (rv_move rfl) (bt x (fun c y => ?_) (fun c y => ?_))))
    ·refine lg c (rv_move rfl) (lg c (rv_move rfl) ?_)
     obtain ⟨ad, H, ae⟩ := ob y
     refine lg c (rv_ssl_l underlying9 rfl rfl H) ?_
     obtain ⟨aQ, af, ag⟩ := ob ae
     refine wl_call (wg rfl rfl c) rfl (rt_call (vs := [sv p0_p, sv ad]) co180 rfl) (ih m.enter0 i (len_sub k H) af) ?_
     rintro aR aS ⟨ah, rfl, I⟩
     refine ⟨_, rfl, ?_⟩
     have ai := (m.c0 I).t0
     refine lg a (rv_pick_t rfl c rfl) (lv (rv_pick_f rfl a rfl) (av rfl (wl_nil ?_)))
     cases oi ag
     exact qd ⟨ah, rfl, ai, (l.le.trans I.le)⟩
    refine lu c (lu c (lu c (lu c (lg a (rv_pick_f (v := .bool false) rfl c rfl) (lv (rv_pick_f rfl a rfl) (av rfl (wl_nil ?_)))))))
    cases oi y
    exact qd ⟨G, rfl, m, l.le⟩
   rintro _ aT ⟨aj, rfl, ak, aU⟩
   refine qe_seq (wc_ret (qe_block_ret (qe_then_ret ?_)))
   cases oi Y
   exact ey results180 ⟨aj, rfl, ak⟩
  refine sr (mv rfl (lv (rv_seql (r := ([] : Str)) rfl rfl) (av rfl (nq (wcc s rfl (fun al A => ?_) (fun al A => ?_))))))
  ·refine sr (lv (rv_assign (v := .bool false) rfl) (nq (wc_ret (qe_block_ret (qe_then_ret ?_)))))
   cases oi A
   exact ey results180 ⟨K, rfl, hS⟩
  refine wc_skip (qe_block (qs (wc_quiet mixed (by kernel_rfl) hS (km rfl ?_))))
  obtain ⟨aV, am, an⟩ := ob A
  refine kv (rv_sidx underlying9 rfl rfl am) (kv (rv_beq (b := (63 : UInt8)) rfl rfl) (km rfl (bt an (fun d B => ?_) (fun d B => ?_))))
  ·iterate 5 refine kn d ?_
   refine kv (rv_pick_t (v := .bool true) rfl d rfl) (km rfl (kg rfl (rv_move rfl) ?_))
   obtain ⟨aW, J, ao⟩ := ob B
   refine kg rfl (rv_ssl_l underlying9 rfl rfl J) (kg rfl (rv_move rfl) ?_)
   obtain ⟨aX, O, ap⟩ := ob ao
   refine kg rfl (rv_ssl_l underlying9 rfl rfl O) ?_
   obtain ⟨aY, aq, ar⟩ := ob ap
   refine kcg rfl co180 (fun _ _ au aZ => ih au.enter0 (len_sub i J) (len_sub k O) aq) (kv (rv_pick_t rfl rfl rfl) (kv (rv_assign rfl) (wq_nil ?_)))
   rintro w64 ⟨aw, ax, a0⟩
   refine qe_seq (wc_ret ?_)
   cases oi ar
   exact ey results180 ⟨aw, rfl, ax⟩
  refine kg d (rv_move rfl) ?_
  obtain ⟨a1, ay, az⟩ := ob B
  refine kg d (rv_sidx underlying9 rfl rfl ay) (kg d (rv_move rfl) ?_)
  obtain ⟨a2, aA, aB⟩ := ob az
  refine kg d (rv_sidx underlying9 rfl rfl aA) (kg d (rv_beq rfl rfl) (kv (rv_pick_f rfl d rfl) (km rfl (bt aB (fun f C => ?_) (fun f C => ?_)))))
  ·refine kg f (rv_move rfl) ?_
   obtain ⟨a3, R, aC⟩ := ob C
   refine kg f (rv_ssl_l underlying9 rfl rfl R) (kg f (rv_move rfl) ?_)
   obtain ⟨a4, S, aD⟩ := ob aC
   refine kg f (rv_ssl_l underlying9 rfl rfl S) ?_
   obtain ⟨a5, aE, aF⟩ := ob aD
   refine kcg f co180 (fun _ _ aG a6 => ih aG.enter0 (len_sub i R) (len_sub k S) aE) (kv (rv_pick_t rfl f rfl) (kv (rv_assign rfl) (wq_nil ?_)))
   rintro a7 ⟨aH, aI, a8⟩
   refine qe_seq (wc_ret ?_)
   cases oi aF
   exact ey results180 ⟨aH, rfl, aI⟩
  iterate 5 refine kn f ?_
  refine kv (rv_pick_f (v := .bool false) rfl f rfl) (kv (rv_assign rfl) (wq_nil ?_))
  rintro a9 ⟨aJ, aK, ba⟩
  refine qe_seq (wc_ret ?_)
  cases oi C
  exact ey results180 ⟨aJ, rfl, aK⟩

theorem ok_impl_GlobHas {p0_p : Str} {p1_s : Str} {r : Bool} (hS : SH w K [] w K []) (k : p0_p.length ≤ maxLen) (l : p1_s.length ≤ maxLen) (hm : M.impl_GlobHas F p0_p p1_s = some r) :
  Calls prog 133 #[sv p0_p, sv p1_s] w fun e w' => ∃ K', e = .returned (.bool r) ∧ SH w K [] w' K' [] := by
 rw [M.impl_GlobHas] at hm
 refine ci func133 rfl ntmps133 (sr (lv (rv_assign (v := .bool false) rfl) (nr (mv rfl ?_))))
 obtain ⟨J, m, o⟩ := ob hm
 refine lk co156 ((ok_impl_GlobOk F) hS.enter0 k m) ?_
 rintro O R ⟨q, rfl, s⟩
 have c := (hS.c0 s).t0
 refine mv rfl (bt o (fun b d => ?_) (fun b d => ?_))
 ·refine lg b (rv_move rfl) ?_
  obtain ⟨S, x, y⟩ := ob d
  refine wl_call (wg rfl rfl b) rfl (rt_call (vs := [sv p1_s]) co59 rfl) ((ok_impl_WordOk F) c.enter0 l x) ?_
  rintro T U ⟨A, rfl, B⟩
  refine ⟨_, rfl, ?_⟩
  have f := (c.c0 B).t0
  refine lv (rv_pick_t rfl b rfl) (mv rfl (bt y (fun a i => ?_) (fun a i => ?_)))
  ·refine lg a (rv_move rfl) (lg a (rv_move rfl) ?_)
   obtain ⟨V, C, D⟩ := ob i
   refine wl_call (wg rfl rfl a) rfl (rt_call (vs := [sv p0_p, sv p1_s]) co180 rfl) ((ok_impl_globHas F) f.enter0 k l C) ?_
   rintro W X ⟨G, rfl, H⟩
   refine ⟨_, rfl, ?_⟩
   have I := (f.c0 H).t0
   refine lv (rv_pick_t rfl a rfl) (av rfl (nq (wc_ret ?_)))
   cases oi D
   exact ey results133 ⟨G, rfl, I⟩
  refine lu a (lu a (lu a (lv (rv_pick_f (v := .bool false) rfl a rfl) (av rfl (nq (wc_ret ?_))))))
  cases oi i
  exact ey results133 ⟨A, rfl, f⟩
 refine lu b (lu b (lv (rv_pick_f (v := .bool false) rfl b rfl) (mv rfl (lu rfl (lu rfl (lu rfl (lv (rv_pick_f (v := .bool false) rfl rfl rfl) (av rfl (nq ?_)))))))))
 refine wc_ret ?_
 cases oi d
 exact ey results133 ⟨q, rfl, c⟩

theorem ok_impl_DocNum {p0_d : GDoc} {p1_name : Str} {r : Int} (hS : SH w K [] w K []) (O : rng64 p0_d.Id) (R : SliceAt tGField K A a b p0_d.Fields) (i : SliceAt tGAttr K B c d p0_d.Nums) (ay : p1_name.length ≤ maxLen) (hm : M.impl_DocNum F p0_d p1_name = some r) :
  Calls prog 135 #[.agg #[.int .i64 p0_d.Id, .slice A a b, .slice B c d], sv p1_name] w fun e w' => ∃ K', e = .returned (.int .i64 r) ∧ SH w K [] w' K' [] ∧ rng64 r := by
 rw [M.impl_DocNum] at hm
 refine ci func135 rfl ntmps135 (sr (bx rfl hS fun S az T => ?_))
 have y : SH _ _ _ _ _ [obj S [.int .i64 p0_d.Id, .slice A a b, .slice B c d] 54] := T
 refine lv (rv_assign (v := .int .i64 0) rfl) (nsr (lv (rv_loadmS (ds := [.int .i64 p0_d.Id, .slice A a b, .slice B c d]) tf54 rfl m0 y rfl rfl) ?_))
 obtain ⟨aA, U, V⟩ := ob hm
 refine lk co111 ((ok_impl_DocOk F) y.enter0 O R i U) ?_
 rintro aB aC ⟨k, rfl, l⟩
 have C := (y.c0 l).t1
 refine nq (wcc V rfl (fun W D => ?_) (fun W D => ?_))
 ·refine sr (fa ff54_2 rfl (lv (rv_loadm1 tf52 rfl m0 C rfl) (lv (rv_len (t := tGAttr) underlying52 rfl (i.mono l.le)) (lv (rv_move (v := .int .i64 0) rfl) (nq ?_)))))
  obtain ⟨X, Y, m⟩ := ob D
  refine wc_cutg (IE X w K [] k [] []) ?_ ?_
  ·refine wc_block ?_
   obtain ⟨aD, aa, H⟩ := ob Y
   have ab := C.sb (sd sz)
   refine qf (fun (I : Nat) (J : Unit) => IV w K [] k [(1, sv p1_name), (10, .slice B c d), (11, .int .i64 (p0_d.Nums.length : Int)), (12, .int .i64 ((I : Nat) : Int))] []) aa ⟨k, rfl, ab, kr⟩ ?_ ?_
   ·rintro I J _ ac aE hi44 ad ae ⟨o, rfl, q, s⟩
    refine sr (lv (rv_lss rfl rfl) (ns (wc_cond_t rfl (decide_eq_true (by omega)) (wc_skip (qe_seq (wc_seq (wc_block (sr ?_))))))))
    obtain ⟨f, af, ag⟩ := ob ad
    refine li underlying52 tf197 (i.mono (l.le.trans s)) af fun ah ai aF aj ak => ?_
    obtain ⟨rfl, aG, am⟩ := aj
    have an : AtK _ ah ai [sv f.Name, .int .i64 f.Num] := ak
    refine lv (rv_loadS (cs := [sv f.Name, .int .i64 f.Num]) tf197 rfl q an rfl) (al tf197 q fun ao aH ap => ?_)
    have aq : SH _ _ _ _ _ [obj ao [sv [], .int .i64 0] 197] := ap
    refine ls [sv f.Name, .int .i64 f.Num] (.agg #[sv f.Name, .int .i64 f.Num]) tf197 aq fun aI x => (nr (fa ff197_0 rfl (lv (rv_loadm1 tf9 rfl m0 x rfl) (mv rfl (lv (rv_seql rfl rfl) (nq (wcc ag rfl (fun ar G => ?_) (fun ar G => ?_))))))))
    ·refine sr (fa ff197_1 rfl (lv (rv_loadm1 tf3 rfl m0 x rfl) (av rfl (nq (wc_ret (qe_block_ret (qe_then_ret (qe_then_ret ?_))))))))
     cases oi G
     cases ae _ rfl
     refine qe_block_ret (qe_then_ret ?_)
     cases oi H
     refine qe_then_ret ?_
     cases oi m
     exact ey results135 ⟨o, rfl, x.s, am⟩
    refine wc_skip (qe_block (qg (lv (rv_add_to rfl rfl (w64_succ hi44 (SliceAt.max (i.mono l.le)))) (mv rfl (wl_nil ?_)))))
    cases oi G
    exact qd ⟨_, rfl, o, rfl, x.s, s⟩
   rintro J _ ac au ⟨o, rfl, q, s⟩
   subst au
   refine sr (lv (rv_lss rfl rfl) (ns (wc_cond_f rfl (decide_eq_false (by omega)) (wc_exit (qe_then_exit (qe_then_exit (qe_block_eq ?_)))))))
   cases oi H
   exact qe_mid' ⟨_, o, rfl, rfl, q, s⟩ trivial
  rintro _ aJ ⟨aK, aw, rfl, rfl, ax, aL⟩
  have m := elim_l m
  refine qr (lv (rv_assign (v := .int .i64 (-1)) rfl) (nq (wc_ret ?_)))
  cases oi m
  exact ey results135 ⟨aw, rfl, ax, (by decide : rng64 (-1))⟩
 refine wc_skip (qr (lv (rv_assign (v := .int .i64 (-1)) rfl) (nq (wc_ret ?_))))
 cases oi D
 exact ey results135 ⟨k, rfl, C.s, (by decide : rng64 (-1))⟩

theorem ok_impl_Seg_terms__ofGScorer1 {p0_s : GScorer} {p1_field : Str} {r : (List Str)} (hS : SH w K Z w K [obj g1 [.slice A a b, .slice B c d, .slice C f i, .slice D k l] 123]) (aS : SliceAt tStr K A a b p0_s.c_.Stops) (aT : SliceAt tGSyn K B c d p0_s.c_.Syns) (aU : SliceAt tGDoc K C f i p0_s.s_.Docs) (O : SliceAt tGEntry K D k l p0_s.s_.Entries) (aV : p1_field.length ≤ maxLen) (hm : M.impl_Seg_terms__ofGScorer1 F p0_s p1_field = some r) :
  Calls prog 131 #[.pointer (some ⟨g1, 2, none⟩), sv p1_field] w fun e w' => ∃ a_1 n_2 c_3 K', e = .returned (.slice a_1 n_2 c_3) ∧ SH w K Z w' K' [tail (.slice a_1 n_2 c_3) 9 1, obj g1 [.slice A a b, .slice B c d, .slice C f i, .slice D k l] 123] ∧ SliceAt tStr K' a_1 n_2 c_3 r := by
 rw [M.impl_Seg_terms__ofGScorer1] at hm
 refine ci func131 rfl ntmps131 (sr (lv (rv_assign (v := .slice none 0 0) rfl) (nr (b0 tStr underlying23 tf9 hS fun af aW Y R ag ac => (av rfl (nsr (mv rfl (lv (rv_nilCheck rfl) (fa ff46_1 rfl ?_)))))))))
 refine lv (rv_loadm1 tf44 rfl m1 ac rfl) (lv (rv_len (t := tGEntry) underlying44 rfl (O.mono R)) (lv (rv_move (v := .int .i64 0) rfl) (nq ?_)))
 obtain ⟨ah, ai, aj⟩ := ob hm
 refine wc_cutg (fun E' w' => ∃ y G H I, E' = [(0, .pointer (some ⟨g1, 2, none⟩)), (5, .slice y G H)] ∧ SH w K Z w' I [obj g1 [.slice A a b, .slice B c d, .slice C f i, .slice D k l] 123, tail (.slice y G H) 9 1] ∧ KLe Y I ∧ SliceAt tStr I y G H ah) ?_ ?_
 ·refine wc_block ?_
  obtain ⟨aX, ak, am⟩ := ob ai
  refine qF (fun (ad : Nat) (aa : (List Str)) E' w' => ∃ o q s x, E' = [(0, .pointer (some ⟨g1, 2, none⟩)), (1, sv p1_field), (5, .slice o q s), (12, .slice D k l), (13, .int .i64 (p0_s.s_.Entries.length : Int)), (14, .int .i64 ((ad : Nat) : Int))] ∧ SH w K Z w' x [obj g1 [.slice A a b, .slice B c d, .slice C f i, .slice D k l] 123, tail (.slice o q s) 9 1] ∧ KLe Y x ∧ SliceAt tStr x o q s aa) ak ⟨af, 0, 0, Y, rfl, ac.f1, kr, ag⟩ ?_ ?_
  ·rintro ad aa _ an aY hi51 ao ⟨o, q, s, x, rfl, S, J, T⟩
   refine sr (lv (rv_lss rfl rfl) (ns (wc_cond_t rfl (decide_eq_true (by omega)) (wc_skip (qe_seq (wc_seq (wc_block (sr ?_))))))))
   obtain ⟨m, ap, aq⟩ := ob ao
   refine li underlying44 tf112 (O.mono (R.trans J)) ap fun ar au aZ aw ax => ?_
   obtain ⟨U, V, W, rfl, a0, ay, a1⟩ := aw
   have az : AtK _ ar au [sv m.Field, sv m.Term, .slice U V W] := ax
   refine lv (rv_loadS (cs := [sv m.Field, sv m.Term, .slice U V W]) tf112 rfl S az rfl) (al tf112 S fun aA a2 aB => ?_)
   have aC : SH _ _ _ _ _ [obj aA [sv [], sv [], .slice none 0 0] 112, _, _] := aB
   refine ls [sv m.Field, sv m.Term, .slice U V W] (.agg #[sv m.Field, sv m.Term, .slice U V W]) tf112 aC fun a3 X => (nr (fa ff112_0 rfl (lv (rv_loadm1 tf9 rfl m0 X rfl) (mv rfl (lv (rv_seql rfl rfl) (nq (wcc aq rfl (fun aD ab => ?_) (fun aD ab => ?_))))))))
   ·refine wc_region (mv rfl (fa ff112_1 rfl (lv (rv_loadm1 tf9 rfl m0 X rfl) (lb tStr (sv m.Term) [sv m.Term] m.Term underlying23 tf9 ⟨rfl, ay⟩ X fun a4 a5 a6 ae aE aF => ?_))))
    obtain ⟨a7, aG, aH⟩ := ob ab
    refine lp underlying23 tf9 (T.mono ae) aE aG aF.f3 fun aI aJ aK a8 aL aM aN aO => (av rfl (nb (qg (lv (rv_add_to rfl rfl (w64_succ hi51 (SliceAt.max (O.mono R)))) (mv rfl (wl_nil ?_))))))
    cases oi aH
    exact qd ⟨aI, aJ, aK, aL, rfl, aO.f3.s, ((J.trans ae).trans aM), aN⟩
   refine wc_skip (qe_block (qg (lv (rv_add_to rfl rfl (w64_succ hi51 (SliceAt.max (O.mono R)))) (mv rfl (wl_nil ?_)))))
   cases oi ab
   exact qd ⟨o, q, s, x, rfl, X.s, J, T⟩
  rintro aa _ an aP ⟨o, q, s, x, rfl, S, J, T⟩
  subst aP
  refine sr (lv (rv_lss rfl rfl) (ns (wc_cond_f rfl (decide_eq_false (by omega)) (wc_exit (qe_then_exit (qe_then_exit (qe_block_eq ?_)))))))
  cases oi am
  exact qd ⟨o, q, s, x, rfl, S, J, T⟩
 rintro _ a9 ⟨y, G, H, I, rfl, aQ, ba, aR⟩
 refine qr (mv rfl (av rfl (nq (wc_ret ?_))))
 cases oi aj
 exact ey results131 ⟨y, G, H, I, rfl, aQ.f1, aR⟩

set_option maxHeartbeats 2000000 in
theorem ok_impl_scorer_score (F : Nat) : ∀ {w : World} {K : KMap} {g1 : Nat} {a : Option Addr} {b c : Nat} {d : Option Addr} {f i : Nat} {k : Option Addr} {l m : Nat} {o : Option Addr} {q s : Nat} {R : Option Addr} {S T : Nat} {H : Option Addr} {I J : Nat} {y : Option Addr} {A B : Nat} {C : Option Addr} {D G : Nat} {p0_x : GScorer} {p1_q : GQuery} {p2_d : GDoc} {r : Int} (hS : SH w K (List.flatMap Item.gs [obj g1 [.slice a b c, .slice d f i, .slice k l m, .slice o q s] 123]) w K [obj g1 [.slice a b c, .slice d f i, .slice k l m, .slice o q s] 123]) (X : SliceAt tStr K a b c p0_x.c_.Stops) (Y : SliceAt tGSyn K d f i p0_x.c_.Syns) (aa : SliceAt tGDoc K k l m p0_x.s_.Docs) (ab : SliceAt tGEntry K o q s p0_x.s_.Entries) (bE : rng64 p1_q.Kind) (af : p1_q.Field.length ≤ maxLen) (aC : SliceAt tStr K R S T p1_q.Words) (aQ : rng64 p1_q.From) (a4 : rng64 p1_q.To) (aj : SliceAt tkGQuery K H I J p1_q.Kids) (ac : rng64 p2_d.Id) (ak : SliceAt tGField K y A B p2_d.Fields) (am : SliceAt tGAttr K C D G p2_d.Nums) (hD : ¬ dr.D) (hm : M.impl_scorer_score F p0_x p1_q p2_d = some r),
  Calls prog 77 #[.pointer (some ⟨g1, 0, none⟩), .agg #[.int .i64 p1_q.Kind, sv p1_q.Field, .slice R S T, .int .i64 p1_q.From, .int .i64 p1_q.To, .slice H I J], .agg #[.int .i64 p2_d.Id, .slice y A B, .slice C D G]] w fun e w' => ∃ K', e = .returned (.int .i64 r) ∧ SH w K (List.flatMap Item.gs [obj g1 [.slice a b c, .slice d f i, .slice k l m, .slice o q s] 123]) w' K' [obj g1 [.slice a b c, .slice d f i, .slice k l m, .slice o q s] 123] ∧ rng64 r := by
 induction F with
 | zero => intros; rename_i hm; rw [M.impl_scorer_score] at hm; cases hm
 | succ F ih =>
  intro w K g1 a b c d f i k l m o q s R S T H I J y A B C D G p0_x p1_q p2_d r hS X Y aa ab bE af aC aQ a4 aj ac ak am hD hm
  rw [M.impl_scorer_score] at hm
  refine ci func77 rfl ntmps77 (sr (bx rfl hS fun O f8 cC => ?_))
  have cD : SH _ _ _ _ _ [obj O [.int .i64 p1_q.Kind, sv p1_q.Field, .slice R S T, .int .i64 p1_q.From, .int .i64 p1_q.To, .slice H I J] 42, _] := cC
  refine bx rfl cD fun U f9 cE => ?_
  have V : SH _ _ _ _ _ [obj U [.int .i64 p2_d.Id, .slice y A B, .slice C D G] 54, _, _] := cE
  refine lv (rv_assign (v := .int .i64 0) rfl) (nsr (fa ff42_0 rfl (lv (rv_loadm1 tf3 rfl m1 V rfl) (nq (wc_block (sr (lv (rv_eql rfl rfl) (av rfl (nq ?_)))))))))
  refine wc_cond rfl (fun a5 => ?_) (fun a5 => ?_)
  ·have a7 := cond_t a5 hm
   refine sr (lv (rv_assign (v := .int .i64 100) rfl) (nq (wc_ret (qe_block_ret (qe_then_ret ?_)))))
   cases oi a7
   exact ey results77 ⟨K, rfl, V.s, (by decide : rng64 100)⟩
  have a7 := cond_f a5 hm
  refine sr (lv (rv_eql rfl rfl) (av rfl (nq (wcc a7 rfl (fun cF a8 => ?_) (fun cF a8 => ?_)))))
  ·refine wc_seq ?_
   have aB := V.drew
   refine wj0 (fun w' => Holds K w' ∧ HasObj O [.int .i64 p1_q.Kind, sv p1_q.Field, .slice R S T, .int .i64 p1_q.From, .int .i64 p1_q.To, .slice H I J] w' ∧ HasObj g1 [.slice a b c, .slice d f i, .slice k l m, .slice o q s] w' ∧ HasObj U [.int .i64 p2_d.Id, .slice y A B, .slice C D G] w') (fun w' => True) 16 [] mixed ⟨aB.hasK kr, aB.hasObj m1, aB.hasObj m2, aB.hasObj m0⟩ (fun _ => trivial) (jv 0 rfl (rv_move rfl) (jv 1 rfl (rv_fieldAddr ff42_1 rfl) (jh 2 rfl (fun _ h => rh_loadm1 tf9 rfl rfl h.2.1) (jv 3 rfl (rv_move rfl) (jv 4 rfl (rv_nilCheck rfl) (jv 5 rfl (rv_fieldAddr ff123_0 rfl) (jh 6 rfl (fun _ h => rh_loadmS (ds := [.slice a b c, .slice d f i]) tf26 rfl rfl rfl h.2.2.1) (jv 7 rfl (rv_fieldAddr ff42_2 rfl) (jh 8 rfl (fun _ h => rh_loadm1 tf23 rfl rfl h.2.1) ?_)))))))))
   obtain ⟨cG, cH, cI⟩ := ob a8
   refine ji 9 rfl underlying23 tf9 aC cH fun cJ cK ga cL cM => ?_
   obtain ⟨rfl, cN⟩ := cL
   have cO : AtK _ cJ cK [sv cG] := cM
   refine jh 10 rfl (fun _ h => rh_load1 tf9 rfl (cO 0 _ rfl) h.1) (jv 12 rfl (rv_fieldAddr ff54_0 rfl) (jh 13 rfl (fun _ h => rh_loadm1 tf3 rfl rfl h.2.2.2) (j1 11 rfl ?_)))
   obtain ⟨gb, cP, cQ⟩ := ob cI
   refine lk co26 ((ok_impl_TermOf F) aB.enter0 X Y cN cP) ?_
   rintro gc gd ⟨ge, rfl, aq, cR⟩
   have aD := (aB.c0 aq).t3
   refine jn ⟨aD.hasK aq.le, aD.hasObj m1, aD.hasObj m2, aD.hasObj m0⟩ (fun _ => trivial) (j1 14 rfl ?_)
   obtain ⟨gg, cS, cT⟩ := ob cQ
   have bF := aD.f2
   refine lk co83 ((ok_impl_scorer_points F) bF.e1 (X.mono aq.le) (Y.mono aq.le) (aa.mono aq.le) (ab.mono aq.le) af cR ac cS) ?_
   rintro gj gk ⟨cU, rfl, bG, cV⟩
   have aE := (bF.c1 bG).t3
   refine jn ⟨aE.hasK (aq.le.trans bG.le), aE.hasObj m2, aE.hasObj m0, aE.hasObj m1⟩ (fun _ => trivial) (jv 15 rfl (rv_assign rfl) (jd (qe_seq (wc_ret (qe_block_ret (qe_then_ret ?_))))))
   cases oi cT
   exact ey results77 ⟨cU, rfl, aE.s, cV⟩
  refine sr (lv (rv_eql rfl rfl) (av rfl (nq (wcc a8 rfl (fun cW a9 => ?_) (fun cW a9 => ?_)))))
  ·refine sr (mv rfl (lv (rv_loadmS (ds := [.int .i64 p1_q.Kind, sv p1_q.Field, .slice R S T, .int .i64 p1_q.From, .int .i64 p1_q.To, .slice H I J]) tf42 rfl m1 V rfl rfl) (lv (rv_loadmS (ds := [.int .i64 p2_d.Id, .slice y A B, .slice C D G]) tf54 rfl m0 V rfl rfl) ?_)))
   obtain ⟨gl, cX, cY⟩ := ob a9
   have bH := V.f2
   refine lk co130 ((ok_impl_scorer_phrase F) bH.e1 X Y aa ab bE af aC aQ a4 aj ac ak am hD cX) ?_
   rintro gm go ⟨cZ, rfl, c0, c1⟩
   have c2 := (bH.c1 c0).t3
   refine av rfl (nq (wc_ret (qe_block_ret (qe_then_ret ?_))))
   cases oi cY
   exact ey results77 ⟨cZ, rfl, c2.s, c1⟩
  refine sr (lv (rv_eql rfl rfl) (av rfl (nq (wcc a9 rfl (fun c3 ba => ?_) (fun c3 ba => ?_)))))
  ·refine sr (lv (rv_assign (v := .int .i64 0) rfl) (ns (wc_seq ?_)))
   have bb := V.drew
   refine wj0 (fun w' => Holds K w' ∧ HasObj O [.int .i64 p1_q.Kind, sv p1_q.Field, .slice R S T, .int .i64 p1_q.From, .int .i64 p1_q.To, .slice H I J] w') (fun w' => True) 8 [] mixed ⟨bb.hasK kr, bb.hasObj m1⟩ (fun _ => trivial) (jv 0 rfl (rv_move rfl) (jv 1 rfl (rv_nilCheck rfl) (jv 2 rfl (rv_fieldAddr ff123_1 rfl) (jv 3 rfl (rv_fieldAddr ff42_1 rfl) (jh 4 rfl (fun _ h => rh_loadm1 tf9 rfl rfl h.2) (jv 7 rfl (rv_move (v := .int .i64 0) rfl) (j1 5 rfl ?_)))))))
   obtain ⟨c5, c6, c7⟩ := ob ba
   have bI := bb.f2
   refine lk co131 ((ok_impl_Seg_terms__ofGScorer1 F) bI.e1 X Y aa ab af c6) ?_
   rintro gp gq ⟨c9, da, db, bc, rfl, ar, aR⟩
   have bd := (bI.c1 ar).t4
   refine jn ⟨bd.hasK ar.le, bd.hasObj m3⟩ (fun _ => trivial) (jv 6 rfl (rv_len (t := tStr) underlying23 rfl aR) (jd (qe_seq ?_)))
   obtain ⟨bJ, dc, dd⟩ := ob c7
   refine wc_cutg (IW w K (List.flatMap Item.gs [obj g1 [.slice a b c, .slice d f i, .slice k l m, .slice o q s] 123]) bc [(0, pt g1), (7, .int .i64 bJ)] [obj g1 [.slice a b c, .slice d f i, .slice k l m, .slice o q s] 123] (rng64 bJ)) ?_ ?_
   ·refine wc_block ?_
    obtain ⟨gr, de, df⟩ := ob dc
    have dg := bd.f2.f3.f3.sb (sk (sk (sk (sd sz))))
    refine qF (fun (bK : Nat) (aS : Int) => IW w K (List.flatMap Item.gs [obj g1 [.slice a b c, .slice d f i, .slice k l m, .slice o q s] 123]) bc [(0, pt g1), (4, pt O), (5, pt U), (7, .int .i64 aS), (51, .slice c9 da db), (52, .int .i64 (c5.length : Int)), (53, .int .i64 ((bK : Nat) : Int))] [obj g1 [.slice a b c, .slice d f i, .slice k l m, .slice o q s] 123, obj O [.int .i64 p1_q.Kind, sv p1_q.Field, .slice R S T, .int .i64 p1_q.From, .int .i64 p1_q.To, .slice H I J] 42, obj U [.int .i64 p2_d.Id, .slice y A B, .slice C D G] 54] (rng64 aS)) de ⟨bc, rfl, dg, kr, (by decide : rng64 0)⟩ ?_ ?_
    ·rintro bK aS _ dh gv hi137 di ⟨bL, rfl, au, ad, aT⟩
     refine sr (lv (rv_lss rfl rfl) (ns (wc_cond_t rfl (decide_eq_true (by omega)) (wc_skip (qe_seq (wc_seq (wc_block (sr ?_))))))))
     obtain ⟨dj, dk, dl⟩ := ob di
     refine li underlying23 tf9 (aR.mono ad) dk fun dm dn gw dp dq => ?_
     obtain ⟨rfl, bM⟩ := dp
     have dt : AtK _ dm dn [sv dj] := dq
     refine lv (rv_load1 tf9 rfl au (dt 0 _ rfl)) (av rfl (nr (mv rfl (fa ff42_2 rfl (lv (rv_loadm1 tf23 rfl m1 au rfl) ?_)))))
     obtain ⟨du, dv, dw⟩ := ob dl
     refine li underlying23 tf9 (aC.mono (ar.le.trans ad)) dv fun dx dy gx dz dA => ?_
     obtain ⟨rfl, dB⟩ := dz
     have dC : AtK _ dx dy [sv du] := dA
     refine lv (rv_load1 tf9 rfl au (dC 0 _ rfl)) ?_
     obtain ⟨gy, dD, dE⟩ := ob dw
     refine lk co132 ((ok_impl_NearFar F) au.enter0 bM dB dD) ?_
     rintro gz gA ⟨gB, rfl, aw, dF⟩
     have be := (au.c0 aw).t3
     refine av rfl (nr (mv rfl (fa ff42_3 rfl (lv (rv_loadm1 tf3 rfl m1 be rfl) ?_))))
     obtain ⟨gC, dG, dH⟩ := ob dE
     refine lk co58 ((ok_impl_within F) be.enter0 dF (by decide : rng64 0) aQ dG) ?_
     rintro gD gE ⟨dI, rfl, ax⟩
     have aF := (be.c0 ax).t3
     refine nq (wcc dH rfl (fun dJ bf => ?_) (fun dJ bf => ?_))
     ·refine wc_region (mv rfl (mv rfl (fa ff42_1 rfl (lv (rv_loadm1 tf9 rfl m1 aF rfl) (mv rfl (fa ff54_0 rfl (lv (rv_loadm1 tf3 rfl m2 aF rfl) ?_)))))))
      obtain ⟨gF, dK, dL⟩ := ob bf
      refine lk co83 ((ok_impl_scorer_points F) aF.e1 (SliceAt.mono (((ar.le.trans ad).trans aw.le).trans ax.le) X) (SliceAt.mono (((ar.le.trans ad).trans aw.le).trans ax.le) Y) (SliceAt.mono (((ar.le.trans ad).trans aw.le).trans ax.le) aa) (SliceAt.mono (((ar.le.trans ad).trans aw.le).trans ax.le) ab) af bM ac dK) ?_
      rintro gG gH ⟨dM, rfl, bN, gI⟩
      have dN := (aF.c1 bN).t3
      refine mv rfl (lv (rv_sub rfl rfl) (lv (rv_mul rfl rfl) ?_))
      obtain ⟨gJ, bO, dO⟩ := ob dL
      refine lv (rv_quo rfl rfl bO) (lv (rv_max2 rfl rfl) (av rfl (nb (qg (lv (rv_add_to rfl rfl (w64_succ hi137 (SliceAt.max aR))) (mv rfl (wl_nil ?_)))))))
      cases oi dO
      exact qd ⟨dM, rfl, dN, (((ad.trans aw.le).trans ax.le).trans bN.le), (rng_max aT (rng_quo bO))⟩
     refine wc_skip (qe_block (qg (lv (rv_add_to rfl rfl (w64_succ hi137 (SliceAt.max aR))) (mv rfl (wl_nil ?_)))))
     cases oi bf
     exact qd ⟨dI, rfl, aF, ((ad.trans aw.le).trans ax.le), aT⟩
    rintro aS _ dh dP ⟨bL, rfl, au, ad, aT⟩
    subst dP
    refine sr (lv (rv_lss rfl rfl) (ns (wc_cond_f rfl (decide_eq_false (by omega)) (wc_exit (qe_then_exit (qe_then_exit (qe_block_eq ?_)))))))
    cases oi df
    exact qd ⟨bL, rfl, au.s, ad, aT⟩
   rintro _ gK ⟨dQ, rfl, dR, gL, dS⟩
   refine qr (mv rfl (av rfl (nq (wc_ret (qe_block_ret (qe_then_ret ?_))))))
   cases oi dd
   exact ey results77 ⟨dQ, rfl, dR, dS⟩
  refine sr (lv (rv_eql rfl rfl) (av rfl (nq (wcc ba rfl (fun dT bg => ?_) (fun dT bg => ?_)))))
  ·refine wc_seq (wc_seq ?_)
   have bh := V.drew
   refine wj0 (fun w' => Holds K w' ∧ HasObj O [.int .i64 p1_q.Kind, sv p1_q.Field, .slice R S T, .int .i64 p1_q.From, .int .i64 p1_q.To, .slice H I J] w') (fun w' => True) 8 [] mixed ⟨bh.hasK kr, bh.hasObj m1⟩ (fun _ => trivial) (jv 0 rfl (rv_move rfl) (jv 1 rfl (rv_nilCheck rfl) (jv 2 rfl (rv_fieldAddr ff123_1 rfl) (jv 3 rfl (rv_fieldAddr ff42_1 rfl) (jh 4 rfl (fun _ h => rh_loadm1 tf9 rfl rfl h.2) (jv 7 rfl (rv_move (v := .int .i64 0) rfl) (j1 5 rfl ?_)))))))
   obtain ⟨bP, dU, dV⟩ := ob bg
   have bQ := bh.f2
   refine lk co131 ((ok_impl_Seg_terms__ofGScorer1 F) bQ.e1 X Y aa ab af dU) ?_
   rintro gM gN ⟨bR, bS, bT, bi, rfl, ay, bj⟩
   have bk := (bQ.c1 ay).t4
   refine jn ⟨bk.hasK ay.le, bk.hasObj m3⟩ (fun _ => trivial) (jv 6 rfl (rv_len (t := tStr) underlying23 rfl bj) (jd (qe_seq ?_)))
   obtain ⟨dW, dX, aU⟩ := ob dV
   refine wc_cutg (IE dW w K (List.flatMap Item.gs [obj g1 [.slice a b c, .slice d f i, .slice k l m, .slice o q s] 123]) bi [(0, pt g1)] [obj g1 [.slice a b c, .slice d f i, .slice k l m, .slice o q s] 123]) ?_ ?_
   ·refine wc_block ?_
    obtain ⟨gO, dY, bU⟩ := ob dX
    have dZ := bk.f2.f3.f3.sb (sk (sk (sk (sd sz))))
    refine qf (fun (bl : Nat) (bV : Unit) => IV w K (List.flatMap Item.gs [obj g1 [.slice a b c, .slice d f i, .slice k l m, .slice o q s] 123]) bi [(0, pt g1), (4, pt O), (5, pt U), (89, .slice bR bS bT), (90, .int .i64 (bP.length : Int)), (91, .int .i64 ((bl : Nat) : Int))] [obj g1 [.slice a b c, .slice d f i, .slice k l m, .slice o q s] 123, obj O [.int .i64 p1_q.Kind, sv p1_q.Field, .slice R S T, .int .i64 p1_q.From, .int .i64 p1_q.To, .slice H I J] 42, obj U [.int .i64 p2_d.Id, .slice y A B, .slice C D G] 54]) dY ⟨bi, rfl, dZ, kr⟩ ?_ ?_
    ·rintro bl bV _ d0 gP hi232 d1 d2 ⟨bm, rfl, az, ag⟩
     refine sr (lv (rv_lss rfl rfl) (ns (wc_cond_t rfl (decide_eq_true (by omega)) (wc_skip (qe_seq (wc_seq (wc_block (sr ?_))))))))
     obtain ⟨bW, d3, d4⟩ := ob d1
     refine li underlying23 tf9 (bj.mono ag) d3 fun d5 d6 gQ d7 d8 => ?_
     obtain ⟨rfl, bX⟩ := d7
     have d9 : AtK _ d5 d6 [sv bW] := d8
     refine lv (rv_load1 tf9 rfl az (d9 0 _ rfl)) (av rfl (ns ?_))
     obtain ⟨ea, eb, ec⟩ := ob d4
     refine wc_cutg (IV w K (List.flatMap Item.gs [obj g1 [.slice a b c, .slice d f i, .slice k l m, .slice o q s] 123]) bm [(0, pt g1), (4, pt O), (5, pt U), (89, .slice bR bS bT), (90, .int .i64 (bP.length : Int)), (91, .int .i64 ((bl : Nat) : Int)), (111, .bool ea)] [obj g1 [.slice a b c, .slice d f i, .slice k l m, .slice o q s] 123, obj O [.int .i64 p1_q.Kind, sv p1_q.Field, .slice R S T, .int .i64 p1_q.From, .int .i64 p1_q.To, .slice H I J] 42, obj U [.int .i64 p2_d.Id, .slice y A B, .slice C D G] 54]) ?_ ?_
     ·refine wc_region (fa ff42_2 rfl (lv (rv_loadm1 tf23 rfl m1 az rfl) ?_))
      obtain ⟨ed, ee, ef⟩ := ob eb
      refine li underlying23 tf9 (aC.mono (ay.le.trans ag)) ee fun eg eh gR ei ej => ?_
      obtain ⟨rfl, ek⟩ := ei
      have el : AtK _ eg eh [sv ed] := ej
      refine lv (rv_load1 tf9 rfl az (el 0 _ rfl)) (mv rfl ?_)
      obtain ⟨gS, em, en⟩ := ob ef
      refine lk co133 ((ok_impl_GlobHas F) az.enter0 ek bX em) ?_
      rintro gT gU ⟨eo, rfl, aA⟩
      have aG := (az.c0 aA).t3
      refine mv rfl (bt en (fun W bn => ?_) (fun W bn => ?_))
      ·refine lg W (rv_move rfl) (lg W (rv_fieldAddr ff42_1 rfl) (lg W (rv_loadm1 tf9 rfl m1 aG rfl) (lg W (rv_move rfl) (lg W (rv_fieldAddr ff54_0 rfl) (lg W (rv_loadm1 tf3 rfl m2 aG rfl) ?_)))))
       obtain ⟨gV, ep, eq⟩ := ob bn
       refine wl_call (wg rfl rfl W) rfl (rt_call (vs := [pt g1, sv p1_q.Field, sv bW, .int .i64 p2_d.Id]) co134 rfl) ((ok_impl_scorer_places F) aG.e1 (X.mono ((ay.le.trans ag).trans aA.le)) (Y.mono ((ay.le.trans ag).trans aA.le)) (aa.mono ((ay.le.trans ag).trans aA.le)) (ab.mono ((ay.le.trans ag).trans aA.le)) af bX ac ep) ?_
       rintro gW gX ⟨gY, gZ, g0, es, rfl, bY, et⟩
       refine ⟨_, rfl, ?_⟩
       have eu := (aG.c1 bY).t3
       refine lg W (rv_len (t := tInt) underlying55 rfl et) (lg W (rv_gtr rfl rfl) (lv (rv_pick_t rfl W rfl) (wl_nil ?_)))
       cases oi eq
       exact qd ⟨es, rfl, eu, (aA.le.trans bY.le)⟩
      iterate 9 refine lu W ?_
      refine lv (rv_pick_f (v := .bool false) rfl W rfl) (wl_nil ?_)
      cases oi bn
      exact qd ⟨eo, rfl, aG, aA.le⟩
     rintro _ g2 ⟨bZ, rfl, b0, ev⟩
     refine qe_seq (wcc ec rfl (fun ew bo => ?_) (fun ew bo => ?_))
     ·refine sr (lv (rv_assign (v := .int .i64 100) rfl) (nq (wc_ret (qe_block_ret (qe_then_ret (qe_then_ret ?_))))))
      cases oi bo
      cases d2 _ rfl
      refine qe_block_ret (qe_then_ret ?_)
      cases oi bU
      refine qe_then_ret (qe_block_ret (qe_then_ret ?_))
      cases oi aU
      exact ey results77 ⟨bZ, rfl, b0.s, (by decide : rng64 100)⟩
     refine wc_skip (qe_block (qg (lv (rv_add_to rfl rfl (w64_succ hi232 (SliceAt.max bj))) (mv rfl (wl_nil ?_)))))
     cases oi bo
     exact qd ⟨_, rfl, bZ, rfl, b0, (ag.trans ev)⟩
    rintro bV _ d0 ex ⟨bm, rfl, az, ag⟩
    subst ex
    refine sr (lv (rv_lss rfl rfl) (ns (wc_cond_f rfl (decide_eq_false (by omega)) (wc_exit (qe_then_exit (qe_then_exit (qe_block_eq ?_)))))))
    cases oi bU
    exact qd ⟨_, bm, rfl, rfl, az.s, ag⟩
   rintro _ g3 ⟨g4, eA, rfl, rfl, eB, g5⟩
   have aU := elim_l aU
   refine qr (lv (rv_assign (v := .int .i64 0) rfl) (nq (wc_ret (qe_block_ret (qe_then_ret ?_)))))
   cases oi aU
   exact ey results77 ⟨eA, rfl, eB, (by decide : rng64 0)⟩
  refine sr (lv (rv_eql rfl rfl) (av rfl (nq (wcc bg rfl (fun eC bp => ?_) (fun eC bp => ?_)))))
  ·refine wc_seq (wc_seq (wc_quiet mixed (by kernel_rfl) V (kh (rq_loadmS (ds := [.int .i64 p2_d.Id, .slice y A B, .slice C D G]) tf54 rfl m0 rfl rfl) (kv (rv_fieldAddr ff42_1 rfl) (kh (rq_loadm1 tf9 rfl m1 rfl) ?_)))))
   obtain ⟨g6, b1, eD⟩ := ob bp
   refine kd co135 (fun _ _ eE b2 => (ok_impl_DocNum F) eE.enter0 ac (ak.mono b2) (am.mono b2) af b1) ?_
   obtain ⟨_, _, _, ⟨_, _, _, eF⟩, _⟩ := (ok_impl_DocNum F) V.enter0 ac ak am af b1 []
   refine kv (rv_fieldAddr ff42_3 rfl) (kh (rq_loadm1 tf3 rfl m1 rfl) (kv (rv_fieldAddr ff42_4 rfl) (kh (rq_loadm1 tf3 rfl m1 rfl) ?_)))
   obtain ⟨g7, eG, eH⟩ := ob eD
   refine kc co58 (fun _ _ eI g8 => (ok_impl_within F) eI.enter0 eF aQ a4 eG) (wq_nil ?_)
   rintro g9 ⟨b3, b4, hb⟩
   refine qe_seq (wcc eH rfl (fun eJ bq => ?_) (fun eJ bq => ?_))
   ·refine sr (lv (rv_assign (v := .int .i64 100) rfl) (nq (rr (qe_block_ret (qe_then_ret ?_)))))
    cases oi bq
    exact ey results77 ⟨b3, rfl, b4.s, (by decide : rng64 100)⟩
   refine wc_skip (qr (lv (rv_assign (v := .int .i64 0) rfl) (nq (wc_ret (qe_block_ret (qe_then_ret ?_))))))
   cases oi bq
   exact ey results77 ⟨b3, rfl, b4.s, (by decide : rng64 0)⟩
  refine sr (lv (rv_eql rfl rfl) (av rfl (nq (wcc bp rfl (fun eK br => ?_) (fun eK br => ?_)))))
  ·refine wc_seq ?_
   have aV := V.drew
   refine wh1 (fun w' => Holds K w' ∧ HasObj O [.int .i64 p1_q.Kind, sv p1_q.Field, .slice R S T, .int .i64 p1_q.From, .int .i64 p1_q.To, .slice H I J] w' ∧ HasObj U [.int .i64 p2_d.Id, .slice y A B, .slice C D G] w') (fun w' => True) 11 [] mixed ⟨aV.hasK kr, aV.hasObj m1, aV.hasObj m0⟩ (fun _ => trivial) (gt (rv_fieldAddr ff42_3 rfl) (gh (fun _ h => rh_loadm1 tf3 rfl rfl h.2.1) (gt (rv_move rfl) (gt (rv_fieldAddr ff42_5 rfl) (gh (fun _ h => rh_loadm1 tf40 rfl rfl h.2.1) ?_)))))
   obtain ⟨an, eL, eM⟩ := ob br
   refine gi underlying40 tf42 aj eL fun eN eO hc eP eQ => ?_
   obtain ⟨b5, b6, b7, b8, b9, ca, rfl, eR, eS, eT, eU, eV, eW⟩ := tkGQuery_open eP
   have eX : AtK _ eN eO [.int .i64 an.Kind, sv an.Field, .slice b5 b6 b7, .int .i64 an.From, .int .i64 an.To, .slice b8 b9 ca] := eQ
   refine gh (fun _ h => rh_loadS (cs := [.int .i64 an.Kind, sv an.Field, .slice b5 b6 b7, .int .i64 an.From, .int .i64 an.To, .slice b8 b9 ca]) tf42 rfl eX rfl h.1) (gh (fun _ h => rh_loadmS (ds := [.int .i64 p2_d.Id, .slice y A B, .slice C D G]) tf54 rfl rfl rfl h.2.2) (gn ?_))
   obtain ⟨hd, eY, eZ⟩ := ob eM
   have cb := aV.f2
   refine lk co77 (ih cb.e1 X Y aa ab eR eS eT eU eV eW ac ak am hD eY) ?_
   rintro he hf ⟨e0, rfl, cc, hg⟩
   have aW := (cb.c1 cc).t3
   refine wl_nil (qh ⟨aW.hasK cc.le, aW.hasObj m2, aW.hasObj m1⟩ (fun _ => trivial) (gt (rv_mul rfl rfl) (gt (rv_assign rfl) (gd' (qe_seq (wc_ret (qe_block_ret (qe_then_ret ?_))))))))
   cases oi eZ
   exact ey results77 ⟨e0, rfl, aW.s, (w64_rng _)⟩
  refine sr (lv (rv_eql rfl rfl) (av rfl (nq (wcc br rfl (fun e1 bs => ?_) (fun e1 bs => ?_)))))
  ·refine wc_seq (wc_seq ?_)
   have aX := V.drew
   refine wh1 (fun w' => Holds K w' ∧ HasObj O [.int .i64 p1_q.Kind, sv p1_q.Field, .slice R S T, .int .i64 p1_q.From, .int .i64 p1_q.To, .slice H I J] w' ∧ HasObj U [.int .i64 p2_d.Id, .slice y A B, .slice C D G] w') (fun w' => True) 8 [] mixed ⟨aX.hasK kr, aX.hasObj m1, aX.hasObj m0⟩ (fun _ => trivial) (gt (rv_move rfl) (gt (rv_fieldAddr ff42_5 rfl) (gh (fun _ h => rh_loadm1 tf40 rfl rfl h.2.1) ?_)))
   obtain ⟨ao, e2, e3⟩ := ob bs
   refine gi underlying40 tf42 aj e2 fun e4 e5 hh e6 e7 => ?_
   obtain ⟨cd, ce, cf, cg, ch, cj, rfl, e8, e9, fb, fc, fd, fe⟩ := tkGQuery_open e6
   have fg : AtK _ e4 e5 [.int .i64 ao.Kind, sv ao.Field, .slice cd ce cf, .int .i64 ao.From, .int .i64 ao.To, .slice cg ch cj] := e7
   refine gh (fun _ h => rh_loadS (cs := [.int .i64 ao.Kind, sv ao.Field, .slice cd ce cf, .int .i64 ao.From, .int .i64 ao.To, .slice cg ch cj]) tf42 rfl fg rfl h.1) (gh (fun _ h => rh_loadmS (ds := [.int .i64 p2_d.Id, .slice y A B, .slice C D G]) tf54 rfl rfl rfl h.2.2) (gn ?_))
   obtain ⟨hi, fh, fi⟩ := ob e3
   have ck := aX.f2
   refine lk co77 (ih ck.e1 X Y aa ab e8 e9 fb fc fd fe ac ak am hD fh) ?_
   rintro hj hk ⟨cl, rfl, ah, hn⟩
   have aH := (ck.c1 ah).t3
   refine wl_nil (qh ⟨aH.hasK ah.le, aH.hasObj m2, aH.hasObj m1⟩ (fun _ => trivial) (gt (rv_gtr rfl rfl) (gd' (qe_seq (wcc fi rfl (fun fj bu => ?_) (fun fj bu => ?_))))))
   ·refine sr (lv (rv_assign (v := .int .i64 0) rfl) (nq (rr (qe_block_ret (qe_then_ret ?_)))))
    cases oi bu
    exact ey results77 ⟨cl, rfl, aH.s, (by decide : rng64 0)⟩
   refine wc_skip (qs ?_)
   have aI := aH.drew
   refine wh1 (fun w' => Holds cl w' ∧ HasObj O [.int .i64 p1_q.Kind, sv p1_q.Field, .slice R S T, .int .i64 p1_q.From, .int .i64 p1_q.To, .slice H I J] w' ∧ HasObj U [.int .i64 p2_d.Id, .slice y A B, .slice C D G] w') (fun w' => True) 8 [] mixed ⟨aI.hasK kr, aI.hasObj m2, aI.hasObj m1⟩ (fun _ => trivial) (gt (rv_move rfl) (gt (rv_fieldAddr ff42_5 rfl) (gh (fun _ h => rh_loadm1 tf40 rfl rfl h.2.1) ?_)))
   obtain ⟨ap, fk, fl⟩ := ob bu
   refine gi underlying40 tf42 (aj.mono ah.le) fk fun fm fn ho fo fp => ?_
   obtain ⟨cm, cn, cp, cq, cr, ct, rfl, fq, fr, fs, ft, fu, fv⟩ := tkGQuery_open fo
   have fw : AtK _ fm fn [.int .i64 ap.Kind, sv ap.Field, .slice cm cn cp, .int .i64 ap.From, .int .i64 ap.To, .slice cq cr ct] := fp
   refine gh (fun _ h => rh_loadS (cs := [.int .i64 ap.Kind, sv ap.Field, .slice cm cn cp, .int .i64 ap.From, .int .i64 ap.To, .slice cq cr ct]) tf42 rfl fw rfl h.1) (gh (fun _ h => rh_loadmS (ds := [.int .i64 p2_d.Id, .slice y A B, .slice C D G]) tf54 rfl rfl rfl h.2.2) (gn ?_))
   obtain ⟨hp, fx, fy⟩ := ob fl
   refine lk co77 (ih aI.e1 (X.mono ah.le) (Y.mono ah.le) (aa.mono ah.le) (ab.mono ah.le) fq fr fs ft fu fv ac (ak.mono ah.le) (am.mono ah.le) hD fx) ?_
   rintro hq hr ⟨fz, rfl, cu, fA⟩
   have aY := (aI.c1 cu).t3
   refine wl_nil (qh ⟨aY.hasK cu.le, aY.hasObj m2, aY.hasObj m1⟩ (fun _ => trivial) (gt (rv_assign rfl) (gd' (qe_seq (wc_ret (qe_block_ret (qe_then_ret ?_)))))))
   cases oi fy
   exact ey results77 ⟨fz, rfl, aY.s, fA⟩
  refine wc_skip (qe_block (qr (lv (rv_assign (v := .int .i64 0) rfl) (nsr (fa ff42_5 rfl (lv (rv_loadm1 tf40 rfl m1 V rfl) (lv (rv_len (t := tkGQuery) underlying40 rfl aj) (lv (rv_move (v := .int .i64 0) rfl) (nq ?_)))))))))
  obtain ⟨fB, fC, aZ⟩ := ob bs
  refine wc_cutg (fun E' w' => ∃ a0 a1, fB = .inl a0 ∧ E' = [(0, pt g1), (13, .int .i64 a0)] ∧ SH w K (List.flatMap Item.gs [obj g1 [.slice a b c, .slice d f i, .slice k l m, .slice o q s] 123]) w' a1 [obj g1 [.slice a b c, .slice d f i, .slice k l m, .slice o q s] 123] ∧ KLe K a1 ∧ rng64 a0) ?_ ?_
  ·refine wc_block ?_
   obtain ⟨ht, fD, cv⟩ := ob fC
   refine qf (fun (bv : Nat) (aJ : Int) => IW w K (List.flatMap Item.gs [obj g1 [.slice a b c, .slice d f i, .slice k l m, .slice o q s] 123]) K [(0, pt g1), (4, pt O), (5, pt U), (13, .int .i64 aJ), (154, .slice H I J), (155, .int .i64 (p1_q.Kids.length : Int)), (156, .int .i64 ((bv : Nat) : Int))] [obj g1 [.slice a b c, .slice d f i, .slice k l m, .slice o q s] 123, obj O [.int .i64 p1_q.Kind, sv p1_q.Field, .slice R S T, .int .i64 p1_q.From, .int .i64 p1_q.To, .slice H I J] 42, obj U [.int .i64 p2_d.Id, .slice y A B, .slice C D G] 54] (rng64 aJ)) fD ⟨K, rfl, V.f1.f2, kr, (by decide : rng64 0)⟩ ?_ ?_
   ·rintro bv aJ _ fE hu hi446 fF fG ⟨cw, rfl, a3, ae, cx⟩
    refine sr (lv (rv_lss rfl rfl) (ns (wc_cond_t rfl (decide_eq_true (by omega)) (wc_skip (qe_seq (wc_seq (wc_block (sr ?_))))))))
    obtain ⟨x, fH, fI⟩ := ob fF
    refine li underlying40 tf42 (aj.mono ae) fH fun fJ fK hv fL fM => ?_
    obtain ⟨aK, aL, aM, aN, aO, aP, rfl, fN, fO, fP, fQ, fR, fS⟩ := tkGQuery_open fL
    have fT : AtK _ fJ fK [.int .i64 x.Kind, sv x.Field, .slice aK aL aM, .int .i64 x.From, .int .i64 x.To, .slice aN aO aP] := fM
    refine lv (rv_loadS (cs := [.int .i64 x.Kind, sv x.Field, .slice aK aL aM, .int .i64 x.From, .int .i64 x.To, .slice aN aO aP]) tf42 rfl a3 fT rfl) (al tf42 a3 fun fU hw fV => ?_)
    have fW : SH _ _ _ _ _ [obj fU [.int .i64 0, sv [], .slice none 0 0, .int .i64 0, .int .i64 0, .slice none 0 0] 42, _, _, _] := fV
    refine ls [.int .i64 x.Kind, sv x.Field, .slice aK aL aM, .int .i64 x.From, .int .i64 x.To, .slice aN aO aP] (.agg #[.int .i64 x.Kind, sv x.Field, .slice aK aL aM, .int .i64 x.From, .int .i64 x.To, .slice aN aO aP]) tf42 fW fun hx bz => (nr (mv rfl (lv (rv_loadmS (ds := [.int .i64 x.Kind, sv x.Field, .slice aK aL aM, .int .i64 x.From, .int .i64 x.To, .slice aN aO aP]) tf42 rfl m0 bz rfl rfl) (lv (rv_loadmS (ds := [.int .i64 p2_d.Id, .slice y A B, .slice C D G]) tf54 rfl m3 bz rfl rfl) ?_))))
    obtain ⟨fX, fY, fZ⟩ := ob fI
    have cy := bz.f1
    refine lk co77 (ih cy.e1 (X.mono ae) (Y.mono ae) (aa.mono ae) (ab.mono ae) fN fO fP fQ fR fS ac (ak.mono ae) (am.mono ae) hD fY) ?_
    rintro hy hz ⟨bA, rfl, cz, hA⟩
    have bB := (cy.c1 cz).t4
    refine av rfl (ns (wc_seq ?_))
    obtain ⟨f0, f1, f2⟩ := ob fZ
    refine wc_cutg (IV w K (List.flatMap Item.gs [obj g1 [.slice a b c, .slice d f i, .slice k l m, .slice o q s] 123]) bA [(0, pt g1), (4, pt O), (5, pt U), (13, .int .i64 aJ), (16, .int .i64 fX), (154, .slice H I J), (155, .int .i64 (p1_q.Kids.length : Int)), (156, .int .i64 ((bv : Nat) : Int)), (170, .bool f0)] [obj g1 [.slice a b c, .slice d f i, .slice k l m, .slice o q s] 123, obj O [.int .i64 p1_q.Kind, sv p1_q.Field, .slice R S T, .int .i64 p1_q.From, .int .i64 p1_q.To, .slice H I J] 42, obj U [.int .i64 p2_d.Id, .slice y A B, .slice C D G] 54]) ?_ ?_
    ·refine wc_region (mv rfl (lv (rv_eql rfl rfl) (mv rfl (bt f1 (fun ai bC => ?_) (fun ai bC => ?_)))))
     ·refine lg ai (rv_fieldAddr ff42_0 rfl) (lg ai (rv_loadm1 tf3 rfl m2 bB rfl) (lg ai (rv_eql rfl rfl) (lv (rv_pick_t rfl ai rfl) (wl_nil ?_))))
      cases oi bC
      exact qd ⟨bA, rfl, bB.s, kr⟩
     refine lu ai (lu ai (lu ai (lv (rv_pick_f (v := .bool false) rfl ai rfl) (wl_nil ?_))))
     cases oi bC
     exact qd ⟨bA, rfl, bB.s, kr⟩
    rintro _ hB ⟨cA, rfl, cB, f3⟩
    refine qe_seq (wcc f2 rfl (fun f4 bD => ?_) (fun f4 bD => ?_))
    ·refine sr (lv (rv_assign (v := .int .i64 0) rfl) (nq (rr (qe_block_ret (qe_then_ret (qe_then_ret ?_))))))
     cases oi bD
     cases fG _ rfl
     refine qe_block_ret (qe_then_ret ?_)
     cases oi cv
     refine qe_then_ret ?_
     cases oi aZ
     exact ey results77 ⟨cA, rfl, cB.s, (by decide : rng64 0)⟩
    refine wc_skip (qe_seq (wc_region (mv rfl (mv rfl (lv (rv_add rfl rfl) (av rfl (nb (qg (lv (rv_add_to rfl rfl (w64_succ hi446 (SliceAt.max aj))) ?_)))))))))
    refine mv rfl (wl_nil ?_)
    cases oi bD
    exact qd ⟨_, rfl, cA, rfl, cB, ((ae.trans cz.le).trans f3), (w64_rng _)⟩
   rintro aJ _ fE f5 ⟨cw, rfl, a3, ae, cx⟩
   subst f5
   refine sr (lv (rv_lss rfl rfl) (ns (wc_cond_f rfl (decide_eq_false (by omega)) (wc_exit (qe_then_exit (qe_then_exit (qe_block_eq ?_)))))))
   cases oi cv
   exact qd ⟨_, cw, rfl, rfl, a3.s, ae, cx⟩
  rintro _ hC ⟨a0, a1, rfl, rfl, f6, hE, f7⟩
  have aZ := elim_l aZ
  refine qr (mv rfl (av rfl (nq (wc_ret ?_))))
  cases oi aZ
  exact ey results77 ⟨a1, rfl, f6, f7⟩

set_option maxHeartbeats 2000000 in
theorem ok_impl_scores {p0_c : GConf} {p1_s : GSeg} {p2_q : GQuery} {r : (List GHit)} (hS : SH w K [] w K []) (aE : SliceAt tStr K A a b p0_c.Stops) (aF : SliceAt tGSyn K B c d p0_c.Syns) (T : SliceAt tGDoc K C f i p1_s.Docs) (aG : SliceAt tGEntry K D k l p1_s.Entries) (aH : rng64 p2_q.Kind) (aI : p2_q.Field.length ≤ maxLen) (aJ : SliceAt tStr K G m n p2_q.Words) (aK : rng64 p2_q.From) (aL : rng64 p2_q.To) (aM : SliceAt tkGQuery K H o p p2_q.Kids) (hG30 : GMap cellsGShape 1 q M.glob1 w) (hD : ¬ dr.D) (hm : M.impl_scores F p0_c p1_s p2_q = some r) :
  Calls prog 92 #[.agg #[.slice A a b, .slice B c d], .agg #[.slice C f i, .slice D k l], .agg #[.int .i64 p2_q.Kind, sv p2_q.Field, .slice G m n, .int .i64 p2_q.From, .int .i64 p2_q.To, .slice H o p]] w fun e w' => ∃ a_1 n_2 c_3 K', e = .returned (.slice a_1 n_2 c_3) ∧ SH w K [] w' K' [tail (.slice a_1 n_2 c_3) 86 2] ∧ SliceAt tGHit K' a_1 n_2 c_3 r := by
 rw [M.impl_scores] at hm
 refine ci func92 rfl ntmps92 (sr (bx rfl hS fun au w32 aU => ?_))
 have aV : SH _ _ _ _ _ [obj au [.slice A a b, .slice B c d] 26] := aU
 refine bx rfl aV fun aw bU aW => ?_
 have aX : SH _ _ _ _ _ [obj aw [.slice C f i, .slice D k l] 46, _] := aW
 refine bx rfl aX fun V bV aY => ?_
 have aZ : SH _ _ _ _ _ [obj V [.int .i64 p2_q.Kind, sv p2_q.Field, .slice G m n, .int .i64 p2_q.From, .int .i64 p2_q.To, .slice H o p] 42, _, _] := aY
 refine lv (rv_assign (v := .slice none 0 0) rfl) (nr (b0 tGHit underlying38 tf86 aZ fun ak bW a0 s aN am => (av rfl (ns (wc_seq ?_)))))
 obtain ⟨a1, a2, a3⟩ := ob hm
 refine wc_cutg (IV w K [] a0 [(3, pt au), (4, pt aw), (5, pt V), (7, .slice ak 0 0), (21, .bool a1)] [obj au [.slice A a b, .slice B c d] 26, obj aw [.slice C f i, .slice D k l] 46, obj V [.int .i64 p2_q.Kind, sv p2_q.Field, .slice G m n, .int .i64 p2_q.From, .int .i64 p2_q.To, .slice H o p] 42, tail (.slice ak 0 0) 86 2]) ?_ ?_
 ·refine wc_region (lv (rv_loadmS (ds := [.slice A a b, .slice B c d]) tf26 rfl m3 am rfl rfl) (lv (rv_loadmS (ds := [.slice C f i, .slice D k l]) tf46 rfl m2 am rfl rfl) ?_))
  obtain ⟨bX, a4, a5⟩ := ob a2
  refine lk co25 ((ok_impl_SegOk F) am.enter0 (aE.mono s) (aF.mono s) (T.mono s) (aG.mono s) a4) ?_
  rintro bY bZ ⟨a6, rfl, W⟩
  have X := (am.c0 W).t4
  refine lv (rv_not rfl) (mv rfl (bt a5 (fun I ax => ?_) (fun I ax => ?_)))
  ·refine lu I (lu I (lu I (lv (rv_pick_t (v := .bool true) rfl I rfl) (wl_nil ?_))))
   cases oi ax
   exact qd ⟨a6, rfl, X.f1.f2.f3, W.le⟩
  refine lg I (rv_loadmS (ds := [.int .i64 p2_q.Kind, sv p2_q.Field, .slice G m n, .int .i64 p2_q.From, .int .i64 p2_q.To, .slice H o p]) tf42 rfl m1 X rfl rfl) ?_
  obtain ⟨b1, a7, a8⟩ := ob ax
  refine wl_call (wg rfl rfl I) rfl (rt_call (vs := [.agg #[.int .i64 p2_q.Kind, sv p2_q.Field, .slice G m n, .int .i64 p2_q.From, .int .i64 p2_q.To, .slice H o p]]) co43 rfl) ((ok_impl_QueryOk F) X.enter0 aH aI (aJ.mono (s.trans W.le)) aK aL (aM.mono (s.trans W.le)) (hG30.keep X) a7) ?_
  rintro b2 b3 ⟨a9, rfl, aO⟩
  refine ⟨_, rfl, ?_⟩
  have ba := (X.c0 aO).t4
  refine lg I (rv_not rfl) (lv (rv_pick_f rfl I rfl) (wl_nil ?_))
  cases oi a8
  exact qd ⟨a9, rfl, ba.f1.f2.f3, (W.le.trans aO.le)⟩
 rintro _ b4 ⟨an, rfl, ao, x⟩
 refine qe_seq (wcc a3 rfl (fun bb ay => ?_) (fun bb ay => ?_))
 ·refine sr (mv rfl (av rfl (nq (rr ?_))))
  cases oi ay
  exact ey results92 ⟨ak, 0, 0, an, rfl, ao.s, (aN.mono x)⟩
 refine wc_skip (qr (lv (rv_loadmS (ds := [.slice A a b, .slice B c d]) tf26 rfl m0 ao rfl rfl) (lv (rv_loadmS (ds := [.slice C f i, .slice D k l]) tf46 rfl m1 ao rfl rfl) (lv (rv_build (cs := #[.slice A a b, .slice B c d, .slice C f i, .slice D k l]) sp123 tf123 rfl (by kernel_rfl)) (bx rfl ao fun az b5 bc => ?_)))))
 have aP : SH _ _ _ _ _ [obj az [.slice A a b, .slice B c d, .slice C f i, .slice D k l] 123, _, _, _, _] := bc
 refine av rfl (nsr (fa ff46_0 rfl (lv (rv_loadm1 tf35 rfl m2 aP rfl) (lv (rv_len (t := tGDoc) underlying35 rfl (T.mono (s.trans x))) (lv (rv_move (v := .int .i64 0) rfl) (nq ?_))))))
 obtain ⟨bd, be, bf⟩ := ob ay
 refine wc_cutg (fun E' w' => ∃ Y aa ab ac, E' = [(7, .slice Y aa ab)] ∧ SH w K [] w' ac [tail (.slice Y aa ab) 86 2] ∧ KLe an ac ∧ SliceAt tGHit ac Y aa ab bd) ?_ ?_
 ·refine wc_block ?_
  obtain ⟨b6, bg, bh⟩ := ob be
  have bi := aP.f4.f1.f4.sb (sk (sk (sk (sd (sd sz)))))
  refine qF (fun (aQ : Nat) (aA : (List GHit)) E' w' => ∃ O R S U, E' = [(5, pt V), (7, .slice O R S), (8, pt az), (28, .slice C f i), (29, .int .i64 (p1_s.Docs.length : Int)), (30, .int .i64 ((aQ : Nat) : Int))] ∧ SH w K [] w' U [obj V [.int .i64 p2_q.Kind, sv p2_q.Field, .slice G m n, .int .i64 p2_q.From, .int .i64 p2_q.To, .slice H o p] 42, obj az [.slice A a b, .slice B c d, .slice C f i, .slice D k l] 123, tail (.slice O R S) 86 2] ∧ KLe an U ∧ SliceAt tGHit U O R S aA) bg ⟨ak, 0, 0, an, rfl, bi, kr, (aN.mono x)⟩ ?_ ?_
  ·rintro aQ aA _ bj b7 hi116 bk ⟨O, R, S, U, rfl, ap, y, aq⟩
   refine sr (lv (rv_lss rfl rfl) (ns (wc_cond_t rfl (decide_eq_true (by omega)) (wc_skip (qe_seq (wc_seq (wc_block (sr ?_))))))))
   obtain ⟨J, bl, bm⟩ := ob bk
   refine li underlying35 tf54 (T.mono ((s.trans x).trans y)) bl fun bn bo b8 bp bq => ?_
   obtain ⟨ad, ae, af, ag, ah, ai, rfl, aR, br, bs⟩ := bp
   have bu : AtK _ bn bo [.int .i64 J.Id, .slice ad ae af, .slice ag ah ai] := bq
   refine lv (rv_loadS (cs := [.int .i64 J.Id, .slice ad ae af, .slice ag ah ai]) tf54 rfl ap bu rfl) (al tf54 ap fun bv b9 bz => ?_)
   have bA : SH _ _ _ _ _ [obj bv [.int .i64 0, .slice none 0 0, .slice none 0 0] 54, _, _, _] := bz
   refine ls [.int .i64 J.Id, .slice ad ae af, .slice ag ah ai] (.agg #[.int .i64 J.Id, .slice ad ae af, .slice ag ah ai]) tf54 bA fun ca aB => (nr (mv rfl (lv (rv_loadmS (ds := [.int .i64 p2_q.Kind, sv p2_q.Field, .slice G m n, .int .i64 p2_q.From, .int .i64 p2_q.To, .slice H o p]) tf42 rfl m1 aB rfl rfl) (lv (rv_loadmS (ds := [.int .i64 J.Id, .slice ad ae af, .slice ag ah ai]) tf54 rfl m0 aB rfl rfl) ?_))))
   obtain ⟨ar, bB, bC⟩ := ob bm
   have aS := aB.f2
   refine lk co77 ((ok_impl_scorer_score F (p0_x := (GScorer.mk p0_c p1_s))) aS.e1 (aE.mono ((s.trans x).trans y)) (aF.mono ((s.trans x).trans y)) (T.mono ((s.trans x).trans y)) (aG.mono ((s.trans x).trans y)) aH aI (aJ.mono ((s.trans x).trans y)) aK aL (aM.mono ((s.trans x).trans y)) aR br bs hD bB) ?_
   rintro cb cc ⟨bD, rfl, aj, bE⟩
   have aC := (aS.c1 aj).t4
   refine av rfl (nr (mv rfl (lv (rv_gtr rfl rfl) (nq (wcc bC rfl (fun bF aD => ?_) (fun bF aD => ?_))))))
   ·refine wc_region (mv rfl (fa ff54_0 rfl (lv (rv_loadm1 tf3 rfl m1 aC rfl) (mv rfl (lv (rv_build (cs := #[.int .i64 J.Id, .int .i64 ar]) sp86 tf86 rfl (by kernel_rfl)) (lb tGHit (.agg #[.int .i64 J.Id, .int .i64 ar]) [.int .i64 J.Id, .int .i64 ar] (GHit.mk J.Id ar) underlying38 tf86 ⟨rfl, aR, bE⟩ aC fun cd ce cf aT bG bH => ?_))))))
    obtain ⟨cg, bI, bJ⟩ := ob aD
    refine lp underlying38 tf86 (aq.mono (aj.le.trans aT)) bG bI bH.f4 fun bK bL bM ch bN bO bP bQ => (av rfl (nb (qg (lv (rv_add_to rfl rfl (w64_succ hi116 (SliceAt.max (T.mono (s.trans x))))) (mv rfl (wl_nil ?_))))))
    cases oi bJ
    exact qd ⟨bK, bL, bM, bN, rfl, bQ.f2.f4.s, (((y.trans aj.le).trans aT).trans bO), bP⟩
   refine wc_skip (qe_block (qg (lv (rv_add_to rfl rfl (w64_succ hi116 (SliceAt.max (T.mono (s.trans x))))) (mv rfl (wl_nil ?_)))))
   cases oi aD
   exact qd ⟨O, R, S, bD, rfl, aC.f3.f1.f3.s, (y.trans aj.le), (aq.mono aj.le)⟩
  rintro aA _ bj bR ⟨O, R, S, U, rfl, ap, y, aq⟩
  subst bR
  refine sr (lv (rv_lss rfl rfl) (ns (wc_cond_f rfl (decide_eq_false (by omega)) (wc_exit (qe_then_exit (qe_then_exit (qe_block_eq ?_)))))))
  cases oi bh
  exact qd ⟨O, R, S, U, rfl, ap.s, y, aq⟩
 rintro _ cj ⟨Y, aa, ab, ac, rfl, bS, ck, bT⟩
 refine qr (mv rfl (av rfl (nq (wc_ret ?_))))
 cases oi bf
 exact ey results92 ⟨Y, aa, ab, ac, rfl, bS, bT⟩

theorem ok_impl_TopOf {p0_c : GConf} {p1_s : GSeg} {p2_q : GQuery} {p3_most : Int} {r : (List GHit)} (hS : SH w K [] w K []) (R : SliceAt tStr K A a b p0_c.Stops) (S : SliceAt tGSyn K B c d p0_c.Syns) (T : SliceAt tGDoc K C f i p1_s.Docs) (U : SliceAt tGEntry K D k l p1_s.Entries) (V : rng64 p2_q.Kind) (W : p2_q.Field.length ≤ maxLen) (X : SliceAt tStr K G m n p2_q.Words) (Y : rng64 p2_q.From) (aa : rng64 p2_q.To) (ab : SliceAt tkGQuery K H o p p2_q.Kids) (I : rng64 p3_most) (hG31 : GMap cellsGShape 1 q M.glob1 w) (hD : ¬ dr.D) (hm : M.impl_TopOf F p0_c p1_s p2_q p3_most = some r) :
  Calls prog 37 #[.agg #[.slice A a b, .slice B c d], .agg #[.slice C f i, .slice D k l], .agg #[.int .i64 p2_q.Kind, sv p2_q.Field, .slice G m n, .int .i64 p2_q.From, .int .i64 p2_q.To, .slice H o p], .int .i64 p3_most] w fun e w' => ∃ a_1 n_2 c_3 K', e = .returned (.slice a_1 n_2 c_3) ∧ SH w K [] w' K' [tail (.slice a_1 n_2 c_3) 86 2] ∧ SliceAt tGHit K' a_1 n_2 c_3 r := by
 rw [M.impl_TopOf] at hm
 refine ci func37 rfl ntmps37 (sr (bx rfl hS fun ac aH ad => ?_))
 have ae : SH _ _ _ _ _ [obj ac [.slice A a b, .slice B c d] 26] := ad
 refine bx rfl ae fun af aI ag => ?_
 have ah : SH _ _ _ _ _ [obj af [.slice C f i, .slice D k l] 46, _] := ag
 refine bx rfl ah fun ai aJ aj => ?_
 have J : SH _ _ _ _ _ [obj ai [.int .i64 p2_q.Kind, sv p2_q.Field, .slice G m n, .int .i64 p2_q.From, .int .i64 p2_q.To, .slice H o p] 42, _, _] := aj
 refine lv (rv_assign (v := .slice none 0 0) rfl) (nsr (mv rfl ?_))
 obtain ⟨aK, ak, al⟩ := ob hm
 refine lk co58 ((ok_impl_within F) J.enter0 I (by decide : rng64 1) (by decide : rng64 16) ak) ?_
 rintro aL aM ⟨aN, rfl, s⟩
 have x := (J.c0 s).t3
 refine lv (rv_not rfl) (nq (wcc al rfl (fun am y => ?_) (fun am y => ?_)))
 ·refine sr (b0 tGHit underlying38 tf86 x fun an aO ao aP ap aq => (av rfl (nq (rr ?_))))
  cases oi y
  exact ey results37 ⟨an, 0, 0, ao, rfl, aq.s, ap⟩
 refine wc_skip (qr (lv (rv_loadmS (ds := [.slice A a b, .slice B c d]) tf26 rfl m2 x rfl rfl) (lv (rv_loadmS (ds := [.slice C f i, .slice D k l]) tf46 rfl m1 x rfl rfl) (lv (rv_loadmS (ds := [.int .i64 p2_q.Kind, sv p2_q.Field, .slice G m n, .int .i64 p2_q.From, .int .i64 p2_q.To, .slice H o p]) tf42 rfl m0 x rfl rfl) ?_))))
 obtain ⟨aQ, ar, au⟩ := ob y
 refine lk co92 ((ok_impl_scores F) x.enter0 (R.mono s.le) (S.mono s.le) (T.mono s.le) (U.mono s.le) V W (X.mono s.le) Y aa (ab.mono s.le) (hG31.keep x) hD ar) ?_
 rintro aR aS ⟨aT, aU, aV, aW, rfl, aw, ax⟩
 have O := (x.c0 aw).t4
 refine mv rfl ?_
 obtain ⟨aX, ay, az⟩ := ob au
 refine lk co91 ((ok_impl_firstHits F) O.enter0 ax I ay) ?_
 rintro aY aZ ⟨aA, aB, aC, aD, rfl, aE, aF⟩
 have aG := (O.c0 aE).t5
 refine av rfl (nq (wc_ret ?_))
 cases oi az
 exact ey results37 ⟨aA, aB, aC, aD, rfl, aG.s, aF⟩

theorem ok_impl_IndexTop {p0_x : GIndex} {p1_q : GQuery} {p2_most : Int} {r : (List GHit)} (hS : SH w K [] w K []) (W : SliceAt tStr K A a b p0_x.Conf.Stops) (X : SliceAt tGSyn K B c d p0_x.Conf.Syns) (af : SliceAt tGLive K C f i p0_x.Segs) (ag : rng64 p1_q.Kind) (ah : p1_q.Field.length ≤ maxLen) (ai : SliceAt tStr K D k l p1_q.Words) (aj : rng64 p1_q.From) (ak : rng64 p1_q.To) (al : SliceAt tkGQuery K G m n p1_q.Kids) (am : rng64 p2_most) (hG27 : GMap cellsGShape 1 o M.glob1 w) (hD : ¬ dr.D) (hm : M.impl_IndexTop F p0_x p1_q p2_most = some r) :
  Calls prog 23 #[.agg #[.slice A a b, .slice B c d, .slice C f i], .agg #[.int .i64 p1_q.Kind, sv p1_q.Field, .slice D k l, .int .i64 p1_q.From, .int .i64 p1_q.To, .slice G m n], .int .i64 p2_most] w fun e w' => ∃ a_1 n_2 c_3 K', e = .returned (.slice a_1 n_2 c_3) ∧ SH w K [] w' K' [tail (.slice a_1 n_2 c_3) 86 2] ∧ SliceAt tGHit K' a_1 n_2 c_3 r := by
 rw [M.impl_IndexTop] at hm
 refine ci func23 rfl ntmps23 (sr (bx rfl hS fun T a3 aq => ?_))
 have ar : SH _ _ _ _ _ [obj T [.slice A a b, .slice B c d, .slice C f i] 30] := aq
 refine bx rfl ar fun U a4 au => ?_
 have Y : SH _ _ _ _ _ [obj U [.int .i64 p1_q.Kind, sv p1_q.Field, .slice D k l, .int .i64 p1_q.From, .int .i64 p1_q.To, .slice G m n] 42, _] := au
 refine lv (rv_assign (v := .slice none 0 0) rfl) (ns (wc_seq ?_))
 obtain ⟨aw, ax, ay⟩ := ob hm
 refine wc_cutg (IV w K [] K [(2, .int .i64 p2_most), (3, pt T), (4, pt U), (19, .bool aw)] [obj T [.slice A a b, .slice B c d, .slice C f i] 30, obj U [.int .i64 p1_q.Kind, sv p1_q.Field, .slice D k l, .int .i64 p1_q.From, .int .i64 p1_q.To, .slice G m n] 42]) ?_ ?_
 ·refine wc_region (lv (rv_loadmS (ds := [.slice A a b, .slice B c d, .slice C f i]) tf30 rfl m1 Y rfl rfl) ?_)
  obtain ⟨a5, az, aA⟩ := ob ax
  refine lk co20 ((ok_impl_IndexOk F) Y.enter0 W X af az) ?_
  rintro a6 a7 ⟨aB, rfl, I⟩
  have O := (Y.c0 I).t2
  refine lv (rv_not rfl) (mv rfl (bt aA (fun s aa => ?_) (fun s aa => ?_)))
  ·refine lu s (lu s (lu s (lv (rv_pick_t (v := .bool true) rfl s rfl) (mv rfl (lu rfl (lu rfl (lu rfl (lv (rv_pick_t (v := .bool true) rfl rfl rfl) (wl_nil ?_)))))))))
   cases oi aa
   exact qd ⟨aB, rfl, O.f1, I.le⟩
  refine lg s (rv_loadmS (ds := [.int .i64 p1_q.Kind, sv p1_q.Field, .slice D k l, .int .i64 p1_q.From, .int .i64 p1_q.To, .slice G m n]) tf42 rfl m0 O rfl rfl) ?_
  obtain ⟨a8, aC, aD⟩ := ob aa
  refine wl_call (wg rfl rfl s) rfl (rt_call (vs := [.agg #[.int .i64 p1_q.Kind, sv p1_q.Field, .slice D k l, .int .i64 p1_q.From, .int .i64 p1_q.To, .slice G m n]]) co43 rfl) ((ok_impl_QueryOk F) O.enter0 ag ah (ai.mono I.le) aj ak (al.mono I.le) (hG27.keep O) aC) ?_
  rintro a9 ba ⟨aE, rfl, ab⟩
  refine ⟨_, rfl, ?_⟩
  have ac := (O.c0 ab).t2
  refine lg s (rv_not rfl) (lv (rv_pick_f rfl s rfl) (mv rfl (bt aD (fun x ad => ?_) (fun x ad => ?_))))
  ·refine lu x (lu x (lu x (lv (rv_pick_t (v := .bool true) rfl x rfl) (wl_nil ?_))))
   cases oi ad
   exact qd ⟨aE, rfl, ac.f1, (I.le.trans ab.le)⟩
  refine lg x (rv_move rfl) ?_
  obtain ⟨bb, aF, aG⟩ := ob ad
  refine wl_call (wg rfl rfl x) rfl (rt_call (vs := [.int .i64 p2_most, .int .i64 1, .int .i64 16]) co58 rfl) ((ok_impl_within F) ac.enter0 am (by decide : rng64 1) (by decide : rng64 16) aF) ?_
  rintro bc bd ⟨aH, rfl, an⟩
  refine ⟨_, rfl, ?_⟩
  have aI := (ac.c0 an).t2
  refine lg x (rv_not rfl) (lv (rv_pick_f rfl x rfl) (wl_nil ?_))
  cases oi aG
  exact qd ⟨aH, rfl, aI.f1, ((I.le.trans ab.le).trans an.le)⟩
 rintro _ be ⟨aJ, rfl, ao, y⟩
 refine qe_seq (wcc ay rfl (fun aK ae => ?_) (fun aK ae => ?_))
 ·refine sr (b0 tGHit underlying38 tf86 ao fun aL bf aM bg aN aO => (av rfl (nq (rr ?_))))
  cases oi ae
  exact ey results23 ⟨aL, 0, 0, aM, rfl, aO.s, aN⟩
 refine wc_skip (qs ?_)
 have R := ao.drew
 refine wj0 (fun w' => Holds aJ w' ∧ HasObj T [.slice A a b, .slice B c d, .slice C f i] w' ∧ HasObj U [.int .i64 p1_q.Kind, sv p1_q.Field, .slice D k l, .int .i64 p1_q.From, .int .i64 p1_q.To, .slice G m n] w') (fun w' => True) 12 [] mixed ⟨R.hasK kr, R.hasObj m0, R.hasObj m1⟩ (fun _ => trivial) (jv 0 rfl (rv_fieldAddr ff30_0 rfl) (jh 1 rfl (fun _ h => rh_loadmS (ds := [.slice A a b, .slice B c d]) tf26 rfl rfl rfl h.2.1) (jv 2 rfl (rv_fieldAddr ff30_0 rfl) (jh 3 rfl (fun _ h => rh_loadmS (ds := [.slice A a b, .slice B c d]) tf26 rfl rfl rfl h.2.1) (jv 4 rfl (rv_fieldAddr ff30_1 rfl) (jh 5 rfl (fun _ h => rh_loadm1 tf28 rfl rfl h.2.1) (jh 8 rfl (fun _ h => rh_loadmS (ds := [.int .i64 p1_q.Kind, sv p1_q.Field, .slice D k l, .int .i64 p1_q.From, .int .i64 p1_q.To, .slice G m n]) tf42 rfl rfl rfl h.2.2) (jv 9 rfl (rv_move rfl) (j1 6 rfl ?_)))))))))
 obtain ⟨bh, aP, aQ⟩ := ob ae
 refine lk co64 ((ok_impl_allAlive F) R.enter0 (af.mono y) aP) ?_
 rintro bi bj ⟨bk, bl, bm, bn, rfl, q, aR⟩
 have S := (R.c0 q).t3
 refine jn ⟨S.hasK q.le, S.hasObj m1, S.hasObj m2⟩ (fun _ => trivial) (j1 7 rfl ?_)
 obtain ⟨bo, aS, aT⟩ := ob aQ
 refine lk co67 ((ok_impl_SegOf F) S.enter0 (W.mono (y.trans q.le)) (X.mono (y.trans q.le)) aR aS) ?_
 rintro bp bq ⟨br, bs, bu, bv, bz, bA, bB, rfl, H, aU, aV⟩
 have J := (S.c0 H).t4
 refine jn ⟨J.hasK (q.le.trans H.le), J.hasObj m2, J.hasObj m3⟩ (fun _ => trivial) (j1 10 rfl ?_)
 obtain ⟨bC, aW, aX⟩ := ob aT
 refine lk co37 ((ok_impl_TopOf F) J.enter0 (W.mono ((y.trans q.le).trans H.le)) (X.mono ((y.trans q.le).trans H.le)) aU aV ag ah (ai.mono ((y.trans q.le).trans H.le)) aj ak (al.mono ((y.trans q.le).trans H.le)) am (hG27.keep J) hD aW) ?_
 rintro bD bE ⟨aY, aZ, a0, a1, rfl, ap, a2⟩
 have V := (J.c0 ap).t5
 refine jn ⟨V.hasK ((q.le.trans H.le).trans ap.le), V.hasObj m3, V.hasObj m4⟩ (fun _ => trivial) (jv 11 rfl (rv_assign rfl) (jd (qe_seq (wc_ret ?_))))
 cases oi aX
 exact ey results23 ⟨aY, aZ, a0, a1, rfl, V.s, a2⟩

set_option maxHeartbeats 2000000 in
theorem ok_laws_FnIndexNew {p0_code : List UInt8} {r : Bool} (hS : SH w K [] w K []) (aF : SliceAt tU8 K A a b p0_code) (hG6 : GMap cellsGShape 1 c M.glob1 w) (hD : ¬ dr.D) (hm : M.laws_FnIndexNew F p0_code = some r) :
  Calls prog 3 #[.slice A a b] w fun e w' => ∃ K', e = .returned (.bool r) ∧ SH w K [] w' K' [] := by
 rw [M.laws_FnIndexNew] at hm
 refine ci func3 rfl ntmps3 (sr (lv (rv_assign (v := .bool false) rfl) (nsr (mv rfl (lv (rv_len (t := tU8) underlying22 rfl aF) (lv (rv_gtr rfl rfl) (nq (wc_cond rfl (fun aw => ?_) (fun aw => ?_)))))))))
 ·have h8 := cond_t aw hm
  refine sr (lv (rv_assign (v := .bool true) rfl) (nq (rr ?_)))
  cases oi h8
  exact ey results3 ⟨K, rfl, hS⟩
 have h8 := cond_f aw hm
 refine wc_skip (qr (mv rfl ?_))
 obtain ⟨r9, aI, aJ⟩ := ob h8
 refine lk co15 ((ok_spec_DrawIndexNew F) hS.enter0 aF aI) ?_
 rintro bC bD ⟨q, s, x, y, B, C, bE, rfl, aK, ac, ad⟩
 have aL := (hS.c0 aK).t2
 refine al tf26 aL fun ae bF aM => ?_
 have aN : SH _ _ _ _ _ [obj ae [.slice none 0 0, .slice none 0 0] 26, _, _] := aM
 refine ls [.slice q s x, .slice y B C] (.agg #[.slice q s x, .slice y B C]) tf26 aN fun bG ay => (nr (lv (rv_loadmS (ds := [.slice q s x, .slice y B C]) tf26 rfl m0 ay rfl rfl) ?_))
 obtain ⟨bH, aO, aP⟩ := ob aJ
 refine lk co16 ((ok_impl_IndexNew F) ay.enter0 ac ad aO) ?_
 rintro bI bJ ⟨f, i, k, l, m, o, D, G, H, aG, rfl, S, Y, aa, af⟩
 have aQ := (ay.c0 S).t4
 refine al tf30 aQ fun ag bK aR => ?_
 have aS : SH _ _ _ _ _ [obj ag [.slice none 0 0, .slice none 0 0, .slice none 0 0] 30, _, _, _, _] := aR
 refine ls [.slice f i k, .slice l m o, .slice D G H] (.agg #[.slice f i k, .slice l m o, .slice D G H]) tf30 aS fun bL aT => (ns (wc_seq ?_))
 obtain ⟨aU, aV, aW⟩ := ob aP
 refine wc_cutg (IV w K [] aG [(3, pt ae), (4, pt ag), (21, .bool aU)] [obj ae [.slice q s x, .slice y B C] 26, obj ag [.slice f i k, .slice l m o, .slice D G H] 30]) ?_ ?_
 ·have ah := aT.drew
  refine wj0 (fun w' => Holds aG w' ∧ HasObj ag [.slice f i k, .slice l m o, .slice D G H] w' ∧ HasObj ae [.slice q s x, .slice y B C] w') (fun w' => True) 10 [] mixed ⟨ah.hasK kr, ah.hasObj m0, ah.hasObj m2⟩ (fun _ => trivial) (jh 0 rfl (fun _ h => rh_loadmS (ds := [.slice f i k, .slice l m o, .slice D G H]) tf30 rfl rfl rfl h.2.1) (jh 1 rfl (fun _ h => rh_loadmS (ds := [.slice q s x, .slice y B C]) tf26 rfl rfl rfl h.2.2) (j1 2 rfl ?_)))
  obtain ⟨bM, aX, aY⟩ := ob aV
  refine lk co18 ((ok_spec_IndexNew F) ah.enter0 (ac.mono S.le) (ad.mono S.le) aX) ?_
  rintro bN bO ⟨bP, bQ, bR, bS, bT, bU, bV, bW, bX, bY, rfl, I, aZ, a0, a1⟩
  have ai := (ah.c0 I).t6
  refine jn ⟨ai.hasK I.le, ai.hasObj m1, ai.hasObj m3⟩ (fun _ => trivial) (j1 3 rfl ?_)
  obtain ⟨bZ, a2, a3⟩ := ob aY
  refine lk co17 ((ok_laws_foIndex F) ai.enter0 (Y.mono I.le) (aa.mono I.le) (af.mono I.le) aZ a0 a1 a2) ?_
  rintro b0 b1 ⟨a4, rfl, W⟩
  have T := (ai.c0 W).t6
  refine jn ⟨T.hasK (I.le.trans W.le), T.hasObj m1, T.hasObj m3⟩ (fun _ => trivial) (jv 4 rfl (rv_not rfl) (jv 5 rfl (rv_move rfl) (bt a3 (fun U az => ?_) (fun U az => ?_))))
  ·refine ju U 6 rfl (j1 7 rfl (lu U (jn ⟨T.hasK (I.le.trans W.le), T.hasObj m1, T.hasObj m3⟩ (fun _ => trivial) (ju U 8 rfl (jv 9 rfl (rv_pick_t (v := .bool true) rfl U rfl) (jd ?_))))))
   cases oi az
   exact qd ⟨a4, rfl, T.f1.f3.s, (I.le.trans W.le)⟩
  refine jk U 6 rfl (fun _ h => rh_loadmS (ds := [.slice q s x, .slice y B C]) tf26 rfl rfl rfl h.2.2) (j1 7 rfl ?_)
  obtain ⟨b2, a5, a6⟩ := ob az
  refine wl_call (wg rfl rfl U) rfl (rt_call (vs := [.agg #[.slice q s x, .slice y B C]]) co19 rfl) ((ok_impl_ConfOk F) T.enter0 (ac.mono ((S.le.trans I.le).trans W.le)) (ad.mono ((S.le.trans I.le).trans W.le)) a5) ?_
  rintro b3 b4 ⟨a7, rfl, aA⟩
  refine ⟨_, rfl, ?_⟩
  have ao := (T.c0 aA).t6
  refine jn ⟨ao.hasK ((I.le.trans W.le).trans aA.le), ao.hasObj m1, ao.hasObj m3⟩ (fun _ => trivial) (jg U 8 rfl (rv_not rfl) (jv 9 rfl (rv_pick_f rfl U rfl) (jd ?_)))
  cases oi a6
  exact qd ⟨a7, rfl, ao.f1.f3.s, ((I.le.trans W.le).trans aA.le)⟩
 rintro _ b5 ⟨a8, rfl, ap, d⟩
 refine qe_seq (wcc aW rfl (fun a9 aB => ?_) (fun a9 aB => ?_))
 ·refine wc_seq ?_
  have aj := ap.drew
  refine wh1 (fun w' => Holds a8 w' ∧ HasObj ag [.slice f i k, .slice l m o, .slice D G H] w' ∧ HasObj ae [.slice q s x, .slice y B C] w') (fun w' => True) 5 [] mixed ⟨aj.hasK kr, aj.hasObj m1, aj.hasObj m0⟩ (fun _ => trivial) (gh (fun _ h => rh_loadmS (ds := [.slice f i k, .slice l m o, .slice D G H]) tf30 rfl rfl rfl h.2.1) (gh (fun _ h => rh_loadmS (ds := [.slice q s x, .slice y B C]) tf26 rfl rfl rfl h.2.2) (gn ?_)))
  obtain ⟨b6, ba, bb⟩ := ob aB
  refine lk co18 ((ok_spec_IndexNew F) aj.enter0 (ac.mono (S.le.trans d)) (ad.mono (S.le.trans d)) ba) ?_
  rintro b7 b8 ⟨b9, ca, cb, cc, cd, ce, cf, cg, ch, cj, rfl, ab, bc, bd, be⟩
  have ak := (aj.c0 ab).t3
  refine wl_nil (qh ⟨ak.hasK ab.le, ak.hasObj m2, ak.hasObj m1⟩ (fun _ => trivial) (gn ?_))
  obtain ⟨ck, bf, bg⟩ := ob bb
  refine lk co17 ((ok_laws_foIndex F) ak.enter0 (Y.mono (d.trans ab.le)) (aa.mono (d.trans ab.le)) (af.mono (d.trans ab.le)) bc bd be bf) ?_
  rintro cl cm ⟨bh, rfl, aH⟩
  have aq := (ak.c0 aH).t3
  refine wl_nil (qh ⟨aq.hasK (ab.le.trans aH.le), aq.hasObj m2, aq.hasObj m1⟩ (fun _ => trivial) (gt (rv_assign rfl) (gd' (qe_seq (rr ?_)))))
  cases oi bg
  exact ey results3 ⟨bh, rfl, aq.s⟩
 refine wc_skip (qr (lv (rv_loadmS (ds := [.slice f i k, .slice l m o, .slice D G H]) tf30 rfl m1 ap rfl rfl) ?_))
 obtain ⟨cn, bi, bj⟩ := ob aB
 refine lk co20 ((ok_impl_IndexOk F) ap.enter0 (Y.mono d) (aa.mono d) (af.mono d) bi) ?_
 rintro cp cq ⟨bk, rfl, J⟩
 have ar := (ap.c0 J).t2
 refine mv rfl (bt bj (fun O aC => ?_) (fun O aC => ?_))
 ·refine lg O (rv_loadmS (ds := [.slice f i k, .slice l m o, .slice D G H]) tf30 rfl m1 ar rfl rfl) ?_
  obtain ⟨cr, bl, bm⟩ := ob aC
  refine wl_call (wg rfl rfl O) rfl (rt_call (vs := [.agg #[.slice f i k, .slice l m o, .slice D G H]]) co21 rfl) ((ok_impl_IndexDocs F) ar.enter0 (Y.mono (d.trans J.le)) (aa.mono (d.trans J.le)) (af.mono (d.trans J.le)) bl) ?_
  rintro ct cu ⟨cv, cw, cx, bn, rfl, X, bo⟩
  refine ⟨_, rfl, ?_⟩
  have am := (ar.c0 X).t3
  refine lg O (rv_len (t := tGDoc) underlying35 rfl bo) (lg O (rv_eql rfl rfl) (lv (rv_pick_t rfl O rfl) (mv rfl (bt bm (fun R aD => ?_) (fun R aD => ?_)))))
  ·refine lg R (rv_fieldAddr ff30_0 rfl) (lg R (rv_loadmS (ds := [.slice f i k, .slice l m o]) tf26 rfl m2 am rfl rfl) (lg R (rv_loadmS (ds := [.slice q s x, .slice y B C]) tf26 rfl m1 am rfl rfl) ?_))
   obtain ⟨cy, bp, bq⟩ := ob aD
   refine wl_call (wg rfl rfl R) rfl (rt_call (vs := [.agg #[.slice f i k, .slice l m o], .agg #[.slice q s x, .slice y B C]]) co22 rfl) ((ok_laws_foConf F) am.enter0 (Y.mono ((d.trans J.le).trans X.le)) (aa.mono ((d.trans J.le).trans X.le)) (SliceAt.mono (((S.le.trans d).trans J.le).trans X.le) ac) (SliceAt.mono (((S.le.trans d).trans J.le).trans X.le) ad) bp) ?_
   rintro cz cA ⟨br, rfl, au⟩
   refine ⟨_, rfl, ?_⟩
   have an := (am.c0 au).t3
   refine lv (rv_pick_t rfl R rfl) (mv rfl (bt bq (fun V aE => ?_) (fun V aE => ?_)))
   ·refine lg V (rv_loadmS (ds := [.slice f i k, .slice l m o, .slice D G H]) tf30 rfl m2 an rfl rfl) (lg V (rv_build (cs := #[.int .i64 1, sv [], .slice none 0 0, .int .i64 0, .int .i64 0, .slice none 0 0]) sp42 tf42 rfl (by kernel_rfl)) ?_)
    obtain ⟨cB, bs, bu⟩ := ob aE
    refine wl_call (wg rfl rfl V) rfl (rt_call (vs := [.agg #[.slice f i k, .slice l m o, .slice D G H], .agg #[.int .i64 1, sv [], .slice none 0 0, .int .i64 0, .int .i64 0, .slice none 0 0], .int .i64 16]) co23 rfl) ((ok_impl_IndexTop F (p1_q := (GQuery.mk (1 : Int) ([] : Str) ([] : List Str) (0 : Int) (0 : Int) ([] : List GQuery)))) an.enter0 (SliceAt.mono (((d.trans J.le).trans X.le).trans au.le) Y) (SliceAt.mono (((d.trans J.le).trans X.le).trans au.le) aa) (SliceAt.mono (((d.trans J.le).trans X.le).trans au.le) af) (by decide : rng64 1) (by decide : ([] : Str).length ≤ maxLen) (SliceAt.nil _ _) (by decide : rng64 0) (by decide : rng64 0) (SliceAt.nil _ _) (by decide : rng64 16) (hG6.keep an) hD bs) ?_
    rintro cC cD ⟨cE, cF, cG, bv, rfl, bx, bz⟩
    refine ⟨_, rfl, ?_⟩
    have bA := (an.c0 bx).t4
    refine lg V (rv_len (t := tGHit) underlying38 rfl bz) (lg V (rv_eql rfl rfl) (lv (rv_pick_t rfl V rfl) (av rfl (nq (wc_ret ?_)))))
    cases oi bu
    exact ey results3 ⟨bv, rfl, bA.s⟩
   iterate 5 refine lu V ?_
   refine lv (rv_pick_f (v := .bool false) rfl V rfl) (av rfl (nq (wc_ret ?_)))
   cases oi aE
   exact ey results3 ⟨br, rfl, an.s⟩
  refine lu R (lu R (lu R (lu R (lv (rv_pick_f (v := .bool false) rfl R rfl) (mv rfl ?_)))))
  iterate 5 refine lu rfl ?_
  refine lv (rv_pick_f (v := .bool false) rfl rfl rfl) (av rfl (nq (wc_ret ?_)))
  cases oi aD
  exact ey results3 ⟨bn, rfl, am.s⟩
 refine lu O (lu O (lu O (lu O (lv (rv_pick_f (v := .bool false) rfl O rfl) (mv rfl (lu rfl (lu rfl (lu rfl (lu rfl ?_)))))))))
 refine lv (rv_pick_f (v := .bool false) rfl rfl rfl) (mv rfl ?_)
 iterate 5 refine lu rfl ?_
 refine lv (rv_pick_f (v := .bool false) rfl rfl rfl) (av rfl (nq (wc_ret ?_)))
 cases oi aC
 exact ey results3 ⟨bk, rfl, ar.s⟩
end Go.Proofs.YtmkhlppjphodfaaGreatDoor
