/-
 Walks of the functions. Printed by gen.py.
-/
import Derived.Test.YtmkhlppjphodfaaGreatDoorWalkA0
import Derived.Test.YtmkhlppjphodfaaGreatDoorWalkA2
set_option linter.unusedVariables false
set_option linter.unusedSectionVars false
set_option maxRecDepth 100000
namespace Go.Proofs.YtmkhlppjphodfaaGreatDoor
open Go Go.Fk Go.RowKit Tryz
variable (F : Nat) {w : World} {K : KMap} {Z : List Nat} {g1 g2 g3 : Nat} {A B C D G H I J O R S T : Option Addr} {a b c d f i k l m n o p q s v x y aa ab ac ad ae af ag : Nat}
variable [dr : Dr]

theorem ok_cmp_Or_int {p0_vals : List Int} {r : Int} (hS : SH w K [] w K []) (k : SliceAt tInt K A a b p0_vals) (hm : M.cmp_Or_int F p0_vals = some r) :
  Calls prog 119 #[.slice A a b] w fun e w' => ∃ K', e = .returned (.int .i64 r) ∧ SH w K [] w' K' [] ∧ rng64 r := by
 rw [M.cmp_Or_int] at hm
 refine ci func119 rfl ntmps119 (sr (lv (rv_assign (v := .int .i64 0) rfl) (nr (lv (rv_assign (v := .int .i64 0) rfl) (nsr (mv rfl (lv (rv_len (t := tInt) underlying55 rfl k) (lv (rv_move (v := .int .i64 0) rfl) (nq ?_)))))))))
 obtain ⟨s, x, d⟩ := ob hm
 refine wc_cutg (IE s w K [] K [(3, .int .i64 0)] []) ?_ ?_
 ·refine wc_block ?_
  obtain ⟨aa, y, m⟩ := ob x
  refine qf (fun (o : Nat) (q : Unit) => IV w K [] K [(3, .int .i64 0), (6, .slice A a b), (7, .int .i64 (p0_vals.length : Int)), (8, .int .i64 ((o : Nat) : Int))] []) y ⟨K, rfl, hS, kr⟩ ?_ ?_
  ·rintro o q _ B ab hi23 C D ⟨f, rfl, c, i⟩
   refine sr (lv (rv_lss rfl rfl) (ns (wc_cond_t rfl (decide_eq_true (by omega)) (wc_skip (qe_seq (wc_seq (wc_block (sr ?_))))))))
   obtain ⟨G, H, I⟩ := ob C
   refine li underlying55 tf3 (k.mono i) H fun J O ac R S => ?_
   obtain ⟨rfl, T⟩ := R
   have U : AtK _ J O [.int .i64 G] := S
   refine lv (rv_load1 tf3 rfl c (U 0 _ rfl)) (av rfl (nr (mv rfl (mv rfl (lv (rv_neq rfl rfl) (nq (wcc I rfl (fun V l => ?_) (fun V l => ?_))))))))
   ·refine sr (mv rfl (av rfl (nq (wc_ret (qe_block_ret (qe_then_ret (qe_then_ret ?_)))))))
    cases oi l
    cases D _ rfl
    refine qe_block_ret (qe_then_ret ?_)
    cases oi m
    refine qe_then_ret ?_
    cases oi d
    exact ey results119 ⟨f, rfl, c, T⟩
   refine wc_skip (qe_block (qg (lv (rv_add_to rfl rfl (w64_succ hi23 (SliceAt.max k))) (mv rfl (wl_nil ?_)))))
   cases oi l
   exact qd ⟨_, rfl, f, rfl, c, i⟩
  rintro q _ B W ⟨f, rfl, c, i⟩
  subst W
  refine sr (lv (rv_lss rfl rfl) (ns (wc_cond_f rfl (decide_eq_false (by omega)) (wc_exit (qe_then_exit (qe_then_exit (qe_block_eq ?_)))))))
  cases oi m
  exact qd ⟨_, f, rfl, rfl, c, i⟩
 rintro _ ad ⟨s8, X, rfl, rfl, Y, af⟩
 have d := elim_l d
 refine qr (mv rfl (av rfl (nq (wc_ret ?_))))
 cases oi d
 exact ey results119 ⟨X, rfl, Y, (by decide : rng64 0)⟩

theorem ok_cmp_isNaN_string {p0_x : Str} {r : Bool} (hS : SH w K [] w K []) (a : p0_x.length ≤ maxLen) (hm : M.cmp_isNaN_string F p0_x = some r) :
  Calls prog 168 #[sv p0_x] w fun e w' => ∃ K', e = .returned (.bool r) ∧ SH w K [] w' K' [] := by
 rw [M.cmp_isNaN_string] at hm
 refine ci func168 rfl ntmps168 (sr (lv (rv_assign (v := .bool false) rfl) (nr (mv rfl (mv rfl (lv (rv_sneq rfl rfl) (av rfl (nq (wc_ret ?_)))))))))
 cases oi hm
 exact ey results168 ⟨K, rfl, hS⟩

theorem ok_cmp_Compare_string {p0_x : Str} {p1_y : Str} {r : Int} (hS : SH w K [] w K []) (m : p0_x.length ≤ maxLen) (o : p1_y.length ≤ maxLen) (hm : M.cmp_Compare_string F p0_x p1_y = some r) :
  Calls prog 120 #[sv p0_x, sv p1_y] w fun e w' => ∃ K', e = .returned (.int .i64 r) ∧ SH w K [] w' K' [] ∧ rng64 r := by
 rw [M.cmp_Compare_string] at hm
 refine ci func120 rfl ntmps120 (sr (lv (rv_assign (v := .int .i64 0) rfl) (nr (mv rfl ?_))))
 obtain ⟨J, q, s⟩ := ob hm
 refine lk co168 ((ok_cmp_isNaN_string F) hS.enter0 m q) ?_
 rintro O R ⟨S, rfl, x⟩
 have l := (hS.c0 x).t0
 refine av rfl (nr (mv rfl ?_))
 obtain ⟨T, y, A⟩ := ob s
 refine lk co168 ((ok_cmp_isNaN_string F) l.enter0 o y) ?_
 rintro U V ⟨a, rfl, B⟩
 have b := (l.c0 B).t0
 refine av rfl (nsr (mv rfl (nq (wcc A rfl (fun C c => ?_) (fun C c => ?_)))))
 ·refine wc_seq (sr (mv rfl (nq (wcc c rfl (fun D d => ?_) (fun D d => ?_)))))
  ·refine sr (lv (rv_assign (v := .int .i64 0) rfl) (nq (rr (qe_then_ret ?_))))
   cases oi d
   exact ey results120 ⟨a, rfl, b, (by decide : rng64 0)⟩
  refine wc_skip (qr (lv (rv_assign (v := .int .i64 (-1)) rfl) (nq (rr ?_))))
  cases oi d
  exact ey results120 ⟨a, rfl, b, (by decide : rng64 (-1))⟩
 refine wc_skip (qs (sr (mv rfl (nq (wcc c rfl (fun G f => ?_) (fun G f => ?_))))))
 ·refine sr (lv (rv_assign (v := .int .i64 1) rfl) (nq (rr ?_)))
  cases oi f
  exact ey results120 ⟨a, rfl, b, (by decide : rng64 1)⟩
 refine wc_skip (qs (sr (mv rfl (mv rfl (lv (rv_slss rfl rfl) (nq (wcc f rfl (fun H i => ?_) (fun H i => ?_))))))))
 ·refine sr (lv (rv_assign (v := .int .i64 (-1)) rfl) (nq (rr ?_)))
  cases oi i
  exact ey results120 ⟨a, rfl, b, (by decide : rng64 (-1))⟩
 refine wc_skip (qs (sr (mv rfl (mv rfl (lv (rv_sgtr rfl rfl) (nq (wcc i rfl (fun I k => ?_) (fun I k => ?_))))))))
 ·refine sr (lv (rv_assign (v := .int .i64 1) rfl) (nq (rr ?_)))
  cases oi k
  exact ey results120 ⟨a, rfl, b, (by decide : rng64 1)⟩
 refine wc_skip (qr (lv (rv_assign (v := .int .i64 0) rfl) (nq (wc_ret ?_))))
 cases oi k
 exact ey results120 ⟨a, rfl, b, (by decide : rng64 0)⟩

theorem ok_impl_SegOf_1 {p0_a : GEntry} {p1_b : GEntry} {r : Int} (hS : SH w K [] w K []) (H : p0_a.Field.length ≤ maxLen) (I : p0_a.Term.length ≤ maxLen) (ah : SliceAt tGPost K A a b p0_a.Posts) (J : p1_b.Field.length ≤ maxLen) (O : p1_b.Term.length ≤ maxLen) (ai : SliceAt tGPost K B c d p1_b.Posts) (hm : M.impl_SegOf_1 F p0_a p1_b = some r) :
  Calls prog 118 #[.agg #[sv p0_a.Field, sv p0_a.Term, .slice A a b], .agg #[sv p1_b.Field, sv p1_b.Term, .slice B c d]] w fun e w' => ∃ K', e = .returned (.int .i64 r) ∧ SH w K [] w' K' [] ∧ rng64 r := by
 rw [M.impl_SegOf_1] at hm
 refine ci func118 rfl ntmps118 (sr (bx rfl hS fun y aj R => ?_))
 have S : SH _ _ _ _ _ [obj y [sv p0_a.Field, sv p0_a.Term, .slice A a b] 112] := R
 refine bx rfl S fun C ak T => ?_
 have U : SH _ _ _ _ _ [obj C [sv p1_b.Field, sv p1_b.Term, .slice B c d] 112, _] := T
 refine lv (rv_assign (v := .int .i64 0) rfl) (ns ?_)
 have f := U.drew
 refine wj0 (fun w' => Holds K w' ∧ HasObj y [sv p0_a.Field, sv p0_a.Term, .slice A a b] w' ∧ HasObj C [sv p1_b.Field, sv p1_b.Term, .slice B c d] w') (fun w' => True) 13 [] mixed ⟨f.hasK kr, f.hasObj m1, f.hasObj m0⟩ (fun _ => trivial) (jv 0 rfl (rv_fieldAddr ff112_0 rfl) (jh 1 rfl (fun _ h => rh_loadm1 tf9 rfl rfl h.2.1) (jv 2 rfl (rv_fieldAddr ff112_0 rfl) (jh 3 rfl (fun _ h => rh_loadm1 tf9 rfl rfl h.2.2) (jv 5 rfl (rv_fieldAddr ff112_1 rfl) (jh 6 rfl (fun _ h => rh_loadm1 tf9 rfl rfl h.2.1) (jv 7 rfl (rv_fieldAddr ff112_1 rfl) (jh 8 rfl (fun _ h => rh_loadm1 tf9 rfl rfl h.2.2) (j1 4 rfl ?_)))))))))
 obtain ⟨i, V, W⟩ := ob hm
 refine lk co120 ((ok_cmp_Compare_string F) f.enter0 H J V) ?_
 rintro al am ⟨an, rfl, k, X⟩
 have l := (f.c0 k).t2
 refine jn ⟨l.hasK k.le, l.hasObj m1, l.hasObj m0⟩ (fun _ => trivial) (j1 9 rfl ?_)
 obtain ⟨m, Y, aa⟩ := ob W
 refine lk co120 ((ok_cmp_Compare_string F) l.enter0 I O Y) ?_
 rintro ao ap ⟨aq, rfl, q, ab⟩
 have s := (l.c0 q).t2
 refine jn ⟨s.hasK (k.le.trans q.le), s.hasObj m1, s.hasObj m0⟩ (fun _ => trivial) (j1 10 rfl (wl_buildSlice (t := tInt) (n := 2) (pv := [(0, .int .i64 i), (1, .int .i64 m)]) (cs := [.int .i64 i, .int .i64 m]) (xs := [i, m]) wn rfl underlying55 tf3 rfl rfl rfl (by kernel_rfl) rfl rfl (lit_cons (u := .int .i64 i) (z := i) ⟨rfl, X⟩ (lit_cons (u := .int .i64 m) (z := m) ⟨rfl, ab⟩ lit_nil)) s fun ar au aw D ac o => (jn ⟨o.hasK ((k.le.trans q.le).trans D), o.hasObj m2, o.hasObj m1⟩ (fun _ => trivial) (j1 11 rfl ?_))))
 obtain ⟨ax, ad, ae⟩ := ob aa
 refine lk co119 ((ok_cmp_Or_int F) o.enter0 ac ad) ?_
 rintro ay az ⟨af, rfl, G, ag⟩
 have x := (o.c0 G).t3
 refine jn ⟨x.hasK (((k.le.trans q.le).trans D).trans G.le), x.hasObj m2, x.hasObj m1⟩ (fun _ => trivial) (jv 12 rfl (rv_assign rfl) (jd (qe_seq (wc_ret ?_))))
 cases oi ae
 exact ey results118 ⟨af, rfl, x.s, ag⟩

set_option maxHeartbeats 2000000 in
theorem ok_impl_SegOf {p0_c : GConf} {p1_docs : List GDoc} {r : GSeg} (hS : SH w K [] w K []) (bu : SliceAt tStr K A a b p0_c.Stops) (bv : SliceAt tGSyn K B c d p0_c.Syns) (aB : SliceAt tGDoc K C f i p1_docs) (hm : M.impl_SegOf F p0_c p1_docs = some r) :
  Calls prog 67 #[.agg #[.slice A a b, .slice B c d], .slice C f i] w fun e w' => ∃ a_1 n_2 c_3 a_5 n_6 c_7 K', e = .returned (.agg #[.slice a_1 n_2 c_3, .slice a_5 n_6 c_7]) ∧ SH w K [] w' K' [tail (.slice a_5 n_6 c_7) 112 3] ∧ SliceAt tGDoc K' a_1 n_2 c_3 r.Docs ∧ SliceAt tGEntry K' a_5 n_6 c_7 r.Entries := by
 rw [M.impl_SegOf] at hm
 refine ci func67 rfl ntmps67 (sr (bx rfl hS fun l dU bL => ?_))
 have bM : SH _ _ _ _ _ [obj l [.slice A a b, .slice B c d] 26] := bL
 refine al tf46 bM fun k dV bN => ?_
 have bc : SH _ _ _ _ _ [obj k [.slice none 0 0, .slice none 0 0] 46, _] := bN
 refine ns (wc_seq ?_)
 obtain ⟨bO, bP, bQ⟩ := ob hm
 refine wc_cutg (IV w K [] K [(1, .slice C f i), (2, pt l), (4, pt k), (19, .bool bO)] [obj l [.slice A a b, .slice B c d] 26, obj k [.slice none 0 0, .slice none 0 0] 46]) ?_ ?_
 ·refine wc_region (lv (rv_loadmS (ds := [.slice A a b, .slice B c d]) tf26 rfl m1 bc rfl rfl) ?_)
  obtain ⟨dW, bR, bS⟩ := ob bP
  refine lk co19 ((ok_impl_ConfOk F) bc.enter0 bu bv bR) ?_
  rintro dX w32 ⟨bT, rfl, aK⟩
  have bd := (bc.c0 aK).t2
  refine lv (rv_not rfl) (mv rfl (bt bS (fun I be => ?_) (fun I be => ?_)))
  ·refine lu I (lu I (lu I (lv (rv_pick_t (v := .bool true) rfl I rfl) (wl_nil ?_))))
   cases oi be
   exact qd ⟨bT, rfl, bd.f1, aK.le⟩
  refine lg I (rv_move rfl) ?_
  obtain ⟨dY, bU, bV⟩ := ob be
  refine wl_call (wg rfl rfl I) rfl (rt_call (vs := [.slice C f i]) co63 rfl) ((ok_impl_DocsOk F) bd.enter0 (aB.mono aK.le) bU) ?_
  rintro dZ d0 ⟨bW, rfl, bz⟩
  refine ⟨_, rfl, ?_⟩
  have bX := (bd.c0 bz).t2
  refine lg I (rv_not rfl) (lv (rv_pick_f rfl I rfl) (wl_nil ?_))
  cases oi bV
  exact qd ⟨bW, rfl, bX.f1, (aK.le.trans bz.le)⟩
 rintro _ d1 ⟨bY, rfl, bf, ad⟩
 refine qe_seq (wcc bQ rfl (fun bZ bg => ?_) (fun bZ bg => ?_))
 ·refine sr (lv (rv_build (cs := #[.slice none 0 0, .slice none 0 0]) sp46 tf46 rfl (by kernel_rfl)) (ls [.slice none 0 0, .slice none 0 0] (.agg #[.slice none 0 0, .slice none 0 0]) tf46 bf.f1 fun d2 bA => (nq (rr ?_))))
  cases oi bg
  have b1 := bA.nil 112 3
  exact ez results67 tf46 bA m0 ⟨none, 0, 0, none, 0, 0, bY, rfl, b1.s, (SliceAt.nil _ _), (SliceAt.nil _ _)⟩
 refine wc_skip (qr (mv rfl ?_))
 obtain ⟨d3, b2, b3⟩ := ob bg
 refine lk co65 ((ok_impl_cloneDocs F) bf.enter0 (aB.mono ad) b2) ?_
 rintro d4 d5 ⟨aL, aM, aN, d6, rfl, ae, b4⟩
 have b5 := (bf.c0 ae).t3
 refine b0 tGEntry underlying44 tf112 b5 fun aO d7 bh af d8 b6 => (lv (rv_build (cs := #[.slice aL aM aN, .slice aO 0 0]) sp46 tf46 rfl (by kernel_rfl)) (al tf46 b6 fun m d9 b7 => ?_))
 have b8 : SH _ _ _ _ _ [obj m [.slice none 0 0, .slice none 0 0] 46, _, _, _, _] := b7
 refine ls [.slice aL aM aN, .slice aO 0 0] (.agg #[.slice aL aM aN, .slice aO 0 0]) tf46 b8 fun ea b9 => (nsr (mv rfl (lv (rv_len (t := tGDoc) underlying35 rfl (aB.mono ((ad.trans ae.le).trans af))) (lv (rv_move (v := .int .i64 0) rfl) (nq ?_)))))
 obtain ⟨bB, ca, cb⟩ := ob b3
 refine wc_cutg (fun E' w' => ∃ U V X O R S lay93 aP, E' = [(4, pt k), (5, pt m)] ∧ SH w K [] w' aP [obj k [.slice none 0 0, .slice none 0 0] 46, obj m [.slice U V X, .slice O R S] 46, pack (segItems 112 71 3 O R S lay93)] ∧ KLe bh aP ∧ SliceAt tGDoc aP U V X bB.Docs ∧ LayOk lay93 bB.Entries) ?_ ?_
 ·refine wc_block ?_
  obtain ⟨eb, cc, cd⟩ := ob ca
  have ce := seg_empty (TP := 71) (TI := 3) b9.f1
  have cf := ce.f1.f4.f4.sb (sk (sk (sk (sk (sd sz)))))
  refine qF (fun (ag : Nat) (aQ : GSeg) E' w' => ∃ ah ai aj ak am an lay111 J, E' = [(2, pt l), (4, pt k), (5, pt m), (25, .slice C f i), (26, .int .i64 (p1_docs.length : Int)), (27, .int .i64 ((ag : Nat) : Int))] ∧ SH w K [] w' J [obj l [.slice A a b, .slice B c d] 26, obj k [.slice none 0 0, .slice none 0 0] 46, obj m [.slice ah ai aj, .slice ak am an] 46, pack (segItems 112 71 3 ak am an lay111)] ∧ KLe bh J ∧ SliceAt tGDoc J ah ai aj aQ.Docs ∧ LayOk lay111 aQ.Entries) cc ⟨aL, aM, aN, aO, 0, 0, [], bh, rfl, cf, kr, (b4.mono af), ⟨(fun _ h => nomatch h), rfl⟩⟩ ?_ ?_
  ·rintro ag aQ _ cg ec hi120 ch ⟨ah, ai, aj, ak, am, an, lay111, J, rfl, aR, ao, bi, bj⟩
   refine sr (lv (rv_lss rfl rfl) (ns (wc_cond_t rfl (decide_eq_true (by omega)) (wc_skip (qe_seq (wc_seq (wc_block (sr ?_))))))))
   obtain ⟨o, cj, ck⟩ := ob ch
   refine li underlying35 tf54 (SliceAt.mono (((ad.trans ae.le).trans af).trans ao) aB) cj fun cl cm ed cn cp => ?_
   obtain ⟨q, s, D, Y, aa, ab, rfl, cq, bk, ee⟩ := cn
   have cr : AtK _ cl cm [.int .i64 o.Id, .slice q s D, .slice Y aa ab] := cp
   refine lv (rv_loadS (cs := [.int .i64 o.Id, .slice q s D, .slice Y aa ab]) tf54 rfl aR cr rfl) (al tf54 aR fun ac ef ct => ?_)
   have cu : SH _ _ _ _ _ [obj ac [.int .i64 0, .slice none 0 0, .slice none 0 0] 54, _, _, _, _] := ct
   refine ls [.int .i64 o.Id, .slice q s D, .slice Y aa ab] (.agg #[.int .i64 o.Id, .slice q s D, .slice Y aa ab]) tf54 cu fun eg bC => (nr (fa ff54_1 rfl (lv (rv_loadm1 tf51 rfl m0 bC rfl) (lv (rv_len (t := tGField) underlying51 rfl bk) (lv (rv_move (v := .int .i64 0) rfl) (nq ?_))))))
   obtain ⟨bD, cv, cw⟩ := ob ck
   refine wc_cutg (fun E' w' => ∃ aS aT aU aV aW aX lay161 aC, E' = [(2, pt l), (4, pt k), (5, pt m), (25, .slice C f i), (26, .int .i64 (p1_docs.length : Int)), (27, .int .i64 ((ag : Nat) : Int))] ∧ SH w K [] w' aC [obj l [.slice A a b, .slice B c d] 26, obj k [.slice none 0 0, .slice none 0 0] 46, obj m [.slice aS aT aU, .slice aV aW aX] 46, pack (segItems 112 71 3 aV aW aX lay161)] ∧ KLe J aC ∧ SliceAt tGDoc aC aS aT aU bD.Docs ∧ LayOk lay161 bD.Entries) ?_ ?_
   ·refine wc_block ?_
    obtain ⟨eh, cx, cy⟩ := ob cv
    refine qF (fun (aY : Nat) (aZ : GSeg) E' w' => ∃ ap aq ar au aw ax lay179 ay, E' = [(2, pt l), (4, pt k), (5, pt m), (7, pt ac), (25, .slice C f i), (26, .int .i64 (p1_docs.length : Int)), (27, .int .i64 ((ag : Nat) : Int)), (32, .slice q s D), (33, .int .i64 (o.Fields.length : Int)), (34, .int .i64 ((aY : Nat) : Int))] ∧ SH w K [] w' ay [obj l [.slice A a b, .slice B c d] 26, obj k [.slice none 0 0, .slice none 0 0] 46, obj m [.slice ap aq ar, .slice au aw ax] 46, pack (segItems 112 71 3 au aw ax lay179), obj ac [.int .i64 o.Id, .slice q s D, .slice Y aa ab] 54] ∧ KLe J ay ∧ SliceAt tGDoc ay ap aq ar aZ.Docs ∧ LayOk lay179 aZ.Entries) cx ⟨ah, ai, aj, ak, am, an, lay111, J, rfl, bC.f4.f4.f4.f4, kr, bi, bj⟩ ?_ ?_
    ·rintro aY aZ _ cz ei hi186 cA ⟨ap, aq, ar, au, aw, ax, lay179, ay, rfl, a0, az, bl, bm⟩
     refine sr (lv (rv_lss rfl rfl) (ns (wc_cond_t rfl (decide_eq_true (by omega)) (wc_skip (qe_seq (wc_seq (wc_block (sr ?_))))))))
     obtain ⟨G, cB, cC⟩ := ob cA
     refine li underlying51 tf158 (bk.mono az) cB fun cD cE ej cF cG => ?_
     obtain ⟨rfl, cH, cI⟩ := cF
     have cJ : AtK _ cD cE [sv G.Name, sv G.Text] := cG
     refine lv (rv_loadS (cs := [sv G.Name, sv G.Text]) tf158 rfl a0 cJ rfl) (al tf158 a0 fun bn ek cK => ?_)
     have cL : SH _ _ _ _ _ [obj bn [sv [], sv []] 158, _, _, _, _, _] := cK
     refine ls [sv G.Name, sv G.Text] (.agg #[sv G.Name, sv G.Text]) tf158 cL fun el a1 => (nr (lv (rv_loadmS (ds := [.slice A a b, .slice B c d]) tf26 rfl m1 a1 rfl rfl) (fa ff158_1 rfl (lv (rv_loadm1 tf9 rfl m0 a1 rfl) ?_))))
     obtain ⟨cM, cN, cO⟩ := ob cC
     refine lk co73 ((ok_impl_TermsOf F) a1.enter0 (SliceAt.mono ((((ad.trans ae.le).trans af).trans ao).trans az) bu) (SliceAt.mono ((((ad.trans ae.le).trans af).trans ao).trans az) bv) cI cN) ?_
     rintro em en ⟨cP, cQ, cR, bo, rfl, bp, bq⟩
     have cS := (a1.c0 bp).t7
     refine lv (rv_len (t := tGTerm) underlying114 rfl bq) (lv (rv_move (v := .int .i64 0) rfl) (nq ?_))
     obtain ⟨bE, cT, cU⟩ := ob cO
     refine wc_cutg (fun E' w' => ∃ a2 a3 a4 a5 a6 a7 lay232 aD, E' = [(2, pt l), (4, pt k), (5, pt m), (7, pt ac), (25, .slice C f i), (26, .int .i64 (p1_docs.length : Int)), (27, .int .i64 ((ag : Nat) : Int)), (32, .slice q s D), (33, .int .i64 (o.Fields.length : Int)), (34, .int .i64 ((aY : Nat) : Int))] ∧ SH w K [] w' aD [obj l [.slice A a b, .slice B c d] 26, obj k [.slice none 0 0, .slice none 0 0] 46, obj m [.slice a2 a3 a4, .slice a5 a6 a7] 46, pack (segItems 112 71 3 a5 a6 a7 lay232), obj ac [.int .i64 o.Id, .slice q s D, .slice Y aa ab] 54] ∧ KLe bo aD ∧ SliceAt tGDoc aD a2 a3 a4 bE.Docs ∧ LayOk lay232 bE.Entries) ?_ ?_
     ·refine wc_block ?_
      obtain ⟨eo, cV, cW⟩ := ob cT
      have cX := cS.f1.f6.f6.f6.f6.f6.sb (sk (sk (sk (sk (sk (sk (sd sz)))))))
      refine qF (fun (bF : Nat) (a8 : GSeg) E' w' => ∃ aE aF aG aH aI aJ lay250 aA, E' = [(2, pt l), (4, pt k), (5, pt m), (7, pt ac), (9, pt bn), (25, .slice C f i), (26, .int .i64 (p1_docs.length : Int)), (27, .int .i64 ((ag : Nat) : Int)), (32, .slice q s D), (33, .int .i64 (o.Fields.length : Int)), (34, .int .i64 ((aY : Nat) : Int)), (41, .slice cP cQ cR), (42, .int .i64 (cM.length : Int)), (43, .int .i64 ((bF : Nat) : Int))] ∧ SH w K [] w' aA [obj l [.slice A a b, .slice B c d] 26, obj k [.slice none 0 0, .slice none 0 0] 46, obj m [.slice aE aF aG, .slice aH aI aJ] 46, pack (segItems 112 71 3 aH aI aJ lay250), obj ac [.int .i64 o.Id, .slice q s D, .slice Y aa ab] 54, obj bn [sv G.Name, sv G.Text] 158] ∧ KLe bo aA ∧ SliceAt tGDoc aA aE aF aG a8.Docs ∧ LayOk lay250 a8.Entries) cV ⟨ap, aq, ar, au, aw, ax, lay179, bo, rfl, cX, kr, (bl.mono bp.le), bm⟩ ?_ ?_
      ·rintro bF a8 _ cY ep hi260 cZ ⟨aE, aF, aG, aH, aI, aJ, lay250, aA, rfl, a9, ba, br, bs⟩
       refine sr (lv (rv_lss rfl rfl) (ns (wc_cond_t rfl (decide_eq_true (by omega)) (wc_skip (qe_seq (wc_seq (wc_block (sr ?_))))))))
       obtain ⟨H, c0, c1⟩ := ob cZ
       refine li underlying114 tf117 (bq.mono ba) c0 fun c2 c3 eq c4 c5 => ?_
       obtain ⟨rfl, c6, c7⟩ := c4
       have c8 : AtK _ c2 c3 [sv H.Text, .int .i64 H.At] := c5
       refine lv (rv_loadS (cs := [sv H.Text, .int .i64 H.At]) tf117 rfl a9 c8 rfl) (al tf117 a9 fun c9 es da => ?_)
       have db : SH _ _ _ _ _ [obj c9 [sv [], .int .i64 0] 117, _, _, _, _, _, _] := da
       refine ls [sv H.Text, .int .i64 H.At] (.agg #[sv H.Text, .int .i64 H.At]) tf117 db fun et bb => (nq (wc_region (fa ff158_0 rfl (lv (rv_loadm1 tf9 rfl m6 bb rfl) (lv (rv_loadmS (ds := [sv H.Text, .int .i64 H.At]) tf117 rfl m0 bb rfl rfl) (fa ff54_0 rfl (lv (rv_loadm1 tf3 rfl m5 bb rfl) ?_)))))))
       obtain ⟨eu, dc, dd⟩ := ob c1
       have bG := bb.f4.f4
       refine lk co116 ((ok_impl_Seg_put F) bG.e2 br bs cH c6 c7 cq dc) ?_
       rintro ev ew ⟨de, df, dg, dh, di, dj, lay295, dk, rfl, bH, dl, dm⟩
       have dn := (bG.c2 bH).t7
       refine nb (qg (lv (rv_add_to rfl rfl (w64_succ hi260 (SliceAt.max bq))) (mv rfl (wl_nil ?_))))
       cases oi dd
       exact qd ⟨de, df, dg, dh, di, dj, lay295, dk, rfl, dn.f6.f6.f3.f3.f6.f6.s, (ba.trans bH.le), dl, dm⟩
      rintro a8 _ cY dp ⟨aE, aF, aG, aH, aI, aJ, lay250, aA, rfl, a9, ba, br, bs⟩
      subst dp
      refine sr (lv (rv_lss rfl rfl) (ns (wc_cond_f rfl (decide_eq_false (by omega)) (wc_exit (qe_then_exit (qe_then_exit (qe_block_eq ?_)))))))
      cases oi cW
      exact qd ⟨aE, aF, aG, aH, aI, aJ, lay250, aA, rfl, a9.s, ba, br, bs⟩
     rintro _ ex ⟨a2, a3, a4, a5, a6, a7, lay232, aD, rfl, dq, dt, du, dv⟩
     refine qe_block (qg (lv (rv_add_to rfl rfl (w64_succ hi186 (SliceAt.max bk))) (mv rfl (wl_nil ?_))))
     cases oi cU
     exact qd ⟨a2, a3, a4, a5, a6, a7, lay232, aD, rfl, dq, ((az.trans bp.le).trans dt), du, dv⟩
    rintro aZ _ cz dw ⟨ap, aq, ar, au, aw, ax, lay179, ay, rfl, a0, az, bl, bm⟩
    subst dw
    refine sr (lv (rv_lss rfl rfl) (ns (wc_cond_f rfl (decide_eq_false (by omega)) (wc_exit (qe_then_exit (qe_then_exit (qe_block_eq ?_)))))))
    cases oi cy
    exact qd ⟨ap, aq, ar, au, aw, ax, lay179, ay, rfl, a0.s, az, bl, bm⟩
   rintro _ eA ⟨aS, aT, aU, aV, aW, aX, lay161, aC, rfl, dx, dy, dz, dA⟩
   refine qe_block (qg (lv (rv_add_to rfl rfl (w64_succ hi120 (SliceAt.max (aB.mono ((ad.trans ae.le).trans af))))) (mv rfl (wl_nil ?_))))
   cases oi cw
   exact qd ⟨aS, aT, aU, aV, aW, aX, lay161, aC, rfl, dx, (ao.trans dy), dz, dA⟩
  rintro aQ _ cg dB ⟨ah, ai, aj, ak, am, an, lay111, J, rfl, aR, ao, bi, bj⟩
  subst dB
  refine sr (lv (rv_lss rfl rfl) (ns (wc_cond_f rfl (decide_eq_false (by omega)) (wc_exit (qe_then_exit (qe_then_exit (qe_block_eq ?_)))))))
  cases oi cd
  exact qd ⟨ah, ai, aj, ak, am, an, lay111, J, rfl, aR.s, ao, bi, bj⟩
 rintro _ eB ⟨U, V, X, O, R, S, lay93, aP, rfl, bI, eC, dC, dD⟩
 refine qr (fa ff46_1 rfl (lv (rv_loadm1 tf44 rfl m1 bI rfl) ?_))
 obtain ⟨eD, cs314, dE, hrow316, hm317, dF⟩ := seg_see bI.f2 dD
 obtain ⟨eE, dG, dH⟩ := ob cb
 refine wl_call wn rfl (rt_call (vs := [.slice O R S, .func (.func 118) #[] #[]]) co117 rfl) (sort_rowI (T := tGEntry) sortLay117 sortNone117 rfl (fun w => Go.Fk.run_isAgg tf112 w) (fun w => Go.Fk.run_sizeOf tf112 w) (fun a b => M.impl_SegOf_1 F a b) 118 (Go.Proofs.enters_of func118 (by kernel_rfl) rfl) dF hrow316 hm317 (fun K1 W v x u y r hW h1 h2 hm => by
  obtain ⟨eG, eH, eI, rfl, dK, dL, dM⟩ := h1
  obtain ⟨eJ, eK, eL, rfl, dN, dO, dP⟩ := h2
  exact (ok_impl_SegOf_1 (dr := ⟨True⟩) F (SH.start (dr := ⟨True⟩) hW) dK dL dM dN dO dP hm).mono fun e w' ⟨K', he, hS', _⟩ => ⟨K', he, hS'⟩) dG) ?_
 rintro eM eN ⟨cs334, rfl, bJ, hrow336, hm337⟩
 refine ⟨_, rfl, ?_⟩
 refine nr (lv (rv_loadmS (ds := [.slice U V X, .slice O R S]) tf46 rfl m2 bJ rfl rfl) (ls [.slice U V X, .slice O R S] (.agg #[.slice U V X, .slice O R S]) tf46 bJ.f1 fun eO dQ => (nq (wc_ret ?_))))
 obtain ⟨dR, dS, dT, bK⟩ := SH.freezeI dQ.f1 hrow336 hm337
 cases oi dH
 exact ez results67 tf46 bK m1 ⟨U, V, X, O, R, S, dR, rfl, bK.s, (dC.mono (dE.trans dS)), dT⟩

theorem ok_slices_Equal_int {p0_s1 : List Int} {p1_s2 : List Int} {r : Bool} (hS : SH w K [] w K []) (i : SliceAt tInt K A a b p0_s1) (s : SliceAt tInt K B c d p1_s2) (hm : M.slices_Equal_int F p0_s1 p1_s2 = some r) :
  Calls prog 170 #[.slice A a b, .slice B c d] w fun e w' => ∃ K', e = .returned (.bool r) ∧ SH w K [] w' K' [] := by
 rw [M.slices_Equal_int] at hm
 refine ci func170 rfl ntmps170 (sr (lv (rv_assign (v := .bool false) rfl) (nsr (mv rfl (lv (rv_len (t := tInt) underlying55 rfl i) (mv rfl (lv (rv_len (t := tInt) underlying55 rfl s) (lv (rv_neq rfl rfl) (nq ?_)))))))))
 refine wc_cond rfl (fun l => ?_) (fun l => ?_)
 ·have m := cond_t l hm
  refine sr (lv (rv_assign (v := .bool false) rfl) (nq (rr ?_)))
  cases oi m
  exact ey results170 ⟨K, rfl, hS⟩
 have m := cond_f l hm
 refine wc_skip (qs (sr (mv rfl (lv (rv_len (t := tInt) underlying55 rfl i) (lv (rv_move (v := .int .i64 0) rfl) (nq ?_))))))
 obtain ⟨I, J, k⟩ := ob m
 refine wc_cutg (IE I w K [] K [] []) ?_ ?_
 ·refine wc_block ?_
  obtain ⟨aq, O, x⟩ := ob J
  refine qf (fun (y : Nat) (C : Unit) => IV w K [] K [(0, .slice A a b), (1, .slice B c d), (12, .int .i64 (p0_s1.length : Int)), (13, .int .i64 ((y : Nat) : Int))] []) O ⟨K, rfl, hS, kr⟩ ?_ ?_
  ·rintro y C _ R ar hi29 S T ⟨D, rfl, o, f⟩
   refine sr (lv (rv_lss rfl rfl) (ns (wc_cond_t rfl (decide_eq_true (by omega)) (wc_skip (qe_seq (wc_seq (wc_block (sr (mv rfl (av rfl (ns (wc_quiet mixed (by kernel_rfl) o ?_))))))))))))
   refine km rfl (km rfl ?_)
   obtain ⟨U, V, W⟩ := ob S
   refine ki underlying55 tf3 (i.mono f) V fun X Y au aa ab => ?_
   obtain ⟨rfl, aw⟩ := aa
   have ac : AtK _ X Y [.int .i64 U] := ab
   refine kh (rq_load1 tf3 rfl (ac 0 _ rfl)) (km rfl (km rfl ?_))
   obtain ⟨ad, ae, af⟩ := ob W
   refine ki underlying55 tf3 (s.mono f) ae fun ag ah ax ai aj => ?_
   obtain ⟨rfl, ay⟩ := ai
   have ak : AtK _ ag ah [.int .i64 ad] := aj
   refine kh (rq_load1 tf3 rfl (ak 0 _ rfl)) (kv (rv_neq rfl rfl) (wq_nil ?_))
   rintro az ⟨G, H, al⟩
   refine qe_seq (wcc af rfl (fun am q => ?_) (fun am q => ?_))
   ·refine sr (lv (rv_assign (v := .bool false) rfl) (nq (wc_ret (qe_block_ret (qe_then_ret (qe_then_ret ?_))))))
    cases oi q
    cases T _ rfl
    refine qe_block_ret (qe_then_ret ?_)
    cases oi x
    refine qe_then_ret ?_
    cases oi k
    exact ey results170 ⟨G, rfl, H⟩
   refine wc_skip (qe_block (qg (lv (rv_add_to rfl rfl (w64_succ hi29 (SliceAt.max i))) (mv rfl (wl_nil ?_)))))
   cases oi q
   exact qd ⟨_, rfl, G, rfl, H, (f.trans al)⟩
  rintro C _ R an ⟨D, rfl, o, f⟩
  subst an
  refine sr (lv (rv_lss rfl rfl) (ns (wc_cond_f rfl (decide_eq_false (by omega)) (wc_exit (qe_then_exit (qe_then_exit (qe_block_eq ?_)))))))
  cases oi x
  exact qe_mid' ⟨_, D, rfl, rfl, o, f⟩ trivial
 rintro _ aA ⟨aB, ao, rfl, rfl, ap, aC⟩
 have k := elim_l k
 refine qr (lv (rv_assign (v := .bool true) rfl) (nq (wc_ret ?_)))
 cases oi k
 exact ey results170 ⟨ao, rfl, ap⟩

theorem ok_impl_samePost {p0_a : GPost} {p1_b : GPost} {r : Bool} (hS : SH w K [] w K []) (J : rng64 p0_a.Doc) (l : SliceAt tInt K A a b p0_a.At) (O : rng64 p1_b.Doc) (m : SliceAt tInt K B c d p1_b.At) (hm : M.impl_samePost F p0_a p1_b = some r) :
  Calls prog 123 #[.agg #[.int .i64 p0_a.Doc, .slice A a b], .agg #[.int .i64 p1_b.Doc, .slice B c d]] w fun e w' => ∃ K', e = .returned (.bool r) ∧ SH w K [] w' K' [] := by
 rw [M.impl_samePost] at hm
 refine ci func123 rfl ntmps123 (sr (bx rfl hS fun o R q => ?_))
 have s : SH _ _ _ _ _ [obj o [.int .i64 p0_a.Doc, .slice A a b] 71] := q
 refine bx rfl s fun x S y => ?_
 have i : SH _ _ _ _ _ [obj x [.int .i64 p1_b.Doc, .slice B c d] 71, _] := y
 refine lv (rv_assign (v := .bool false) rfl) (nr (fa ff71_0 rfl (lv (rv_loadm1 tf3 rfl m1 i rfl) (fa ff71_0 rfl (lv (rv_loadm1 tf3 rfl m0 i rfl) (lv (rv_eql rfl rfl) (mv rfl (bt hm (fun f k => ?_) (fun f k => ?_)))))))))
 ·refine lg f (rv_fieldAddr ff71_1 rfl) (lg f (rv_loadm1 tf55 rfl m1 i rfl) (lg f (rv_fieldAddr ff71_1 rfl) (lg f (rv_loadm1 tf55 rfl m0 i rfl) ?_)))
  obtain ⟨T, C, D⟩ := ob k
  refine wl_call (wg rfl rfl f) rfl (rt_call (vs := [.slice A a b, .slice B c d]) co170 rfl) ((ok_slices_Equal_int F) i.enter0 l m C) ?_
  rintro U V ⟨G, rfl, H⟩
  refine ⟨_, rfl, ?_⟩
  have I := (i.c0 H).t2
  refine lv (rv_pick_t rfl f rfl) (av rfl (nq (wc_ret ?_)))
  cases oi D
  exact ey results123 ⟨G, rfl, I.s⟩
 iterate 5 refine lu f ?_
 refine lv (rv_pick_f (v := .bool false) rfl f rfl) (av rfl (nq (wc_ret ?_)))
 cases oi k
 exact ey results123 ⟨K, rfl, i.s⟩

set_option maxHeartbeats 2000000 in
theorem ok_slices_EqualFunc_Post__impl_samePost {p0_s1 : List GPost} {p1_s2 : List GPost} {r : Bool} (hS : SH w K [] w K []) (y : SliceAt tGPost K A a b p0_s1) (O : SliceAt tGPost K B c d p1_s2) (hm : M.slices_EqualFunc_Post__impl_samePost F p0_s1 p1_s2 = some r) :
  Calls prog 122 #[.slice A a b, .slice B c d, .func (.func 123) #[] #[]] w fun e w' => ∃ K', e = .returned (.bool r) ∧ SH w K [] w' K' [] := by
 rw [M.slices_EqualFunc_Post__impl_samePost] at hm
 refine ci func122 rfl ntmps122 (sr (lv (rv_assign (v := .bool false) rfl) (nsr (mv rfl (lv (rv_len (t := tGPost) underlying57 rfl y) (mv rfl (lv (rv_len (t := tGPost) underlying57 rfl O) (lv (rv_neq rfl rfl) (nq ?_)))))))))
 refine wc_cond rfl (fun H => ?_) (fun H => ?_)
 ·have I := cond_t H hm
  refine sr (lv (rv_assign (v := .bool false) rfl) (nq (rr ?_)))
  cases oi I
  exact ey results122 ⟨K, rfl, hS⟩
 have I := cond_f H hm
 refine wc_skip (qs (sr (mv rfl (lv (rv_len (t := tGPost) underlying57 rfl y) (lv (rv_move (v := .int .i64 0) rfl) (nq ?_))))))
 obtain ⟨aa, ab, C⟩ := ob I
 refine wc_cutg (IE aa w K [] K [] []) ?_ ?_
 ·refine wc_block ?_
  obtain ⟨aO, ac, R⟩ := ob ab
  refine qf (fun (S : Nat) (T : Unit) => IV w K [] K [(1, .slice B c d), (2, .func (.func 123) #[] #[]), (15, .slice A a b), (16, .int .i64 (p0_s1.length : Int)), (17, .int .i64 ((S : Nat) : Int))] []) ac ⟨K, rfl, hS, kr⟩ ?_ ?_
  ·rintro S T _ ad aP hi29 ae af ⟨U, rfl, D, x⟩
   refine sr (lv (rv_lss rfl rfl) (ns (wc_cond_t rfl (decide_eq_true (by omega)) (wc_skip (qe_seq (wc_seq (wc_block (sr (mv rfl ?_)))))))))
   obtain ⟨f, ag, ah⟩ := ob ae
   refine li underlying57 tf71 (y.mono x) ag fun ai aj aQ ak am => ?_
   obtain ⟨i, k, l, rfl, an, ao⟩ := ak
   have ap : AtK _ ai aj [.int .i64 f.Doc, .slice i k l] := am
   refine lv (rv_loadS (cs := [.int .i64 f.Doc, .slice i k l]) tf71 rfl D ap rfl) (al tf71 D fun aq aR ar => ?_)
   have au : SH _ _ _ _ _ [obj aq [.int .i64 0, .slice none 0 0] 71] := ar
   refine av rfl (ls [.int .i64 f.Doc, .slice i k l] (.agg #[.int .i64 f.Doc, .slice i k l]) tf71 au fun aS V => (nr (mv rfl (mv rfl ?_))))
   obtain ⟨m, aw, ax⟩ := ob ah
   refine li underlying57 tf71 (O.mono x) aw fun ay az aT aA aB => ?_
   obtain ⟨o, q, s, rfl, aC, aD⟩ := aA
   have aE : AtK _ ay az [.int .i64 m.Doc, .slice o q s] := aB
   refine lv (rv_loadS (cs := [.int .i64 m.Doc, .slice o q s]) tf71 rfl V aE rfl) (al tf71 V fun aF aU aG => ?_)
   have aH : SH _ _ _ _ _ [obj aF [.int .i64 0, .slice none 0 0] 71, _] := aG
   refine ls [.int .i64 m.Doc, .slice o q s] (.agg #[.int .i64 m.Doc, .slice o q s]) tf71 aH fun aV G => (nr (mv rfl (lv (rv_loadmS (ds := [.int .i64 f.Doc, .slice i k l]) tf71 rfl m1 G rfl rfl) (lv (rv_loadmS (ds := [.int .i64 m.Doc, .slice o q s]) tf71 rfl m0 G rfl rfl) ?_))))
   obtain ⟨aW, aI, aJ⟩ := ob ax
   refine wl_call wn rfl (rt_callv (vs := [.agg #[.int .i64 f.Doc, .slice i k l], .agg #[.int .i64 m.Doc, .slice o q s]]) (cap := #[]) co123 rfl rfl) ((ok_impl_samePost F) G.enter0 an ao aC aD aI) ?_
   rintro aX aY ⟨W, rfl, X⟩
   refine ⟨_, rfl, ?_⟩
   have Y := (G.c0 X).t2
   refine lv (rv_not rfl) (nq (wcc aJ rfl (fun aK J => ?_) (fun aK J => ?_)))
   ·refine sr (lv (rv_assign (v := .bool false) rfl) (nq (wc_ret (qe_block_ret (qe_then_ret (qe_then_ret ?_))))))
    cases oi J
    cases af _ rfl
    refine qe_block_ret (qe_then_ret ?_)
    cases oi R
    refine qe_then_ret ?_
    cases oi C
    exact ey results122 ⟨W, rfl, Y.s⟩
   refine wc_skip (qe_block (qg (lv (rv_add_to rfl rfl (w64_succ hi29 (SliceAt.max y))) (mv rfl (wl_nil ?_)))))
   cases oi J
   exact qd ⟨_, rfl, W, rfl, Y.s, (x.trans X.le)⟩
  rintro T _ ad aL ⟨U, rfl, D, x⟩
  subst aL
  refine sr (lv (rv_lss rfl rfl) (ns (wc_cond_f rfl (decide_eq_false (by omega)) (wc_exit (qe_then_exit (qe_then_exit (qe_block_eq ?_)))))))
  cases oi R
  exact qe_mid' ⟨_, U, rfl, rfl, D, x⟩ trivial
 rintro _ aZ ⟨a0, aM, rfl, rfl, aN, a1⟩
 have C := elim_l C
 refine qr (lv (rv_assign (v := .bool true) rfl) (nq (wc_ret ?_)))
 cases oi C
 exact ey results122 ⟨aM, rfl, aN⟩

theorem ok_impl_sameEntry {p0_a : GEntry} {p1_b : GEntry} {r : Bool} (hS : SH w K [] w K []) (R : p0_a.Field.length ≤ maxLen) (S : p0_a.Term.length ≤ maxLen) (o : SliceAt tGPost K A a b p0_a.Posts) (T : p1_b.Field.length ≤ maxLen) (U : p1_b.Term.length ≤ maxLen) (q : SliceAt tGPost K B c d p1_b.Posts) (hm : M.impl_sameEntry F p0_a p1_b = some r) :
  Calls prog 72 #[.agg #[sv p0_a.Field, sv p0_a.Term, .slice A a b], .agg #[sv p1_b.Field, sv p1_b.Term, .slice B c d]] w fun e w' => ∃ K', e = .returned (.bool r) ∧ SH w K [] w' K' [] := by
 rw [M.impl_sameEntry] at hm
 refine ci func72 rfl ntmps72 (sr (bx rfl hS fun s V x => ?_))
 have y : SH _ _ _ _ _ [obj s [sv p0_a.Field, sv p0_a.Term, .slice A a b] 112] := x
 refine bx rfl y fun C W D => ?_
 have f : SH _ _ _ _ _ [obj C [sv p1_b.Field, sv p1_b.Term, .slice B c d] 112, _] := D
 refine lv (rv_assign (v := .bool false) rfl) (nr (fa ff112_0 rfl (lv (rv_loadm1 tf9 rfl m1 f rfl) (fa ff112_0 rfl (lv (rv_loadm1 tf9 rfl m0 f rfl) (lv (rv_seql rfl rfl) (mv rfl (bt hm (fun i l => ?_) (fun i l => ?_)))))))))
 ·refine lg i (rv_fieldAddr ff112_1 rfl) (lg i (rv_loadm1 tf9 rfl m1 f rfl) (lg i (rv_fieldAddr ff112_1 rfl) (lg i (rv_loadm1 tf9 rfl m0 f rfl) (lg i (rv_seql rfl rfl) (lv (rv_pick_t rfl i rfl) (mv rfl (bt l (fun k m => ?_) (fun k m => ?_))))))))
  ·refine lg k (rv_fieldAddr ff112_2 rfl) (lg k (rv_loadm1 tf57 rfl m1 f rfl) (lg k (rv_fieldAddr ff112_2 rfl) (lg k (rv_loadm1 tf57 rfl m0 f rfl) ?_)))
   obtain ⟨X, G, H⟩ := ob m
   refine wl_call (wg rfl rfl k) rfl (rt_call (vs := [.slice A a b, .slice B c d, .func (.func 123) #[] #[]]) co122 rfl) ((ok_slices_EqualFunc_Post__impl_samePost F) f.enter0 o q G) ?_
   rintro Y aa ⟨I, rfl, J⟩
   refine ⟨_, rfl, ?_⟩
   have O := (f.c0 J).t2
   refine lv (rv_pick_t rfl k rfl) (av rfl (nq (wc_ret ?_)))
   cases oi H
   exact ey results72 ⟨I, rfl, O.s⟩
  iterate 5 refine lu k ?_
  refine lv (rv_pick_f (v := .bool false) rfl k rfl) (av rfl (nq (wc_ret ?_)))
  cases oi m
  exact ey results72 ⟨K, rfl, f.s⟩
 iterate 5 refine lu i ?_
 refine lv (rv_pick_f (v := .bool false) rfl i rfl) (mv rfl ?_)
 iterate 5 refine lu rfl ?_
 refine lv (rv_pick_f (v := .bool false) rfl rfl rfl) (av rfl (nq (wc_ret ?_)))
 cases oi l
 exact ey results72 ⟨K, rfl, f.s⟩

set_option maxHeartbeats 2000000 in
theorem ok_slices_EqualFunc_Entry__impl_sameEntry {p0_s1 : List GEntry} {p1_s2 : List GEntry} {r : Bool} (hS : SH w K [] w K []) (y : SliceAt tGEntry K A a b p0_s1) (O : SliceAt tGEntry K B c d p1_s2) (hm : M.slices_EqualFunc_Entry__impl_sameEntry F p0_s1 p1_s2 = some r) :
  Calls prog 71 #[.slice A a b, .slice B c d, .func (.func 72) #[] #[]] w fun e w' => ∃ K', e = .returned (.bool r) ∧ SH w K [] w' K' [] := by
 rw [M.slices_EqualFunc_Entry__impl_sameEntry] at hm
 refine ci func71 rfl ntmps71 (sr (lv (rv_assign (v := .bool false) rfl) (nsr (mv rfl (lv (rv_len (t := tGEntry) underlying44 rfl y) (mv rfl (lv (rv_len (t := tGEntry) underlying44 rfl O) (lv (rv_neq rfl rfl) (nq ?_)))))))))
 refine wc_cond rfl (fun H => ?_) (fun H => ?_)
 ·have I := cond_t H hm
  refine sr (lv (rv_assign (v := .bool false) rfl) (nq (rr ?_)))
  cases oi I
  exact ey results71 ⟨K, rfl, hS⟩
 have I := cond_f H hm
 refine wc_skip (qs (sr (mv rfl (lv (rv_len (t := tGEntry) underlying44 rfl y) (lv (rv_move (v := .int .i64 0) rfl) (nq ?_))))))
 obtain ⟨aa, ab, C⟩ := ob I
 refine wc_cutg (IE aa w K [] K [] []) ?_ ?_
 ·refine wc_block ?_
  obtain ⟨aQ, ac, R⟩ := ob ab
  refine qf (fun (S : Nat) (T : Unit) => IV w K [] K [(1, .slice B c d), (2, .func (.func 72) #[] #[]), (15, .slice A a b), (16, .int .i64 (p0_s1.length : Int)), (17, .int .i64 ((S : Nat) : Int))] []) ac ⟨K, rfl, hS, kr⟩ ?_ ?_
  ·rintro S T _ ad aR hi29 ae af ⟨U, rfl, D, x⟩
   refine sr (lv (rv_lss rfl rfl) (ns (wc_cond_t rfl (decide_eq_true (by omega)) (wc_skip (qe_seq (wc_seq (wc_block (sr (mv rfl ?_)))))))))
   obtain ⟨f, ag, ah⟩ := ob ae
   refine li underlying44 tf112 (y.mono x) ag fun ai aj aS ak am => ?_
   obtain ⟨k, l, m, rfl, an, ao, ap⟩ := ak
   have aq : AtK _ ai aj [sv f.Field, sv f.Term, .slice k l m] := am
   refine lv (rv_loadS (cs := [sv f.Field, sv f.Term, .slice k l m]) tf112 rfl D aq rfl) (al tf112 D fun ar aT au => ?_)
   have aw : SH _ _ _ _ _ [obj ar [sv [], sv [], .slice none 0 0] 112] := au
   refine av rfl (ls [sv f.Field, sv f.Term, .slice k l m] (.agg #[sv f.Field, sv f.Term, .slice k l m]) tf112 aw fun aU V => (nr (mv rfl (mv rfl ?_))))
   obtain ⟨i, ax, ay⟩ := ob ah
   refine li underlying44 tf112 (O.mono x) ax fun az aA aV aB aC => ?_
   obtain ⟨o, q, s, rfl, aD, aE, aF⟩ := aB
   have aG : AtK _ az aA [sv i.Field, sv i.Term, .slice o q s] := aC
   refine lv (rv_loadS (cs := [sv i.Field, sv i.Term, .slice o q s]) tf112 rfl V aG rfl) (al tf112 V fun aH aW aI => ?_)
   have aJ : SH _ _ _ _ _ [obj aH [sv [], sv [], .slice none 0 0] 112, _] := aI
   refine ls [sv i.Field, sv i.Term, .slice o q s] (.agg #[sv i.Field, sv i.Term, .slice o q s]) tf112 aJ fun aX G => (nr (mv rfl (lv (rv_loadmS (ds := [sv f.Field, sv f.Term, .slice k l m]) tf112 rfl m1 G rfl rfl) (lv (rv_loadmS (ds := [sv i.Field, sv i.Term, .slice o q s]) tf112 rfl m0 G rfl rfl) ?_))))
   obtain ⟨aY, aK, aL⟩ := ob ay
   refine wl_call wn rfl (rt_callv (vs := [.agg #[sv f.Field, sv f.Term, .slice k l m], .agg #[sv i.Field, sv i.Term, .slice o q s]]) (cap := #[]) co72 rfl rfl) ((ok_impl_sameEntry F) G.enter0 an ao ap aD aE aF aK) ?_
   rintro aZ a0 ⟨W, rfl, X⟩
   refine ⟨_, rfl, ?_⟩
   have Y := (G.c0 X).t2
   refine lv (rv_not rfl) (nq (wcc aL rfl (fun aM J => ?_) (fun aM J => ?_)))
   ·refine sr (lv (rv_assign (v := .bool false) rfl) (nq (wc_ret (qe_block_ret (qe_then_ret (qe_then_ret ?_))))))
    cases oi J
    cases af _ rfl
    refine qe_block_ret (qe_then_ret ?_)
    cases oi R
    refine qe_then_ret ?_
    cases oi C
    exact ey results71 ⟨W, rfl, Y.s⟩
   refine wc_skip (qe_block (qg (lv (rv_add_to rfl rfl (w64_succ hi29 (SliceAt.max y))) (mv rfl (wl_nil ?_)))))
   cases oi J
   exact qd ⟨_, rfl, W, rfl, Y.s, (x.trans X.le)⟩
  rintro T _ ad aN ⟨U, rfl, D, x⟩
  subst aN
  refine sr (lv (rv_lss rfl rfl) (ns (wc_cond_f rfl (decide_eq_false (by omega)) (wc_exit (qe_then_exit (qe_then_exit (qe_block_eq ?_)))))))
  cases oi R
  exact qe_mid' ⟨_, U, rfl, rfl, D, x⟩ trivial
 rintro _ a1 ⟨a2, aO, rfl, rfl, aP, a3⟩
 have C := elim_l C
 refine qr (lv (rv_assign (v := .bool true) rfl) (nq (wc_ret ?_)))
 cases oi C
 exact ey results71 ⟨aO, rfl, aP⟩

theorem ok_impl_SegOk {p0_c : GConf} {p1_s : GSeg} {r : Bool} (hS : SH w K [] w K []) (T : SliceAt tStr K A a b p0_c.Stops) (U : SliceAt tGSyn K B c d p0_c.Syns) (V : SliceAt tGDoc K C f i p1_s.Docs) (ab : SliceAt tGEntry K D k l p1_s.Entries) (hm : M.impl_SegOk F p0_c p1_s = some r) :
  Calls prog 25 #[.agg #[.slice A a b, .slice B c d], .agg #[.slice C f i, .slice D k l]] w fun e w' => ∃ K', e = .returned (.bool r) ∧ SH w K [] w' K' [] := by
 rw [M.impl_SegOk] at hm
 refine ci func25 rfl ntmps25 (sr (bx rfl hS fun s az ac => ?_))
 have ad : SH _ _ _ _ _ [obj s [.slice A a b, .slice B c d] 26] := ac
 refine bx rfl ad fun x aA ae => ?_
 have O : SH _ _ _ _ _ [obj x [.slice C f i, .slice D k l] 46, _] := ae
 refine lv (rv_assign (v := .bool false) rfl) (ns (wc_seq ?_))
 obtain ⟨af, ag, ah⟩ := ob hm
 refine wc_cutg (IV w K [] K [(2, pt s), (3, pt x), (13, .bool af)] [obj s [.slice A a b, .slice B c d] 26, obj x [.slice C f i, .slice D k l] 46]) ?_ ?_
 ·refine wc_region (lv (rv_loadmS (ds := [.slice A a b, .slice B c d]) tf26 rfl m1 O rfl rfl) ?_)
  obtain ⟨aB, ai, aj⟩ := ob ag
  refine lk co19 ((ok_impl_ConfOk F) O.enter0 T U ai) ?_
  rintro aC aD ⟨ak, rfl, y⟩
  have G := (O.c0 y).t2
  refine lv (rv_not rfl) (mv rfl (bt aj (fun m R => ?_) (fun m R => ?_)))
  ·refine lu m (lu m (lu m (lu m (lv (rv_pick_t (v := .bool true) rfl m rfl) (wl_nil ?_)))))
   cases oi R
   exact qd ⟨ak, rfl, G.f1, y.le⟩
  refine lg m (rv_fieldAddr ff46_0 rfl) (lg m (rv_loadm1 tf35 rfl m0 G rfl) ?_)
  obtain ⟨aE, al, am⟩ := ob R
  refine wl_call (wg rfl rfl m) rfl (rt_call (vs := [.slice C f i]) co63 rfl) ((ok_impl_DocsOk F) G.enter0 (V.mono y.le) al) ?_
  rintro aF aG ⟨an, rfl, W⟩
  refine ⟨_, rfl, ?_⟩
  have ao := (G.c0 W).t2
  refine lg m (rv_not rfl) (lv (rv_pick_f rfl m rfl) (wl_nil ?_))
  cases oi am
  exact qd ⟨an, rfl, ao.f1, (y.le.trans W.le)⟩
 rintro _ aH ⟨X, rfl, Y, H⟩
 refine qe_seq (wcc ah rfl (fun ap S => ?_) (fun ap S => ?_))
 ·refine sr (lv (rv_assign (v := .bool false) rfl) (nq (rr ?_)))
  cases oi S
  exact ey results25 ⟨X, rfl, Y.s⟩
 refine wc_skip (qs ?_)
 have o := Y.drew
 refine wj0 (fun w' => Holds X w' ∧ HasObj s [.slice A a b, .slice B c d] w' ∧ HasObj x [.slice C f i, .slice D k l] w') (fun w' => True) 9 [] mixed ⟨o.hasK kr, o.hasObj m0, o.hasObj m1⟩ (fun _ => trivial) (jh 0 rfl (fun _ h => rh_loadmS (ds := [.slice A a b, .slice B c d]) tf26 rfl rfl rfl h.2.1) (jv 1 rfl (rv_fieldAddr ff46_0 rfl) (jh 2 rfl (fun _ h => rh_loadm1 tf35 rfl rfl h.2.2) (jv 5 rfl (rv_fieldAddr ff46_1 rfl) (jh 6 rfl (fun _ h => rh_loadm1 tf44 rfl rfl h.2.2) (j1 3 rfl ?_))))))
 obtain ⟨aI, aq, ar⟩ := ob S
 refine lk co67 ((ok_impl_SegOf F) o.enter0 (T.mono H) (U.mono H) (V.mono H) aq) ?_
 rintro aJ aK ⟨aL, aM, aN, aO, aP, aQ, aR, rfl, I, aS, au⟩
 have q := (o.c0 I).t3
 refine jn ⟨q.hasK I.le, q.hasObj m1, q.hasObj m2⟩ (fun _ => trivial) (jv 4 rfl (rv_field fg46_1 tf44 rfl (.inl ⟨rfl, rfl⟩)) (j1 7 rfl ?_))
 obtain ⟨aT, aw, ax⟩ := ob ar
 refine lk co71 ((ok_slices_EqualFunc_Entry__impl_sameEntry F) q.enter0 au (ab.mono (H.trans I.le)) aw) ?_
 rintro aU aV ⟨ay, rfl, aa⟩
 have J := (q.c0 aa).t3
 refine jn ⟨J.hasK (I.le.trans aa.le), J.hasObj m1, J.hasObj m2⟩ (fun _ => trivial) (jv 8 rfl (rv_assign rfl) (jd (qe_seq (wc_ret ?_))))
 cases oi ax
 exact ey results25 ⟨ay, rfl, J.s⟩

set_option maxHeartbeats 2000000 in
theorem ok_impl_UpOk {p0_list : List Int} {r : Bool} (hS : SH w K [] w K []) (f : SliceAt tInt K A a b p0_list) (hm : M.impl_UpOk F p0_list = some r) :
  Calls prog 109 #[.slice A a b] w fun e w' => ∃ K', e = .returned (.bool r) ∧ SH w K [] w' K' [] := by
 rw [M.impl_UpOk] at hm
 refine ci func109 rfl ntmps109 (sr (lv (rv_assign (v := .bool false) rfl) (nsr (mv rfl (lv (rv_len (t := tInt) underlying55 rfl f) (lv (rv_move (v := .int .i64 0) rfl) (nq ?_)))))))
 obtain ⟨J, O, m⟩ := ob hm
 refine wc_cutg (IE J w K [] K [(0, .slice A a b)] []) ?_ ?_
 ·refine wc_block ?_
  obtain ⟨aB, R, D⟩ := ob O
  refine qf (fun (q : Nat) (G : Unit) => IV w K [] K [(0, .slice A a b), (5, .slice A a b), (6, .int .i64 (p0_list.length : Int)), (7, .int .i64 ((q : Nat) : Int))] []) R ⟨K, rfl, hS, kr⟩ ?_ ?_
  ·rintro q G _ S aC hi23 T U ⟨s, rfl, i, k⟩
   refine sr (lv (rv_lss rfl rfl) (ns (wc_cond_t rfl (decide_eq_true (by omega)) (wc_skip (qe_seq (wc_seq (wc_block (sr (mv rfl ?_)))))))))
   obtain ⟨V, W, X⟩ := ob T
   refine li underlying55 tf3 (f.mono k) W fun Y aa aD ab ac => ?_
   obtain ⟨rfl, ad⟩ := ab
   have ae : AtK _ Y aa [.int .i64 V] := ac
   refine lv (rv_load1 tf3 rfl i (ae 0 _ rfl)) (av rfl (av rfl (ns ?_)))
   obtain ⟨af, ag, ah⟩ := ob X
   refine wc_cutg (IV w K [] s [(0, .slice A a b), (5, .slice A a b), (6, .int .i64 (p0_list.length : Int)), (7, .int .i64 ((q : Nat) : Int)), (27, .bool af)] []) ?_ ?_
   ·refine wc_region (mv rfl ?_)
    obtain ⟨aE, ai, aj⟩ := ob ag
    refine lk co58 ((ok_impl_within F) i.enter0 ad (by decide : rng64 0) (by decide : rng64 999999999) ai) ?_
    rintro aF aG ⟨x, rfl, l⟩
    have o := (i.c0 l).t0
    refine lv (rv_not rfl) (mv rfl (bt aj (fun c y => ?_) (fun c y => ?_)))
    ·refine lu c (lu c (lu c (wl_un (uu rfl rfl) rfl (wl_un (uu rfl rfl) rfl (wl_un (uu rfl rfl) rfl (wl_un (uu rfl rfl) rfl (wl_un (uu rfl rfl) rfl (wl_un (uu rfl rfl) rfl (wl_un (uu rfl rfl) rfl ?_)))))))))
     refine lu c (lv (rv_pick_t (v := .bool true) rfl c rfl) (wl_nil ?_))
     cases oi y
     exact qd ⟨x, rfl, o, l.le⟩
    refine lg c (rv_move rfl) (lg c (rv_gtr rfl rfl) (lg c (rv_move rfl) (bt y (fun d B => ?_) (fun d B => ?_))))
    ·refine lg d (rv_move rfl) (lg d (rv_move rfl) (lg d (rv_sub rfl rfl) ?_))
     obtain ⟨ak, al, am⟩ := ob B
     refine wl_indexAddr (t := tInt) (wg rfl rfl d) rfl underlying55 tf3 rfl rfl (f.mono (k.trans l.le)) al fun an ao aH ap aq => ?_
     obtain ⟨rfl, aI⟩ := ap
     have ar : AtK _ an ao [.int .i64 ak] := aq
     refine lg d (rv_load1 tf3 rfl o (ar 0 _ rfl)) (lg d (rv_move rfl) (lg d (rv_geq rfl rfl) (lg c (rv_pick_t rfl d rfl) (lv (rv_pick_f rfl c rfl) (wl_nil ?_)))))
     cases oi am
     exact qd ⟨x, rfl, o, l.le⟩
    iterate 7 refine lu d ?_
    refine lg c (rv_pick_f (v := .bool false) rfl d rfl) (lv (rv_pick_f rfl c rfl) (wl_nil ?_))
    cases oi B
    exact qd ⟨x, rfl, o, l.le⟩
   rintro _ aJ ⟨H, rfl, I, au⟩
   refine qe_seq (wcc ah rfl (fun aw C => ?_) (fun aw C => ?_))
   ·refine sr (lv (rv_assign (v := .bool false) rfl) (nq (wc_ret (qe_block_ret (qe_then_ret (qe_then_ret ?_))))))
    cases oi C
    cases U _ rfl
    refine qe_block_ret (qe_then_ret ?_)
    cases oi D
    refine qe_then_ret ?_
    cases oi m
    exact ey results109 ⟨H, rfl, I⟩
   refine wc_skip (qe_block (qg (lv (rv_add_to rfl rfl (w64_succ hi23 (SliceAt.max f))) (mv rfl (wl_nil ?_)))))
   cases oi C
   exact qd ⟨_, rfl, H, rfl, I, (k.trans au)⟩
  rintro G _ S ax ⟨s, rfl, i, k⟩
  subst ax
  refine sr (lv (rv_lss rfl rfl) (ns (wc_cond_f rfl (decide_eq_false (by omega)) (wc_exit (qe_then_exit (qe_then_exit (qe_block_eq ?_)))))))
  cases oi D
  exact qd ⟨_, s, rfl, rfl, i, k⟩
 rintro _ aK ⟨s8, K9, rfl, rfl, az, aA⟩
 have m := elim_l m
 refine qr (mv rfl (lv (rv_len (t := tInt) underlying55 rfl (f.mono aA)) (lv (rv_leq rfl rfl) (av rfl (nq (wc_ret ?_))))))
 cases oi m
 exact ey results109 ⟨K9, rfl, az⟩

theorem ok_slices_Index_int {p0_s : List Int} {p1_v : Int} {r : Int} (hS : SH w K [] w K []) (d : SliceAt tInt K A a b p0_s) (Y : rng64 p1_v) (hm : M.slices_Index_int F p0_s p1_v = some r) :
  Calls prog 200 #[.slice A a b, .int .i64 p1_v] w fun e w' => ∃ K', e = .returned (.int .i64 r) ∧ SH w K [] w' K' [] ∧ rng64 r := by
 rw [M.slices_Index_int] at hm
 refine ci func200 rfl ntmps200 (sr (lv (rv_assign (v := .int .i64 0) rfl) (nsr (mv rfl (lv (rv_len (t := tInt) underlying55 rfl d) (lv (rv_move (v := .int .i64 0) rfl) (nq ?_)))))))
 obtain ⟨s, x, f⟩ := ob hm
 refine wc_cutg (IE s w K [] K [] []) ?_ ?_
 ·refine wc_block ?_
  obtain ⟨aa, y, m⟩ := ob x
  refine qf (fun (o : Nat) (q : Unit) => IV w K [] K [(0, .slice A a b), (1, .int .i64 p1_v), (7, .int .i64 (p0_s.length : Int)), (8, .int .i64 ((o : Nat) : Int))] []) y ⟨K, rfl, hS, kr⟩ ?_ ?_
  ·rintro o q _ B ab hi24 C D ⟨i, rfl, c, k⟩
   refine sr (lv (rv_lss rfl rfl) (ns (wc_cond_t rfl (decide_eq_true (by omega)) (wc_skip (qe_seq (wc_seq (wc_block (sr (mv rfl (av rfl (nr (mv rfl ?_))))))))))))
   refine mv rfl (mv rfl ?_)
   obtain ⟨G, H, I⟩ := ob C
   refine li underlying55 tf3 (d.mono k) H fun J O ac R S => ?_
   obtain ⟨rfl, ad⟩ := R
   have T : AtK _ J O [.int .i64 G] := S
   refine lv (rv_load1 tf3 rfl c (T 0 _ rfl)) (lv (rv_eql rfl rfl) (nq (wcc I rfl (fun U l => ?_) (fun U l => ?_))))
   ·refine sr (mv rfl (av rfl (nq (wc_ret (qe_block_ret (qe_then_ret (qe_then_ret ?_)))))))
    cases oi l
    cases D _ rfl
    refine qe_block_ret (qe_then_ret ?_)
    cases oi m
    refine qe_then_ret ?_
    cases oi f
    exact ey results200 ⟨i, rfl, c, (rng_idx hi24 (SliceAt.max d))⟩
   refine wc_skip (qe_block (qg (lv (rv_add_to rfl rfl (w64_succ hi24 (SliceAt.max d))) (mv rfl (wl_nil ?_)))))
   cases oi l
   exact qd ⟨_, rfl, i, rfl, c, k⟩
  rintro q _ B V ⟨i, rfl, c, k⟩
  subst V
  refine sr (lv (rv_lss rfl rfl) (ns (wc_cond_f rfl (decide_eq_false (by omega)) (wc_exit (qe_then_exit (qe_then_exit (qe_block_eq ?_)))))))
  cases oi m
  exact qe_mid' ⟨_, i, rfl, rfl, c, k⟩ trivial
 rintro _ ae ⟨s9, W, rfl, rfl, X, ag⟩
 have f := elim_l f
 refine qr (lv (rv_assign (v := .int .i64 (-1)) rfl) (nq (wc_ret ?_)))
 cases oi f
 exact ey results200 ⟨W, rfl, X, (by decide : rng64 (-1))⟩

theorem ok_slices_Contains_int {p0_s : List Int} {p1_v : Int} {r : Bool} (hS : SH w K [] w K []) (c : SliceAt tInt K A a b p0_s) (d : rng64 p1_v) (hm : M.slices_Contains_int F p0_s p1_v = some r) :
  Calls prog 161 #[.slice A a b, .int .i64 p1_v] w fun e w' => ∃ K', e = .returned (.bool r) ∧ SH w K [] w' K' [] := by
 rw [M.slices_Contains_int] at hm
 refine ci func161 rfl ntmps161 (sr (lv (rv_assign (v := .bool false) rfl) (nr (mv rfl (mv rfl ?_)))))
 obtain ⟨o, f, i⟩ := ob hm
 refine lk co200 ((ok_slices_Index_int F) hS.enter0 c d f) ?_
 rintro q s ⟨k, rfl, l, x⟩
 have m := (hS.c0 l).t0
 refine lv (rv_geq rfl rfl) (av rfl (nq (wc_ret ?_)))
 cases oi i
 exact ey results161 ⟨k, rfl, m⟩

theorem ok_impl_Live_alive {p0_l : GLive} {r : (List GDoc)} (hS : SH w K [] w K []) (V : SliceAt tGDoc K A a b p0_l.Seg.Docs) (a3 : SliceAt tGEntry K B c d p0_l.Seg.Entries) (aj : SliceAt tInt K C f i p0_l.Dead) (hm : M.impl_Live_alive F p0_l = some r) :
  Calls prog 110 #[.agg #[.slice A a b, .slice B c d, .slice C f i]] w fun e w' => ∃ a_1 n_2 c_3 K', e = .returned (.slice a_1 n_2 c_3) ∧ SH w K [] w' K' [tail (.slice a_1 n_2 c_3) 54 3] ∧ SliceAt tGDoc K' a_1 n_2 c_3 r := by
 rw [M.impl_Live_alive] at hm
 refine ci func110 rfl ntmps110 (sr (bx rfl hS fun aa a4 ak => ?_))
 have am : SH _ _ _ _ _ [obj aa [.slice A a b, .slice B c d, .slice C f i] 93] := ak
 refine lv (rv_assign (v := .slice none 0 0) rfl) (nr (b0 tGDoc underlying35 tf54 am fun an a5 ab O ao af => (av rfl (nsr (fa ff93_0 rfl (fa ff46_0 rfl (lv (rv_loadm1 tf35 rfl m1 af rfl) (lv (rv_len (t := tGDoc) underlying35 rfl (V.mono O)) (lv (rv_move (v := .int .i64 0) rfl) ?_)))))))))
 refine nq ?_
 obtain ⟨ap, aq, ar⟩ := ob hm
 refine wc_cutg (fun E' w' => ∃ R S T U, E' = [(3, .slice R S T)] ∧ SH w K [] w' U [tail (.slice R S T) 54 3] ∧ KLe ab U ∧ SliceAt tGDoc U R S T ap) ?_ ?_
 ·refine wc_block ?_
  obtain ⟨a6, au, aw⟩ := ob aq
  refine qF (fun (ag : Nat) (ac : (List GDoc)) E' w' => ∃ y D G I, E' = [(1, pt aa), (3, .slice y D G), (9, .slice A a b), (10, .int .i64 (p0_l.Seg.Docs.length : Int)), (11, .int .i64 ((ag : Nat) : Int))] ∧ SH w K [] w' I [obj aa [.slice A a b, .slice B c d, .slice C f i] 93, tail (.slice y D G) 54 3] ∧ KLe ab I ∧ SliceAt tGDoc I y D G ac) au ⟨an, 0, 0, ab, rfl, af.f1, kr, ao⟩ ?_ ?_
  ·rintro ag ac _ ax a7 hi49 ay ⟨y, D, G, I, rfl, W, J, X⟩
   refine sr (lv (rv_lss rfl rfl) (ns (wc_cond_t rfl (decide_eq_true (by omega)) (wc_skip (qe_seq (wc_seq (wc_block (sr ?_))))))))
   obtain ⟨k, az, aA⟩ := ob ay
   refine li underlying35 tf54 (V.mono (O.trans J)) az fun aB aC a8 aD aE => ?_
   obtain ⟨l, m, o, q, s, x, rfl, ah, aF, aG⟩ := aD
   have aH : AtK _ aB aC [.int .i64 k.Id, .slice l m o, .slice q s x] := aE
   refine lv (rv_loadS (cs := [.int .i64 k.Id, .slice l m o, .slice q s x]) tf54 rfl W aH rfl) (al tf54 W fun aI a9 aJ => ?_)
   have aK : SH _ _ _ _ _ [obj aI [.int .i64 0, .slice none 0 0, .slice none 0 0] 54, _, _] := aJ
   refine ls [.int .i64 k.Id, .slice l m o, .slice q s x] (.agg #[.int .i64 k.Id, .slice l m o, .slice q s x]) tf54 aK fun ba Y => (nr (fa ff93_1 rfl (lv (rv_loadm1 tf55 rfl m1 Y rfl) (fa ff54_0 rfl (lv (rv_loadm1 tf3 rfl m0 Y rfl) ?_)))))
   obtain ⟨bb, aL, aM⟩ := ob aA
   refine lk co161 ((ok_slices_Contains_int F) Y.enter0 (aj.mono (O.trans J)) ah aL) ?_
   rintro bc bd ⟨aN, rfl, H⟩
   have ad := (Y.c0 H).t3
   refine lv (rv_not rfl) (nq (wcc aM rfl (fun aO ae => ?_) (fun aO ae => ?_)))
   ·refine wc_region (mv rfl (lv (rv_loadmS (ds := [.int .i64 k.Id, .slice l m o, .slice q s x]) tf54 rfl m0 ad rfl rfl) (lb tGDoc (.agg #[.int .i64 k.Id, .slice l m o, .slice q s x]) [.int .i64 k.Id, .slice l m o, .slice q s x] k underlying35 tf54 ⟨l, m, o, q, s, x, rfl, ah, (aF.mono H.le), (aG.mono H.le)⟩ ad fun be bf bg ai aP aQ => ?_)))
    obtain ⟨bh, aR, aS⟩ := ob ae
    refine lp underlying35 tf54 (X.mono (H.le.trans ai)) aP aR aQ.f3 fun aT aU aV bi aW aX aY aZ => (av rfl (nb (qg (lv (rv_add_to rfl rfl (w64_succ hi49 (SliceAt.max (V.mono O)))) (mv rfl (wl_nil ?_))))))
    cases oi aS
    exact qd ⟨aT, aU, aV, aW, rfl, aZ.f3.s, (((J.trans H.le).trans ai).trans aX), aY⟩
   refine wc_skip (qe_block (qg (lv (rv_add_to rfl rfl (w64_succ hi49 (SliceAt.max (V.mono O)))) (mv rfl (wl_nil ?_)))))
   cases oi ae
   exact qd ⟨y, D, G, aN, rfl, ad.s, (J.trans H.le), (X.mono H.le)⟩
  rintro ac _ ax a0 ⟨y, D, G, I, rfl, W, J, X⟩
  subst a0
  refine sr (lv (rv_lss rfl rfl) (ns (wc_cond_f rfl (decide_eq_false (by omega)) (wc_exit (qe_then_exit (qe_then_exit (qe_block_eq ?_)))))))
  cases oi aw
  exact qd ⟨y, D, G, I, rfl, W.s, J, X⟩
 rintro _ bj ⟨R, S, T, U, rfl, a1, bk, a2⟩
 refine qr (mv rfl (av rfl (nq (wc_ret ?_))))
 cases oi ar
 exact ey results110 ⟨R, S, T, U, rfl, a1, a2⟩
end Go.Proofs.YtmkhlppjphodfaaGreatDoor
