/-
 Walks of the functions. Printed by gen.py.
-/
import Derived.Test.YtoeajphlomankaaGreatDoorWalkA3
set_option linter.unusedVariables false
set_option maxRecDepth 100000
namespace Go.Proofs.YtoeajphlomankaaGreatDoor
open Go Go.Fk Go.RowKit Tryz

theorem ok_impl_SegOk (F : Nat) {w : World} {K : KMap} {c : Option Addr} {d f : Nat} {k : Option Addr} {l m : Nat} {o : Option Addr} {q s : Nat} {x : Option Addr} {y A : Nat} {p0_c : GConf} {p1_s : GSeg} {r : Bool} (hS : SH w K [] w K []) (W : SliceAt tStr K c d f p0_c.Stops) (X : SliceAt tGSyn K k l m p0_c.Syns) (Y : SliceAt tGDoc K o q s p1_s.Docs) (ac : SliceAt tGEntry K x y A p1_s.Entries) (hm : M.impl_SegOk F p0_c p1_s = some r) :
  Calls Tryz.prog 12 #[.agg #[.slice c d f, .slice k l m], .agg #[.slice o q s, .slice x y A]] w fun e w' => ∃ K', e = .returned (.bool r) ∧ SH w K [] w' K' [] := by
 rw [M.impl_SegOk] at hm
 refine calls_in func12 rfl ntmps12 rfl (sr (bx rfl hS fun H aF ad => ?_))
 have ae : SH _ _ _ _ _ [obj H [.slice c d f, .slice k l m] 26] := ad
 refine bx rfl ae fun D aG af => ?_
 have S : SH _ _ _ _ _ [obj D [.slice o q s, .slice x y A] 30, _] := af
 refine lv (rv_assign (v := .bool false) rfl) (ns (wc_seq ?_))
 obtain ⟨ag, ah, ai⟩ := ob hm
 refine wc_cutg (fun E' w' => ∃ I, E' = [(2, pt H), (3, pt D), (13, .bool ag)] ∧ SH w K [] w' I [obj H [.slice c d f, .slice k l m] 26, obj D [.slice o q s, .slice x y A] 30] ∧ KLe K I) ?_ ?_
 ·refine wc_region (lv (rv_loadmS (ds := [.slice c d f, .slice k l m]) tf26 rfl m1 S rfl rfl) ?_)
  obtain ⟨aj, ak, Z⟩ := ob ah
  refine lc (vs := [.agg #[.slice c d f, .slice k l m]]) co20 ((ok_impl_ConfOk F) S.enter0 W X ak) ?_
  rintro aH aI ⟨al, rfl, J⟩
  refine ⟨_, rfl, ?_⟩
  have O := (S.c0 J).t2
  refine lv (rv_not rfl) (mv rfl ?_)
  rcases bool_tf ((!aj)) with b | b
  ·have T := cond_t b Z
   refine lu b (lu b (lu b (lu b (lv (rv_pick_t (v := .bool true) rfl b rfl) (wl_nil ?_)))))
   obtain rfl := oi T
   exact qd ⟨al, rfl, O.f1, J.le⟩
  have T := cond_f b Z
  refine lg b (rv_fieldAddr ff30_0 rfl) (lg b (rv_loadm1 tf27 rfl m0 O rfl) ?_)
  obtain ⟨aJ, am, an⟩ := ob T
  refine wl_call (wg rfl rfl b) rfl (rt_call (vs := [.slice o q s]) co40 rfl) ((ok_impl_DocsOk F) O.enter0 (Y.mono J.le) am) ?_
  rintro aK aL ⟨ao, rfl, aa⟩
  refine ⟨_, rfl, ?_⟩
  have ap := (O.c0 aa).t2
  refine lg b (rv_not rfl) (lv (rv_pick_f rfl b rfl) (wl_nil ?_))
  obtain rfl := oi an
  exact qd ⟨ao, rfl, ap.f1, (J.le.trans aa.le)⟩
 rintro _ aM ⟨I, rfl, ab, R⟩
 refine qe_seq (wcc ai rfl (fun aq U => ?_) (fun aq U => ?_))
 ·refine sr (lv (rv_assign (v := .bool false) rfl) (nq (rr ?_)))
  obtain rfl := oi U
  have ar := ab.sb (sd (sd sz))
  exact er results12 ⟨rfl, trivial⟩ ⟨I, rfl, ar⟩
 refine wc_skip (qs (wc_held (fun w' => Holds I w' ∧ HasObj H [.slice c d f, .slice k l m] w' ∧ HasObj D [.slice o q s, .slice x y A] w') (fun w' => True) 9 [] mixed ?_))
 have a := ab.drew
 refine wg_val (i := 0) (listed' := #[true, false, false, false, false, false, false, false, false]) (HasObj H [.slice c d f, .slice k l m]) rfl (by kernel_rfl) (pk_then pk_body) (by kernel_rfl) rfl (by kernel_rfl) (by kernel_rfl) rfl (.inl fun _ h => h.2.1) ⟨⟨a.hasK (KLe.refl _), a.hasObj m0, a.hasObj m1⟩, (fun _ => trivial), by decide⟩ wn rfl (fun _ h => rh_loadmS (ds := [.slice c d f, .slice k l m]) tf26 rfl rfl rfl h) (wg_val (i := 1) (listed' := #[true, true, false, false, false, false, false, false, false]) (fun _ => True) rfl (by kernel_rfl) (pk_then pk_body) (by kernel_rfl) rfl (by kernel_rfl) (by kernel_rfl) rfl (.inl fun _ _ => trivial) ⟨⟨a.hasK (KLe.refl _), a.hasObj m0, a.hasObj m1⟩, (fun _ => trivial), by decide⟩ wn rfl (fun _ _ => (rv_fieldAddr ff30_0 rfl)) (wg_val (i := 2) (listed' := #[true, true, true, false, false, false, false, false, false]) (HasObj D [.slice o q s, .slice x y A]) rfl (by kernel_rfl) (pk_then pk_body) (by kernel_rfl) rfl (by kernel_rfl) (by kernel_rfl) rfl (.inl fun _ h => h.2.2) ⟨⟨a.hasK (KLe.refl _), a.hasObj m0, a.hasObj m1⟩, (fun _ => trivial), by decide⟩ wn rfl (fun _ h => rh_loadm1 tf27 rfl rfl h) ?_))
 refine wg_val (i := 5) (listed' := #[true, true, true, false, false, true, false, false, false]) (fun _ => True) rfl (by kernel_rfl) (pk_then pk_body) (by kernel_rfl) rfl (by kernel_rfl) (by kernel_rfl) rfl (.inl fun _ _ => trivial) ⟨⟨a.hasK (KLe.refl _), a.hasObj m0, a.hasObj m1⟩, (fun _ => trivial), by decide⟩ wn rfl (fun _ _ => (rv_fieldAddr ff30_1 rfl)) (wg_val (i := 6) (listed' := #[true, true, true, false, false, true, true, false, false]) (HasObj D [.slice o q s, .slice x y A]) rfl (by kernel_rfl) (pk_then pk_body) (by kernel_rfl) rfl (by kernel_rfl) (by kernel_rfl) rfl (.inl fun _ h => h.2.2) ⟨⟨a.hasK (KLe.refl _), a.hasObj m0, a.hasObj m1⟩, (fun _ => trivial), by decide⟩ wn rfl (fun _ h => rh_loadm1 tf28 rfl rfl h) (wg_one (i := 3) (by kernel_rfl) rfl ?_))
 obtain ⟨aN, au, aw⟩ := ob U
 refine lc (vs := [.agg #[.slice c d f, .slice k l m], .slice o q s]) co42 ((ok_impl_SegOf F) a.enter0 (W.mono R) (X.mono R) (Y.mono R) au) ?_
 rintro aO aP ⟨aQ, aR, aS, ax, ay, az, aT, rfl, G, aU, aA⟩
 refine ⟨_, rfl, ?_⟩
 have B := (a.c0 G).t3
 refine wl_nil (qe_held (listed' := #[true, true, true, true, false, true, true, false, false]) rfl ⟨⟨B.hasK G.le, B.hasObj m1, B.hasObj m2⟩, (fun _ => trivial), by decide⟩ (wg_val (i := 4) (listed' := #[true, true, true, true, true, true, true, false, false]) (fun _ => True) rfl (by kernel_rfl) (pk_then pk_body) (by kernel_rfl) rfl (by kernel_rfl) (by kernel_rfl) rfl (.inl fun _ _ => trivial) ⟨⟨B.hasK G.le, B.hasObj m1, B.hasObj m2⟩, (fun _ => trivial), by decide⟩ wn rfl (fun _ _ => (rv_field fg30_1 tf28 rfl (.inl ⟨rfl, rfl⟩))) (wg_one (i := 7) (by kernel_rfl) rfl ?_)))
 obtain ⟨aV, aB, aC⟩ := ob aw
 refine lc (vs := [.slice ax ay az, .slice x y A, .func (.func 43) #[] #[]]) co41 ((ok_slices_EqualFunc_Entry__impl_sameEntry F) B.enter0 aA (ac.mono (R.trans G.le)) aB) ?_
 rintro aW aX ⟨aD, rfl, V⟩
 refine ⟨_, rfl, ?_⟩
 have C := (B.c0 V).t3
 refine wl_nil (qe_held (listed' := #[true, true, true, true, true, true, true, true, false]) rfl ⟨⟨C.hasK (G.le.trans V.le), C.hasObj m1, C.hasObj m2⟩, (fun _ => trivial), by decide⟩ (wg_val (i := 8) (listed' := #[true, true, true, true, true, true, true, true, true]) (fun _ => True) rfl (by kernel_rfl) (pk_then pk_body) (by kernel_rfl) rfl (by kernel_rfl) (by kernel_rfl) rfl (.inl fun _ _ => trivial) ⟨⟨C.hasK (G.le.trans V.le), C.hasObj m1, C.hasObj m2⟩, (fun _ => trivial), by decide⟩ wn rfl (fun _ _ => (rv_assign rfl)) (wg_done (by kernel_rfl) (qe_seq (wc_ret ?_)))))
 obtain rfl := oi aC
 have aE := C.sb (sd (sd (sd sz)))
 exact er results12 ⟨rfl, trivial⟩ ⟨aD, rfl, aE⟩

set_option maxHeartbeats 2000000 in
theorem ok_impl_BoundAt (F : Nat) {w : World} {K : KMap} {f : Option Addr} {i k : Nat} {p0_blocks : List GBlock} {p1_id : Int} {r : Int} (hS : SH w K [] w K []) (c : SliceAt tGBlock K f i k p0_blocks) (aZ : rng64 p1_id) (hm : M.impl_BoundAt F p0_blocks p1_id = some r) :
  Calls Tryz.prog 15 #[.slice f i k, .int .i64 p1_id] w fun e w' => ∃ K', e = .returned (.int .i64 r) ∧ SH w K [] w' K' [] ∧ rng64 r := by
 rw [M.impl_BoundAt] at hm
 refine calls_in func15 rfl ntmps15 rfl (sr (lv (rv_assign (v := .int .i64 0) rfl) (nsr (lv (rv_assign (v := .int .i64 1) rfl) (nq ?_)))))
 obtain ⟨o6, h7, m⟩ := ob hm
 refine wc_cutg (fun E' w' => ∃ I d, o6 = .inl I ∧ E' = [(0, .slice f i k), (1, .int .i64 p1_id)] ∧ SH w K [] w' d [] ∧ KLe K d) ?_ ?_
 ·refine wc_block ?_
  obtain ⟨a0, ac, J⟩ := ob h7
  refine qw (fun (B : Int) E' w' => ∃ o, E' = [(0, .slice f i k), (1, .int .i64 p1_id), (5, .int .i64 B)] ∧ SH w K [] w' o [] ∧ KLe K o ∧ rng64 B) ac ⟨K, rfl, hS, (KLe.refl _), (by decide : rng64 1)⟩ ?_
  rintro B _ a2 a3 ad O ⟨o, rfl, R, l, a4⟩
  refine wc_seq (sr (mv rfl (mv rfl (lv (rv_len (t := tGBlock) underlying33 rfl (c.mono l)) (lv (rv_lss rfl rfl) (nq (wcc ad rfl (fun ae C => ?_) (fun ae C => ?_))))))))
  ·refine wc_skip (qs (wc_block (wc_seq (wc_quiet mixed (by kernel_rfl) R (km rfl (km rfl (kv (rv_sub rfl rfl) ?_)))))))
   obtain ⟨S, af, ag⟩ := ob C
   refine ki underlying33 tf45 (c.mono l) af fun ah ai a5 aj ak => ?_
   obtain ⟨rfl, a6, a7⟩ := aj
   have am : AtK _ ah ai [.int .i64 S.Last, .int .i64 S.Most] := ak
   refine kv (rv_fieldAddr ff45_0 rfl) (kh (rq_load1 tf3 rfl (am 0 _ rfl)) (km rfl (km rfl ?_)))
   obtain ⟨T, an, ao⟩ := ob ag
   refine ki underlying33 tf45 (c.mono l) an fun ap aq a8 ar au => ?_
   obtain ⟨rfl, a9, ba⟩ := ar
   have aw : AtK _ ap aq [.int .i64 T.Last, .int .i64 T.Most] := au
   refine kv (rv_fieldAddr ff45_0 rfl) (kh (rq_load1 tf3 rfl (aw 0 _ rfl)) (kv (rv_geq rfl rfl) (wq_nil ?_)))
   rintro bb ⟨U, V, ax⟩
   refine qe_seq (wcc ao rfl (fun ay D => ?_) (fun ay D => ?_))
   ·refine sr (lv (rv_assign (v := .int .i64 (-1)) rfl) (nq (wc_ret (qe_block_ret (qe_then_ret (qe_then_ret ?_))))))
    obtain rfl := oi D
    have az := O _ rfl
    subst az
    refine qe_block_ret (qe_then_ret ?_)
    obtain rfl := oi J
    refine qe_then_ret ?_
    obtain rfl := oi m
    exact er results15 ⟨rfl, trivial⟩ ⟨U, rfl, V, (by decide : rng64 (-1))⟩
   refine wc_skip (qe_block (qe_seq (wc_region (mv rfl (lv (rv_add rfl rfl) (av rfl (wl_nil ?_)))))))
   obtain rfl := oi D
   exact qd ⟨_, rfl, U, rfl, V, (l.trans ax), (w64_rng _)⟩
  refine wc_exit (qe_then_exit (qe_then_exit ?_))
  obtain rfl := oi C
  have aA := O _ rfl
  subst aA
  refine qe_block_eq ?_
  obtain rfl := oi J
  exact qd ⟨_, o, rfl, rfl, R, l⟩
 rintro _ bc ⟨I, d, rfl, rfl, aB, G⟩
 have m := elim_l m
 refine qs (sr (mv rfl (lv (rv_len (t := tGBlock) underlying33 rfl (c.mono G)) (lv (rv_move (v := .int .i64 0) rfl) (nq ?_)))))
 obtain ⟨aC, aD, q⟩ := ob m
 refine wc_cutg (fun E' w' => ∃ W s, aC = .inl W ∧ E' = [] ∧ SH w K [] w' s [] ∧ KLe d s) ?_ ?_
 ·refine wc_block ?_
  obtain ⟨bd, aE, X⟩ := ob aD
  refine qf (fun (Y : Nat) (Z : Unit) E' w' => ∃ b, E' = [(1, .int .i64 p1_id), (26, .slice f i k), (27, .int .i64 (p0_blocks.length : Int)), (28, .int .i64 ((Y : Nat) : Int))] ∧ SH w K [] w' b [] ∧ KLe d b) aE ⟨d, rfl, aB, (KLe.refl _)⟩ ?_ ?_
  ·rintro Y Z _ aF be hi78 aG aH ⟨b, rfl, x, y⟩
   refine sr (lv (rv_lss rfl rfl) (ns (wc_cond_t rfl (decide_eq_true (by omega)) (wc_skip (qe_seq (wc_seq (wc_block (sr ?_))))))))
   obtain ⟨a, aI, aJ⟩ := ob aG
   refine li underlying33 tf45 (c.mono (G.trans y)) aI fun aK aL bf aM aN => ?_
   obtain ⟨rfl, bg, aO⟩ := aM
   have aP : AtK _ aK aL [.int .i64 a.Last, .int .i64 a.Most] := aN
   refine lv (rv_loadS (cs := [.int .i64 a.Last, .int .i64 a.Most]) tf45 rfl x aP rfl) (al tf45 x fun aQ bh aR => ?_)
   have aS : SH _ _ _ _ _ [obj aQ [.int .i64 0, .int .i64 0] 45] := aR
   refine ls [.int .i64 a.Last, .int .i64 a.Most] (.agg #[.int .i64 a.Last, .int .i64 a.Most]) tf45 aS fun bi A => (nr (fa ff45_0 rfl (lv (rv_loadm1 tf3 rfl m0 A rfl) (mv rfl (lv (rv_geq rfl rfl) (nq (wcc aJ rfl (fun aT H => ?_) (fun aT H => ?_))))))))
   ·refine sr (fa ff45_1 rfl (lv (rv_loadm1 tf3 rfl m0 A rfl) (av rfl (nq (wc_ret (qe_block_ret (qe_then_ret (qe_then_ret ?_))))))))
    obtain rfl := oi H
    have aU := aH _ rfl
    subst aU
    refine qe_block_ret (qe_then_ret ?_)
    obtain rfl := oi X
    refine qe_then_ret ?_
    obtain rfl := oi q
    have aV := A.sb (sd sz)
    exact er results15 ⟨rfl, trivial⟩ ⟨b, rfl, aV, aO⟩
   refine wc_skip (qe_block (qg (lv (rv_add_to rfl rfl (w64_succ hi78 (SliceAt.max (c.mono G)))) (mv rfl (wl_nil ?_)))))
   obtain rfl := oi H
   have aW := A.sb (sd sz)
   exact qd ⟨_, rfl, b, rfl, aW, y⟩
  rintro Z _ aF aX ⟨b, rfl, x, y⟩
  subst aX
  refine sr (lv (rv_lss rfl rfl) (ns (wc_cond_f rfl (decide_eq_false (by omega)) (wc_exit (qe_then_exit (qe_then_exit (qe_block_eq ?_)))))))
  obtain rfl := oi X
  exact qe_mid' ⟨_, b, rfl, rfl, x, y⟩ trivial
 rintro _ bj ⟨W, s, rfl, rfl, aY, bk⟩
 have q := elim_l q
 refine qr (lv (rv_assign (v := .int .i64 0) rfl) (nq (wc_ret ?_)))
 obtain rfl := oi q
 exact er results15 ⟨rfl, trivial⟩ ⟨s, rfl, aY, (by decide : rng64 0)⟩

theorem ok_impl_TermOf (F : Nat) {w : World} {K : KMap} {a : Option Addr} {b c : Nat} {d : Option Addr} {f i : Nat} {p0_c : GConf} {p1_s : Str} {r : Str} (hS : SH w K [] w K []) (C : SliceAt tStr K a b c p0_c.Stops) (D : SliceAt tGSyn K d f i p0_c.Syns) (s : p1_s.length ≤ maxLen) (hm : M.impl_TermOf F p0_c p1_s = some r) :
  Calls Tryz.prog 30 #[.agg #[.slice a b c, .slice d f i], sv p1_s] w fun e w' => ∃ K', e = .returned (sv r) ∧ SH w K [] w' K' [] ∧ r.length ≤ maxLen := by
 rw [M.impl_TermOf] at hm
 refine calls_in func30 rfl ntmps30 rfl (sr (bx rfl hS fun G ah H => ?_))
 have x : SH _ _ _ _ _ [obj G [.slice a b c, .slice d f i] 26] := H
 refine lv (rv_assign (v := sv []) rfl) (nsr (mv rfl ?_))
 obtain ⟨ai, I, J⟩ := ob hm
 refine lc (vs := [sv p1_s]) co56 ((ok_impl_WordOk F) x.enter0 s I) ?_
 rintro aj ak ⟨O, rfl, l⟩
 refine ⟨_, rfl, ?_⟩
 have k := (x.c0 l).t1
 refine lv (rv_not rfl) (nq (wcc J rfl (fun R m => ?_) (fun R m => ?_)))
 ·refine sr (lv (rv_assign (v := sv []) rfl) (nq (rr ?_)))
  obtain rfl := oi m
  have S := k.sb (sd sz)
  exact er results30 ⟨rfl, trivial⟩ ⟨O, rfl, S, (by decide : ([] : Str).length ≤ maxLen)⟩
 refine wc_skip (qr (lv (rv_loadmS (ds := [.slice a b c, .slice d f i]) tf26 rfl m0 k rfl rfl) (mv rfl ?_)))
 obtain ⟨al, T, U⟩ := ob m
 refine lc (vs := [.agg #[.slice a b c, .slice d f i], sv p1_s]) co78 ((ok_impl_TermsOf F) k.enter0 (C.mono l.le) (D.mono l.le) s T) ?_
 rintro am an ⟨ao, ap, aq, y, rfl, V, A⟩
 refine ⟨_, rfl, ?_⟩
 have o := (k.c0 V).t2
 refine av rfl (nsr (mv rfl (lv (rv_len (t := tGTerm) underlying127 rfl A) (lv (rv_eql rfl rfl) (nq (wcc U rfl (fun W q => ?_) (fun W q => ?_)))))))
 ·refine sr (lv (rv_assign (v := sv []) rfl) (nq (rr ?_)))
  obtain rfl := oi q
  have X := o.sb (sd (sd sz))
  exact er results30 ⟨rfl, trivial⟩ ⟨y, rfl, X, (by decide : ([] : Str).length ≤ maxLen)⟩
 refine wc_skip (qr (mv rfl ?_))
 obtain ⟨B, Y, Z⟩ := ob q
 refine li underlying127 tf130 A Y fun aa ab ar ac ad => ?_
 obtain ⟨rfl, ae, au⟩ := ac
 have af : AtK _ aa ab [sv B.Text, .int .i64 B.At] := ad
 refine fa ff130_0 rfl (lv (rv_load1 tf9 rfl o (af 0 _ rfl)) (av rfl (nq (wc_ret ?_))))
 obtain rfl := oi Z
 have ag := o.sb (sd (sd sz))
 exact er results30 ⟨rfl, trivial⟩ ⟨y, rfl, ag, ae⟩

theorem ok_impl_divisor (F : Nat) {w : World} {K : KMap} {p0_a : Int} {p1_b : Int} {r : Int} (hS : SH w K [] w K []) (o : rng64 p0_a) (q : rng64 p1_b) (hm : M.impl_divisor F p0_a p1_b = some r) :
  Calls Tryz.prog 149 #[.int .i64 p0_a, .int .i64 p1_b] w fun e w' => ∃ K', e = .returned (.int .i64 r) ∧ SH w K [] w' K' [] ∧ rng64 r := by
 rw [M.impl_divisor] at hm
 refine calls_in func149 rfl ntmps149 rfl (sr (lv (rv_assign (v := .int .i64 0) rfl) (ns ?_)))
 obtain ⟨f, s, x⟩ := ob hm
 refine wc_cutg (fun E' w' => ∃ b, E' = [(0, .int .i64 f)] ∧ SH w K [] w' b [] ∧ KLe K b ∧ rng64 f) ?_ ?_
 ·refine wc_block ?_
  obtain ⟨U, y, A⟩ := ob s
  refine qw (fun (a : Int × Int) E' w' => ∃ c, E' = [(0, .int .i64 a.1), (1, .int .i64 a.2)] ∧ SH w K [] w' c [] ∧ KLe K c ∧ rng64 a.1 ∧ rng64 a.2) y ⟨K, rfl, hS, (KLe.refl _), o, q⟩ ?_
  rintro a _ V W B C ⟨c, rfl, i, k, l, D⟩
  refine wc_seq (sr (mv rfl (lv (rv_neq rfl rfl) (nq (wcc B rfl (fun G d => ?_) (fun G d => ?_))))))
  ·refine wc_skip (qe_seq (wc_block (wc_quiet mixed (by kernel_rfl) i (km rfl (km rfl (km rfl ?_))))))
   obtain ⟨X, m, H⟩ := ob d
   refine kv (rv_rem rfl rfl m) (kv (rv_assign rfl) (kv (rv_assign rfl) (wq_nil ?_)))
   rintro Y ⟨I, J, O⟩
   refine qe_block ?_
   obtain rfl := oi H
   exact qd ⟨_, rfl, I, rfl, J, (k.trans O), D, (rng_rem l m)⟩
  refine wc_exit (qe_then_exit (qe_then_exit ?_))
  obtain rfl := oi d
  have R := C _ rfl
  subst R
  refine qe_block_eq ?_
  obtain rfl := oi A
  exact qd ⟨c, rfl, i, k, l⟩
 rintro _ Z ⟨b, rfl, S, aa, T⟩
 refine qr (mv rfl (mv rfl (lv (rv_neg rfl) (lv (rv_max2 rfl rfl) (av rfl (nq (wc_ret ?_)))))))
 obtain rfl := oi x
 exact er results149 ⟨rfl, trivial⟩ ⟨b, rfl, S, (rng_max T (w64_rng _))⟩

theorem ok_impl_RatOk (F : Nat) {w : World} {K : KMap} {p0_r : GRat} {r : Bool} (hS : SH w K [] w K []) (l : rng64 p0_r.Up) (m : rng64 p0_r.Down) (hm : M.impl_RatOk F p0_r = some r) :
  Calls Tryz.prog 98 #[.agg #[.int .i64 p0_r.Up, .int .i64 p0_r.Down]] w fun e w' => ∃ K', e = .returned (.bool r) ∧ SH w K [] w' K' [] := by
 rw [M.impl_RatOk] at hm
 refine calls_in func98 rfl ntmps98 rfl (sr (bx rfl hS fun s X x => ?_))
 have f : SH _ _ _ _ _ [obj s [.int .i64 p0_r.Up, .int .i64 p0_r.Down] 92] := x
 refine lv (rv_assign (v := .bool false) rfl) (nr (fa ff92_0 rfl (lv (rv_loadm1 tf3 rfl m0 f rfl) ?_)))
 obtain ⟨y, A, o⟩ := ob hm
 refine lc (vs := [.int .i64 p0_r.Up, .int .i64 (-1000000000), .int .i64 1000000000]) co55 ((ok_impl_within F) f.enter0 l (by decide : rng64 (-1000000000)) (by decide : rng64 1000000000) A) ?_
 rintro Y Z ⟨B, rfl, C⟩
 refine ⟨_, rfl, ?_⟩
 have d := (f.c0 C).t1
 refine mv rfl ?_
 rcases bool_tf (y) with b | b
 ·have i := cond_t b o
  refine lg b (rv_fieldAddr ff92_1 rfl) (lg b (rv_loadm1 tf3 rfl m0 d rfl) ?_)
  obtain ⟨D, G, q⟩ := ob i
  refine wl_call (wg rfl rfl b) rfl (rt_call (vs := [.int .i64 p0_r.Down, .int .i64 1, .int .i64 1000000000]) co55 rfl) ((ok_impl_within F) d.enter0 m (by decide : rng64 1) (by decide : rng64 1000000000) G) ?_
  rintro aa ab ⟨H, rfl, I⟩
  refine ⟨_, rfl, ?_⟩
  have c := (d.c0 I).t1
  refine lv (rv_pick_t rfl b rfl) (mv rfl ?_)
  rcases bool_tf (D) with a | a
  ·have k := cond_t a q
   refine lg a (rv_fieldAddr ff92_0 rfl) (lg a (rv_loadm1 tf3 rfl m0 c rfl) (lg a (rv_fieldAddr ff92_1 rfl) (lg a (rv_loadm1 tf3 rfl m0 c rfl) ?_)))
   obtain ⟨ac, J, O⟩ := ob k
   refine wl_call (wg rfl rfl a) rfl (rt_call (vs := [.int .i64 p0_r.Up, .int .i64 p0_r.Down]) co149 rfl) ((ok_impl_divisor F) c.enter0 l m J) ?_
   rintro ad ae ⟨R, rfl, S, af⟩
   refine ⟨_, rfl, ?_⟩
   have T := (c.c0 S).t1
   refine lg a (rv_eql rfl rfl) (lv (rv_pick_t rfl a rfl) (av rfl (nq (wc_ret ?_))))
   obtain rfl := oi O
   have U := T.sb (sd sz)
   exact er results98 ⟨rfl, trivial⟩ ⟨R, rfl, U⟩
  have k := cond_f a q
  refine lu a (lu a (lu a (lu a (lu a (lu a (lv (rv_pick_f (v := .bool false) rfl a rfl) (av rfl (nq (wc_ret ?_)))))))))
  obtain rfl := oi k
  have V := c.sb (sd sz)
  exact er results98 ⟨rfl, trivial⟩ ⟨H, rfl, V⟩
 have i := cond_f b o
 refine lu b (lu b (lu b (lv (rv_pick_f (v := .bool false) rfl b rfl) (mv rfl (lu rfl (lu rfl (lu rfl (lu rfl (lu rfl ?_)))))))))
 refine lu rfl (lv (rv_pick_f (v := .bool false) rfl rfl rfl) (av rfl (nq (wc_ret ?_))))
 obtain rfl := oi i
 have W := d.sb (sd sz)
 exact er results98 ⟨rfl, trivial⟩ ⟨B, rfl, W⟩

theorem ok_impl_lowest (F : Nat) {w : World} {K : KMap} {p0_up : Int} {p1_down : Int} {r : GRat × Bool} (hS : SH w K [] w K []) (D : rng64 p0_up) (G : rng64 p1_down) (hm : M.impl_lowest F p0_up p1_down = some r) :
  Calls Tryz.prog 148 #[.int .i64 p0_up, .int .i64 p1_down] w fun e w' => ∃ K', e = .returned (.tuple #[.agg #[.int .i64 r.1.Up, .int .i64 r.1.Down], .bool r.2]) ∧ SH w K [] w' K' [] ∧ rng64 r.1.Up ∧ rng64 r.1.Down := by
 rw [M.impl_lowest] at hm
 refine calls_in func148 rfl ntmps148 rfl (sr (al tf92 hS fun i w4 H => ?_))
 have s : SH _ _ _ _ _ [obj i [.int .i64 0, .int .i64 0] 92] := H
 refine lv (rv_assign (v := .bool false) rfl) (nsr (mv rfl (lv (rv_lss rfl rfl) (nq ?_))))
 obtain ⟨d, I, J⟩ := ob hm
 refine wc_cutg (fun E' w' => ∃ k, E' = [(0, .int .i64 d.1), (1, .int .i64 d.2), (4, pt i)] ∧ SH w K [] w' k [obj i [.int .i64 0, .int .i64 0] 92] ∧ KLe K k ∧ rng64 d.1 ∧ rng64 d.2) ?_ ?_
 ·refine wcc I rfl (fun O l => ?_) (fun O l => ?_)
  ·refine wc_region (mv rfl (lv (rv_neg rfl) (mv rfl (lv (rv_neg rfl) (av rfl (av rfl (wl_nil ?_)))))))
   obtain rfl := oi l
   exact qd ⟨K, rfl, s, (KLe.refl _), (w64_rng _), (w64_rng _)⟩
  refine wc_skip ?_
  obtain rfl := oi l
  exact qd ⟨K, rfl, s, (KLe.refl _), D, G⟩
 rintro _ aj ⟨k, rfl, x, ak, R, S⟩
 refine qr (mv rfl (mv rfl ?_))
 obtain ⟨am, T, U⟩ := ob J
 refine lc (vs := [.int .i64 d.1, .int .i64 d.2]) co149 ((ok_impl_divisor F) x.enter0 R S T) ?_
 rintro an ao ⟨V, rfl, W, ap⟩
 refine ⟨_, rfl, ?_⟩
 have X := (x.c0 W).t1
 refine av rfl (ns ?_)
 have y := X.drew
 refine wh1 (fun w' => Holds V w') (fun w' => True) 9 [] mixed (y.hasK (KLe.refl _)) (fun _ => trivial) (gt (rv_move rfl) (gt (rv_move rfl) ?_))
 obtain ⟨a, m, Y⟩ := ob U
 refine gt (rv_quo rfl rfl m) (gt (rv_move rfl) (gt (rv_move rfl) ?_))
 obtain ⟨b, o, Z⟩ := ob Y
 refine gt (rv_quo rfl rfl o) (gt (rv_build (cs := #[.int .i64 a, .int .i64 b]) sp92 tf92 rfl (by kernel_rfl)) (gn (al tf92 y fun aa aq ab => ?_)))
 have A : SH _ _ _ _ _ [obj aa [.int .i64 0, .int .i64 0] 92, _] := ab
 refine wl_nil (qh (A.hasK (KLe.refl _)) (fun _ => trivial) (gn (ls [.int .i64 a, .int .i64 b] (.agg #[.int .i64 a, .int .i64 b]) tf92 A fun ar f => (wl_nil (qh (f.hasK (KLe.refl _)) (fun _ => trivial) (gd' (qs (sr (lv (rv_loadmS (ds := [.int .i64 a, .int .i64 b]) tf92 rfl m0 f rfl rfl) ?_)))))))))
 obtain ⟨au, ac, ad⟩ := ob Z
 refine lc (vs := [.agg #[.int .i64 a, .int .i64 b]]) co98 ((ok_impl_RatOk F (p0_r := (GRat.mk a b))) f.enter0 (rng_quo m) (rng_quo o) ac) ?_
 rintro aw ax ⟨ae, rfl, af⟩
 refine ⟨_, rfl, ?_⟩
 have B := (f.c0 af).t2
 refine lv (rv_not rfl) (nq (wcc ad rfl (fun ag q => ?_) (fun ag q => ?_)))
 ·refine sr ?_
  cases q
 refine wc_skip (qr (lv (rv_loadmS (ds := [.int .i64 a, .int .i64 b]) tf92 rfl m0 B rfl rfl) (ls [.int .i64 a, .int .i64 b] (.agg #[.int .i64 a, .int .i64 b]) tf92 B.f1 fun ay C => (lv (rv_assign (v := .bool true) rfl) (nq (wc_ret ?_))))))
 obtain rfl := oi q
 have ah := C.sb (sd (sd sz))
 exact qe_ret (vs := [_, _]) results148 ⟨⟨_, _, rfl, run_loadVar_at tf92 (cs := [.int .i64 a, .int .i64 b]) (fun j c e => by rw [Nat.zero_add, C.mem_obj m0]; exact e) (.inl ⟨rfl, rfl, rfl⟩)⟩, rfl, trivial⟩ ⟨ae, rfl, ah, (rng_quo m), (rng_quo o)⟩

theorem ok_impl_RatOf (F : Nat) {w : World} {K : KMap} {p0_a : Int} {p1_b : Int} {r : GRat × Bool} (hS : SH w K [] w K []) (x : rng64 p0_a) (y : rng64 p1_b) (hm : M.impl_RatOf F p0_a p1_b = some r) :
  Calls Tryz.prog 97 #[.int .i64 p0_a, .int .i64 p1_b] w fun e w' => ∃ K', e = .returned (.tuple #[.agg #[.int .i64 r.1.Up, .int .i64 r.1.Down], .bool r.2]) ∧ SH w K [] w' K' [] ∧ rng64 r.1.Up ∧ rng64 r.1.Down := by
 rw [M.impl_RatOf] at hm
 refine calls_in func97 rfl ntmps97 rfl (sr (al tf92 hS fun i w4 J => ?_))
 have A : SH _ _ _ _ _ [obj i [.int .i64 0, .int .i64 0] 92] := J
 refine lv (rv_assign (v := .bool false) rfl) (ns (wc_seq ?_))
 obtain ⟨O, R, S⟩ := ob hm
 refine wc_cutg (fun E' w' => ∃ k, E' = [(0, .int .i64 p0_a), (1, .int .i64 p1_b), (4, pt i), (17, .bool O)] ∧ SH w K [] w' k [obj i [.int .i64 0, .int .i64 0] 92] ∧ KLe K k) ?_ ?_
 ·refine wc_region (mv rfl ?_)
  obtain ⟨T, U, B⟩ := ob R
  refine lc (vs := [.int .i64 p0_a, .int .i64 (-1000000000), .int .i64 1000000000]) co55 ((ok_impl_within F) A.enter0 x (by decide : rng64 (-1000000000)) (by decide : rng64 1000000000) U) ?_
  rintro ai aj ⟨V, rfl, f⟩
  refine ⟨_, rfl, ?_⟩
  have l := (A.c0 f).t1
  refine lv (rv_not rfl) (mv rfl ?_)
  rcases bool_tf ((!T)) with a | a
  ·have m := cond_t a B
   refine lu a (lu a (lu a (lv (rv_pick_t (v := .bool true) rfl a rfl) (mv rfl (lu rfl (lu rfl (lv (rv_pick_t (v := .bool true) rfl rfl rfl) (wl_nil ?_))))))))
   obtain rfl := oi m
   exact qd ⟨V, rfl, l, f.le⟩
  have m := cond_f a B
  refine lg a (rv_move rfl) ?_
  obtain ⟨W, X, C⟩ := ob m
  refine wl_call (wg rfl rfl a) rfl (rt_call (vs := [.int .i64 p1_b, .int .i64 (-1000000000), .int .i64 1000000000]) co55 rfl) ((ok_impl_within F) l.enter0 y (by decide : rng64 (-1000000000)) (by decide : rng64 1000000000) X) ?_
  rintro ak am ⟨D, rfl, o⟩
  refine ⟨_, rfl, ?_⟩
  have G := (l.c0 o).t1
  refine lg a (rv_not rfl) (lv (rv_pick_f rfl a rfl) (mv rfl ?_))
  rcases bool_tf ((!W)) with b | b
  ·have q := cond_t b C
   refine lu b (lu b (lv (rv_pick_t (v := .bool true) rfl b rfl) (wl_nil ?_)))
   obtain rfl := oi q
   exact qd ⟨D, rfl, G, (f.le.trans o.le)⟩
  have q := cond_f b C
  refine lg b (rv_move rfl) (lg b (rv_eql rfl rfl) (lv (rv_pick_f rfl b rfl) (wl_nil ?_)))
  obtain rfl := oi q
  exact qd ⟨D, rfl, G, (f.le.trans o.le)⟩
 rintro _ an ⟨k, rfl, H, ao⟩
 refine qe_seq (wcc S rfl (fun Y s => ?_) (fun Y s => ?_))
 ·refine sr ?_
  cases s
 refine wc_skip (qr (mv rfl (mv rfl ?_)))
 obtain ⟨d, Z, aa⟩ := ob s
 refine lc (vs := [.int .i64 p0_a, .int .i64 p1_b]) co148 ((ok_impl_lowest F) H.enter0 x y Z) ?_
 rintro ap aq ⟨ab, rfl, ac, ad, ae⟩
 refine ⟨_, rfl, ?_⟩
 have af := (H.c0 ac).t1
 refine lv (rv_extract rfl rfl) (lv (rv_extract rfl rfl) (ls [.int .i64 d.1.Up, .int .i64 d.1.Down] (.agg #[.int .i64 d.1.Up, .int .i64 d.1.Down]) tf92 af fun ar I => (av rfl (nq (wc_ret ?_)))))
 obtain rfl := oi aa
 have ag := I.sb (sd sz)
 exact qe_ret (vs := [_, _]) results97 ⟨⟨_, _, rfl, run_loadVar_at tf92 (cs := [.int .i64 d.1.Up, .int .i64 d.1.Down]) (fun j c e => by rw [Nat.zero_add, I.mem_obj m0]; exact e) (.inl ⟨rfl, rfl, rfl⟩)⟩, rfl, trivial⟩ ⟨ab, rfl, ag, ad, ae⟩

set_option maxHeartbeats 2000000 in
theorem ok_impl_TermScore (F : Nat) {w : World} {K : KMap} {p0_tf : Int} {p1_long : Int} {p2_total : Int} {p3_docs : Int} {p4_df : Int} {r : GRat × Bool} (hS : SH w K [] w K []) (U : rng64 p0_tf) (V : rng64 p1_long) (ah : rng64 p2_total) (W : rng64 p3_docs) (ai : rng64 p4_df) (hm : M.impl_TermScore F p0_tf p1_long p2_total p3_docs p4_df = some r) :
  Calls Tryz.prog 46 #[.int .i64 p0_tf, .int .i64 p1_long, .int .i64 p2_total, .int .i64 p3_docs, .int .i64 p4_df] w fun e w' => ∃ K', e = .returned (.tuple #[.agg #[.int .i64 r.1.Up, .int .i64 r.1.Down], .bool r.2]) ∧ SH w K [] w' K' [] ∧ rng64 r.1.Up ∧ rng64 r.1.Down := by
 rw [M.impl_TermScore] at hm
 refine calls_in func46 rfl ntmps46 rfl (sr (al tf92 hS fun i w7 aj => ?_))
 have X : SH _ _ _ _ _ [obj i [.int .i64 0, .int .i64 0] 92] := aj
 refine lv (rv_assign (v := .bool false) rfl) (ns (wc_seq ?_))
 obtain ⟨ak, am, an⟩ := ob hm
 refine wc_cutg (fun E' w' => ∃ k, E' = [(0, .int .i64 p0_tf), (1, .int .i64 p1_long), (2, .int .i64 p2_total), (3, .int .i64 p3_docs), (4, .int .i64 p4_df), (10, pt i), (38, .bool ak)] ∧ SH w K [] w' k [obj i [.int .i64 0, .int .i64 0] 92] ∧ KLe K k) ?_ ?_
 ·refine wc_region (mv rfl ?_)
  obtain ⟨ao, ap, Y⟩ := ob am
  refine lc (vs := [.int .i64 p0_tf, .int .i64 1, .int .i64 80]) co55 ((ok_impl_within F) X.enter0 U (by decide : rng64 1) (by decide : rng64 80) ap) ?_
  rintro a6 a7 ⟨aq, rfl, l⟩
  refine ⟨_, rfl, ?_⟩
  have x := (X.c0 l).t1
  refine lv (rv_not rfl) (mv rfl ?_)
  rcases bool_tf ((!ao)) with a | a
  ·have y := cond_t a Y
   refine lu a (lu a (lu a (lu a (lv (rv_pick_t (v := .bool true) rfl a rfl) (mv rfl (lu rfl (lu rfl (lu rfl (lv (rv_pick_t (v := .bool true) rfl rfl rfl) ?_)))))))))
   refine mv rfl (lu rfl (lu rfl (lu rfl (lu rfl (lv (rv_pick_t (v := .bool true) rfl rfl rfl) (mv rfl (lu rfl (lu rfl (lu rfl ?_)))))))))
   refine lu rfl (lv (rv_pick_t (v := .bool true) rfl rfl rfl) (wl_nil ?_))
   obtain rfl := oi y
   exact qd ⟨aq, rfl, x, l.le⟩
  have y := cond_f a Y
  refine lg a (rv_move rfl) (lg a (rv_move rfl) ?_)
  obtain ⟨ar, au, Z⟩ := ob y
  refine wl_call (wg rfl rfl a) rfl (rt_call (vs := [.int .i64 p1_long, .int .i64 p0_tf, .int .i64 80]) co55 rfl) ((ok_impl_within F) x.enter0 V U (by decide : rng64 80) au) ?_
  rintro a8 a9 ⟨aw, rfl, o⟩
  refine ⟨_, rfl, ?_⟩
  have A := (x.c0 o).t1
  refine lg a (rv_not rfl) (lv (rv_pick_f rfl a rfl) (mv rfl ?_))
  rcases bool_tf ((!ar)) with f | f
  ·have B := cond_t f Z
   refine lu f (lu f (lu f (lv (rv_pick_t (v := .bool true) rfl f rfl) (mv rfl (lu rfl (lu rfl (lu rfl (lu rfl (lv (rv_pick_t (v := .bool true) rfl rfl rfl) ?_)))))))))
   refine mv rfl (lu rfl (lu rfl (lu rfl (lu rfl (lv (rv_pick_t (v := .bool true) rfl rfl rfl) (wl_nil ?_))))))
   obtain rfl := oi B
   exact qd ⟨aw, rfl, A, (l.le.trans o.le)⟩
  have B := cond_f f Z
  refine lg f (rv_move rfl) ?_
  obtain ⟨ax, ay, aa⟩ := ob B
  refine wl_call (wg rfl rfl f) rfl (rt_call (vs := [.int .i64 p3_docs, .int .i64 1, .int .i64 16]) co55 rfl) ((ok_impl_within F) A.enter0 W (by decide : rng64 1) (by decide : rng64 16) ay) ?_
  rintro ba bb ⟨az, rfl, s⟩
  refine ⟨_, rfl, ?_⟩
  have C := (A.c0 s).t1
  refine lg f (rv_not rfl) (lv (rv_pick_f rfl f rfl) (mv rfl ?_))
  rcases bool_tf ((!ax)) with b | b
  ·have D := cond_t b aa
   refine lu b (lu b (lu b (lu b (lv (rv_pick_t (v := .bool true) rfl b rfl) (mv rfl (lu rfl (lu rfl (lu rfl (lu rfl ?_)))))))))
   refine lv (rv_pick_t (v := .bool true) rfl rfl rfl) (wl_nil ?_)
   obtain rfl := oi D
   exact qd ⟨az, rfl, C, ((l.le.trans o.le).trans s.le)⟩
  have D := cond_f b aa
  refine lg b (rv_move rfl) (lg b (rv_move rfl) ?_)
  obtain ⟨aA, aB, ab⟩ := ob D
  refine wl_call (wg rfl rfl b) rfl (rt_call (vs := [.int .i64 p4_df, .int .i64 1, .int .i64 p3_docs]) co55 rfl) ((ok_impl_within F) C.enter0 ai (by decide : rng64 1) W aB) ?_
  rintro bc bd ⟨aC, rfl, G⟩
  refine ⟨_, rfl, ?_⟩
  have H := (C.c0 G).t1
  refine lg b (rv_not rfl) (lv (rv_pick_f rfl b rfl) (mv rfl ?_))
  rcases bool_tf ((!aA)) with d | d
  ·have I := cond_t d ab
   refine lu d (lu d (lu d (lu d (lv (rv_pick_t (v := .bool true) rfl d rfl) (wl_nil ?_)))))
   obtain rfl := oi I
   exact qd ⟨aC, rfl, H, (((l.le.trans o.le).trans s.le).trans G.le)⟩
  have I := cond_f d ab
  refine lg d (rv_move rfl) (lg d (rv_move rfl) ?_)
  obtain ⟨be, aD, aE⟩ := ob I
  refine wl_call (wg rfl rfl d) rfl (rt_call (vs := [.int .i64 p2_total, .int .i64 p1_long, .int .i64 1280]) co55 rfl) ((ok_impl_within F) H.enter0 ah V (by decide : rng64 1280) aD) ?_
  rintro bf bg ⟨aF, rfl, ac⟩
  refine ⟨_, rfl, ?_⟩
  have aG := (H.c0 ac).t1
  refine lg d (rv_not rfl) (lv (rv_pick_f rfl d rfl) (wl_nil ?_))
  obtain rfl := oi aE
  exact qd ⟨aF, rfl, aG, ((((l.le.trans o.le).trans s.le).trans G.le).trans ac.le)⟩
 rintro _ bh ⟨k, rfl, aH, bi⟩
 refine qe_seq (wcc an rfl (fun aI J => ?_) (fun aI J => ?_))
 ·refine sr ?_
  cases J
 refine wc_skip (qr (lv (rv_assign (v := .int .i64 0) rfl) (ns ?_)))
 obtain ⟨O, aJ, aK⟩ := ob J
 refine wc_cutg (fun E' w' => ∃ R, E' = [(0, .int .i64 p0_tf), (1, .int .i64 p1_long), (2, .int .i64 p2_total), (3, .int .i64 p3_docs), (10, pt i), (12, .int .i64 O)] ∧ SH w K [] w' R [obj i [.int .i64 0, .int .i64 0] 92] ∧ KLe k R ∧ rng64 O) ?_ ?_
 ·refine wc_block ?_
  obtain ⟨bj, aL, aM⟩ := ob aJ
  refine qw (fun (S : Int) E' w' => ∃ q, E' = [(0, .int .i64 p0_tf), (1, .int .i64 p1_long), (2, .int .i64 p2_total), (3, .int .i64 p3_docs), (4, .int .i64 p4_df), (10, pt i), (12, .int .i64 S)] ∧ SH w K [] w' q [obj i [.int .i64 0, .int .i64 0] 92] ∧ KLe k q ∧ rng64 S) aL ⟨k, rfl, aH, (KLe.refl _), (by decide : rng64 0)⟩ ?_
  rintro S _ bk bl aN aO ⟨q, rfl, ad, ae, aP⟩
  refine wc_seq (sr (mv rfl (mv rfl (lv (rv_add rfl rfl) ?_))))
  obtain ⟨bm, aQ, aR⟩ := ob aN
  refine lv (rv_shl rfl rfl aQ) (mv rfl (lv (rv_leq rfl rfl) (nq (wcc aR rfl (fun aS T => ?_) (fun aS T => ?_)))))
  ·refine wc_skip (qe_seq (wc_block (wc_region (mv rfl (lv (rv_add rfl rfl) (av rfl (nb ?_)))))))
   obtain rfl := oi T
   exact qd ⟨_, rfl, q, rfl, ad, ae, (w64_rng _)⟩
  refine wc_exit (qe_then_exit (qe_then_exit ?_))
  obtain rfl := oi T
  have aT := aO _ rfl
  subst aT
  refine qe_block_eq ?_
  obtain rfl := oi aM
  exact qd ⟨q, rfl, ad, ae, aP⟩
 rintro _ bn ⟨R, rfl, af, bo, bp⟩
 refine qr (mv rfl (lv (rv_mul rfl rfl) (mv rfl (lv (rv_add rfl rfl) (lv (rv_mul rfl rfl) (mv rfl (lv (rv_mul rfl rfl) (lv (rv_add rfl rfl) (mv rfl ?_)))))))))
 refine lv (rv_mul rfl rfl) (mv rfl (lv (rv_mul rfl rfl) (mv rfl ?_)))
 obtain ⟨aU, aV, aW⟩ := ob aK
 refine lv (rv_quo rfl rfl aV) (lv (rv_add rfl rfl) ?_)
 obtain ⟨m, aX, aY⟩ := ob aW
 refine lc (vs := [.int .i64 (w64 ((w64 ((22 : Int) * p0_tf)) * (w64 (O + (1 : Int))))), .int .i64 (w64 ((w64 ((w64 ((10 : Int) * p0_tf)) + (3 : Int))) + aU))]) co97 ((ok_impl_RatOf F) af.enter0 (w64_rng _) (w64_rng _) aX) ?_
 rintro bq br ⟨aZ, rfl, a0, a1, a2⟩
 refine ⟨_, rfl, ?_⟩
 have a3 := (af.c0 a0).t1
 refine lv (rv_extract rfl rfl) (lv (rv_extract rfl rfl) (ls [.int .i64 m.1.Up, .int .i64 m.1.Down] (.agg #[.int .i64 m.1.Up, .int .i64 m.1.Down]) tf92 a3 fun bs ag => (av rfl (nq (wc_ret ?_)))))
 obtain rfl := oi aY
 have a4 := ag.sb (sd sz)
 exact qe_ret (vs := [_, _]) results46 ⟨⟨_, _, rfl, run_loadVar_at tf92 (cs := [.int .i64 m.1.Up, .int .i64 m.1.Down]) (fun j c e => by rw [Nat.zero_add, ag.mem_obj m0]; exact e) (.inl ⟨rfl, rfl, rfl⟩)⟩, rfl, trivial⟩ ⟨aZ, rfl, a4, a1, a2⟩

theorem ok_impl_RatFloor (F : Nat) {w : World} {K : KMap} {p0_r : GRat} {p1_times : Int} {r : Int} (hS : SH w K [] w K []) (y : rng64 p0_r.Up) (A : rng64 p0_r.Down) (B : rng64 p1_times) (hm : M.impl_RatFloor F p0_r p1_times = some r) :
  Calls Tryz.prog 47 #[.agg #[.int .i64 p0_r.Up, .int .i64 p0_r.Down], .int .i64 p1_times] w fun e w' => ∃ K', e = .returned (.int .i64 r) ∧ SH w K [] w' K' [] ∧ rng64 r := by
 rw [M.impl_RatFloor] at hm
 refine calls_in func47 rfl ntmps47 rfl (sr (bx rfl hS fun d w5 C => ?_))
 have f : SH _ _ _ _ _ [obj d [.int .i64 p0_r.Up, .int .i64 p0_r.Down] 92] := C
 refine lv (rv_assign (v := .int .i64 0) rfl) (ns (wc_seq ?_))
 obtain ⟨D, G, H⟩ := ob hm
 refine wc_cutg (fun E' w' => ∃ c, E' = [(1, .int .i64 p1_times), (2, pt d), (13, .bool D)] ∧ SH w K [] w' c [obj d [.int .i64 p0_r.Up, .int .i64 p0_r.Down] 92] ∧ KLe K c) ?_ ?_
 ·refine wc_region (lv (rv_loadmS (ds := [.int .i64 p0_r.Up, .int .i64 p0_r.Down]) tf92 rfl m0 f rfl rfl) ?_)
  obtain ⟨I, J, q⟩ := ob G
  refine lc (vs := [.agg #[.int .i64 p0_r.Up, .int .i64 p0_r.Down]]) co98 ((ok_impl_RatOk F) f.enter0 y A J) ?_
  rintro ae af ⟨O, rfl, i⟩
  refine ⟨_, rfl, ?_⟩
  have k := (f.c0 i).t1
  refine lv (rv_not rfl) (mv rfl ?_)
  rcases bool_tf ((!I)) with a | a
  ·have l := cond_t a q
   refine lu a (lu a (lu a (lv (rv_pick_t (v := .bool true) rfl a rfl) (wl_nil ?_))))
   obtain rfl := oi l
   exact qd ⟨O, rfl, k, i.le⟩
  have l := cond_f a q
  refine lg a (rv_move rfl) ?_
  obtain ⟨ag, R, S⟩ := ob l
  refine wl_call (wg rfl rfl a) rfl (rt_call (vs := [.int .i64 p1_times, .int .i64 1, .int .i64 1000]) co55 rfl) ((ok_impl_within F) k.enter0 B (by decide : rng64 1) (by decide : rng64 1000) R) ?_
  rintro ah ai ⟨T, rfl, s⟩
  refine ⟨_, rfl, ?_⟩
  have U := (k.c0 s).t1
  refine lg a (rv_not rfl) (lv (rv_pick_f rfl a rfl) (wl_nil ?_))
  obtain rfl := oi S
  exact qd ⟨T, rfl, U, (i.le.trans s.le)⟩
 rintro _ aj ⟨c, rfl, b, ak⟩
 refine qe_seq (wcc H rfl (fun V m => ?_) (fun V m => ?_))
 ·refine sr (lv (rv_assign (v := .int .i64 0) rfl) (nq (rr ?_)))
  obtain rfl := oi m
  have W := b.sb (sd sz)
  exact er results47 ⟨rfl, trivial⟩ ⟨c, rfl, W, (by decide : rng64 0)⟩
 refine wc_skip (qr (fa ff92_0 rfl (lv (rv_loadm1 tf3 rfl m0 b rfl) (mv rfl (lv (rv_mul rfl rfl) (av rfl (nsr (mv rfl (lv (rv_geq rfl rfl) ?_)))))))))
 refine nq (wcc m rfl (fun X o => ?_) (fun X o => ?_))
 ·refine sr (mv rfl (fa ff92_1 rfl (lv (rv_loadm1 tf3 rfl m0 b rfl) ?_)))
  obtain ⟨al, x, Y⟩ := ob o
  refine lv (rv_quo rfl rfl x) (av rfl (nq (rr ?_)))
  obtain rfl := oi Y
  have Z := b.sb (sd sz)
  exact er results47 ⟨rfl, trivial⟩ ⟨c, rfl, Z, (rng_quo x)⟩
 refine wc_skip (qr (mv rfl (lv (rv_neg rfl) (fa ff92_1 rfl (lv (rv_loadm1 tf3 rfl m0 b rfl) (lv (rv_add rfl rfl) (lv (rv_sub rfl rfl) (fa ff92_1 rfl (lv (rv_loadm1 tf3 rfl m0 b rfl) ?_)))))))))
 obtain ⟨am, aa, ab⟩ := ob o
 refine lv (rv_quo rfl rfl aa) (lv (rv_neg rfl) (av rfl (nq (wc_ret ?_))))
 obtain rfl := oi ab
 have ac := b.sb (sd sz)
 exact er results47 ⟨rfl, trivial⟩ ⟨c, rfl, ac, (w64_rng _)⟩

theorem ok_impl_DocField (F : Nat) {w : World} {K : KMap} {c : Option Addr} {d f : Nat} {i : Option Addr} {k l : Nat} {p0_d : GDoc} {p1_name : Str} {r : Str} (hS : SH w K [] w K []) (S : rng64 p0_d.Id) (m : SliceAt tGField K c d f p0_d.Fields) (T : SliceAt tGAttr K i k l p0_d.Nums) (aC : p1_name.length ≤ maxLen) (hm : M.impl_DocField F p0_d p1_name = some r) :
  Calls Tryz.prog 147 #[.agg #[.int .i64 p0_d.Id, .slice c d f, .slice i k l], sv p1_name] w fun e w' => ∃ K', e = .returned (sv r) ∧ SH w K [] w' K' [] ∧ r.length ≤ maxLen := by
 rw [M.impl_DocField] at hm
 refine calls_in func147 rfl ntmps147 rfl (sr (bx rfl hS fun U aD V => ?_))
 have C : SH _ _ _ _ _ [obj U [.int .i64 p0_d.Id, .slice c d f, .slice i k l] 71] := V
 refine lv (rv_assign (v := sv []) rfl) (nsr (lv (rv_loadmS (ds := [.int .i64 p0_d.Id, .slice c d f, .slice i k l]) tf71 rfl m0 C rfl rfl) ?_))
 obtain ⟨aE, W, X⟩ := ob hm
 refine lc (vs := [.agg #[.int .i64 p0_d.Id, .slice c d f, .slice i k l]]) co88 ((ok_impl_DocOk F) C.enter0 S m T W) ?_
 rintro aF aG ⟨o, rfl, q⟩
 refine ⟨_, rfl, ?_⟩
 have D := (C.c0 q).t1
 refine nq (wcc X rfl (fun Y G => ?_) (fun Y G => ?_))
 ·refine sr (fa ff71_1 rfl (lv (rv_loadm1 tf68 rfl m0 D rfl) (lv (rv_len (t := tGField) underlying68 rfl (m.mono q.le)) (lv (rv_move (v := .int .i64 0) rfl) (nq ?_)))))
  obtain ⟨Z, aa, s⟩ := ob G
  refine wc_cutg (fun E' w' => ∃ I x, Z = .inl I ∧ E' = [] ∧ SH w K [] w' x [] ∧ KLe o x) ?_ ?_
  ·refine wc_block ?_
   obtain ⟨aH, ab, J⟩ := ob aa
   have ac := D.sb (sd sz)
   refine qf (fun (O : Nat) (R : Unit) E' w' => ∃ b, E' = [(1, sv p1_name), (10, .slice c d f), (11, .int .i64 (p0_d.Fields.length : Int)), (12, .int .i64 ((O : Nat) : Int))] ∧ SH w K [] w' b [] ∧ KLe o b) ab ⟨o, rfl, ac, (KLe.refl _)⟩ ?_ ?_
   ·rintro O R _ ad aI hi44 ae af ⟨b, rfl, y, A⟩
    refine sr (lv (rv_lss rfl rfl) (ns (wc_cond_t rfl (decide_eq_true (by omega)) (wc_skip (qe_seq (wc_seq (wc_block (sr ?_))))))))
    obtain ⟨a, ag, ah⟩ := ob ae
    refine li underlying68 tf141 (m.mono (q.le.trans A)) ag fun ai aj aJ ak am => ?_
    obtain ⟨rfl, aK, an⟩ := ak
    have ao : AtK _ ai aj [sv a.Name, sv a.Text] := am
    refine lv (rv_loadS (cs := [sv a.Name, sv a.Text]) tf141 rfl y ao rfl) (al tf141 y fun ap aL aq => ?_)
    have ar : SH _ _ _ _ _ [obj ap [sv [], sv []] 141] := aq
    refine ls [sv a.Name, sv a.Text] (.agg #[sv a.Name, sv a.Text]) tf141 ar fun aM B => (nr (fa ff141_0 rfl (lv (rv_loadm1 tf9 rfl m0 B rfl) (mv rfl (lv (rv_seql rfl rfl) (nq (wcc ah rfl (fun au H => ?_) (fun au H => ?_))))))))
    ·refine sr (fa ff141_1 rfl (lv (rv_loadm1 tf9 rfl m0 B rfl) (av rfl (nq (wc_ret (qe_block_ret (qe_then_ret (qe_then_ret ?_))))))))
     obtain rfl := oi H
     have aw := af _ rfl
     subst aw
     refine qe_block_ret (qe_then_ret ?_)
     obtain rfl := oi J
     refine qe_then_ret ?_
     obtain rfl := oi s
     have ax := B.sb (sd sz)
     exact er results147 ⟨rfl, trivial⟩ ⟨b, rfl, ax, an⟩
    refine wc_skip (qe_block (qg (lv (rv_add_to rfl rfl (w64_succ hi44 (SliceAt.max (m.mono q.le)))) (mv rfl (wl_nil ?_)))))
    obtain rfl := oi H
    have ay := B.sb (sd sz)
    exact qd ⟨_, rfl, b, rfl, ay, A⟩
   rintro R _ ad az ⟨b, rfl, y, A⟩
   subst az
   refine sr (lv (rv_lss rfl rfl) (ns (wc_cond_f rfl (decide_eq_false (by omega)) (wc_exit (qe_then_exit (qe_then_exit (qe_block_eq ?_)))))))
   obtain rfl := oi J
   exact qe_mid' ⟨_, b, rfl, rfl, y, A⟩ trivial
  rintro _ aN ⟨I, x, rfl, rfl, aA, aO⟩
  have s := elim_l s
  refine qr (lv (rv_assign (v := sv []) rfl) (nq (wc_ret ?_)))
  obtain rfl := oi s
  exact er results147 ⟨rfl, trivial⟩ ⟨x, rfl, aA, (by decide : ([] : Str).length ≤ maxLen)⟩
 refine wc_skip (qr (lv (rv_assign (v := sv []) rfl) (nq (wc_ret ?_))))
 obtain rfl := oi G
 have aB := D.sb (sd sz)
 exact er results147 ⟨rfl, trivial⟩ ⟨o, rfl, aB, (by decide : ([] : Str).length ≤ maxLen)⟩

theorem ok_impl_Seg_posts__ofGScorer1 (F : Nat) {w : World} {K : KMap} {g1 : Nat} {f : Option Addr} {i k : Nat} {l : Option Addr} {m o : Nat} {q : Option Addr} {s x : Nat} {a : Option Addr} {b c : Nat} {p0_s : GScorer} {p1_field : Str} {p2_term : Str} {r : (List GPost)} (hS : SH w K (List.flatMap Item.gs [obj g1 [.slice f i k, .slice l m o, .slice q s x, .slice a b c] 80]) w K [obj g1 [.slice f i k, .slice l m o, .slice q s x, .slice a b c] 80]) (aF : SliceAt tStr K f i k p0_s.c_.Stops) (aG : SliceAt tGSyn K l m o p0_s.c_.Syns) (aH : SliceAt tGDoc K q s x p0_s.s_.Docs) (S : SliceAt tGEntry K a b c p0_s.s_.Entries) (aI : p1_field.length ≤ maxLen) (aJ : p2_term.length ≤ maxLen) (hm : M.impl_Seg_posts__ofGScorer1 F p0_s p1_field p2_term = some r) :
  Calls Tryz.prog 44 #[.pointer (some ⟨g1, 2, none⟩), sv p1_field, sv p2_term] w fun e w' => ∃ a_1 n_2 c_3 K', e = .returned (.slice a_1 n_2 c_3) ∧ SH w K (List.flatMap Item.gs [obj g1 [.slice f i k, .slice l m o, .slice q s x, .slice a b c] 80]) w' K' [obj g1 [.slice f i k, .slice l m o, .slice q s x, .slice a b c] 80] ∧ SliceAt tGPost K' a_1 n_2 c_3 r := by
 rw [M.impl_Seg_posts__ofGScorer1] at hm
 refine calls_in func44 rfl ntmps44 rfl (sr (lv (rv_assign (v := .slice none 0 0) rfl) (nsr (mv rfl (lv (rv_nilCheck rfl) (fa ff30_1 rfl (lv (rv_loadm1 tf28 rfl m0 hS rfl) (lv (rv_len (t := tGEntry) underlying28 rfl S) (lv (rv_move (v := .int .i64 0) rfl) ?_)))))))))
 refine nq ?_
 obtain ⟨ad, ae, H⟩ := ob hm
 refine wc_cutg (fun E' w' => ∃ Y I, ad = .inl Y ∧ E' = [(0, .pointer (some ⟨g1, 2, none⟩))] ∧ SH w K (List.flatMap Item.gs [obj g1 [.slice f i k, .slice l m o, .slice q s x, .slice a b c] 80]) w' I [obj g1 [.slice f i k, .slice l m o, .slice q s x, .slice a b c] 80] ∧ KLe K I) ?_ ?_
 ·refine wc_block ?_
  obtain ⟨aK, af, Z⟩ := ob ae
  refine qf (fun (T : Nat) (aa : Unit) E' w' => ∃ A, E' = [(0, .pointer (some ⟨g1, 2, none⟩)), (1, sv p1_field), (2, sv p2_term), (12, .slice a b c), (13, .int .i64 (p0_s.s_.Entries.length : Int)), (14, .int .i64 ((T : Nat) : Int))] ∧ SH w K (List.flatMap Item.gs [obj g1 [.slice f i k, .slice l m o, .slice q s x, .slice a b c] 80]) w' A [obj g1 [.slice f i k, .slice l m o, .slice q s x, .slice a b c] 80] ∧ KLe K A) af ⟨K, rfl, hS, (KLe.refl _)⟩ ?_ ?_
  ·rintro T aa _ ag aL hi38 ah ai ⟨A, rfl, J, O⟩
   refine sr (lv (rv_lss rfl rfl) (ns (wc_cond_t rfl (decide_eq_true (by omega)) (wc_skip (qe_seq (wc_seq (wc_block (sr ?_))))))))
   obtain ⟨y, aj, ak⟩ := ob ah
   refine li underlying28 tf86 (S.mono O) aj fun am an aM ao ap => ?_
   obtain ⟨B, C, D, rfl, aN, aO, aq⟩ := ao
   have ar : AtK _ am an [sv y.Field, sv y.Term, .slice B C D] := ap
   refine lv (rv_loadS (cs := [sv y.Field, sv y.Term, .slice B C D]) tf86 rfl J ar rfl) (al tf86 J fun U aP au => ?_)
   have aw : SH _ _ _ _ _ [obj U [sv [], sv [], .slice none 0 0] 86, _] := au
   refine ls [sv y.Field, sv y.Term, .slice B C D] (.agg #[sv y.Field, sv y.Term, .slice B C D]) tf86 aw fun aQ R => (ns ?_)
   obtain ⟨ax, ab, ay⟩ := ob ak
   refine wc_cutg (fun E' w' => ∃ G, E' = [(0, .pointer (some ⟨g1, 2, none⟩)), (1, sv p1_field), (2, sv p2_term), (8, pt U), (12, .slice a b c), (13, .int .i64 (p0_s.s_.Entries.length : Int)), (14, .int .i64 ((T : Nat) : Int)), (27, .bool ax)] ∧ SH w K (List.flatMap Item.gs [obj g1 [.slice f i k, .slice l m o, .slice q s x, .slice a b c] 80]) w' G [obj g1 [.slice f i k, .slice l m o, .slice q s x, .slice a b c] 80, obj U [sv y.Field, sv y.Term, .slice B C D] 86] ∧ KLe A G) ?_ ?_
   ·refine wc_region (fa ff86_0 rfl (lv (rv_loadm1 tf9 rfl m0 R rfl) (mv rfl (lv (rv_seql rfl rfl) (mv rfl ?_)))))
    rcases bool_tf ((y.Field == p1_field)) with d | d
    ·have V := cond_t d ab
     refine lg d (rv_fieldAddr ff86_1 rfl) (lg d (rv_loadm1 tf9 rfl m0 R rfl) (lg d (rv_move rfl) (lg d (rv_seql rfl rfl) (lv (rv_pick_t rfl d rfl) (wl_nil ?_)))))
     obtain rfl := oi V
     exact qd ⟨A, rfl, R.f1, (KLe.refl _)⟩
    have V := cond_f d ab
    refine lu d (lu d (lu d (lu d (lv (rv_pick_f (v := .bool false) rfl d rfl) (wl_nil ?_)))))
    obtain rfl := oi V
    exact qd ⟨A, rfl, R.f1, (KLe.refl _)⟩
   rintro _ aR ⟨G, rfl, W, ac⟩
   refine qe_seq (wcc ay rfl (fun az X => ?_) (fun az X => ?_))
   ·refine sr (fa ff86_2 rfl (lv (rv_loadm1 tf37 rfl m1 W rfl) (av rfl (nq (wc_ret (qe_block_ret (qe_then_ret (qe_then_ret ?_))))))))
    obtain rfl := oi X
    have aA := ai _ rfl
    subst aA
    refine qe_block_ret (qe_then_ret ?_)
    obtain rfl := oi Z
    refine qe_then_ret ?_
    obtain rfl := oi H
    have aB := W.sb (sk (sd sz))
    exact er results44 ⟨rfl, trivial⟩ ⟨B, C, D, G, rfl, aB, (aq.mono ac)⟩
   refine wc_skip (qe_block (qg (lv (rv_add_to rfl rfl (w64_succ hi38 (SliceAt.max S))) (mv rfl (wl_nil ?_)))))
   obtain rfl := oi X
   have aC := W.sb (sk (sd sz))
   exact qd ⟨_, rfl, G, rfl, aC, (O.trans ac)⟩
  rintro aa _ ag aD ⟨A, rfl, J, O⟩
  subst aD
  refine sr (lv (rv_lss rfl rfl) (ns (wc_cond_f rfl (decide_eq_false (by omega)) (wc_exit (qe_then_exit (qe_then_exit (qe_block_eq ?_)))))))
  obtain rfl := oi Z
  exact qd ⟨_, A, rfl, rfl, J, O⟩
 rintro _ aS ⟨Y, I, rfl, rfl, aE, aT⟩
 have H := elim_l H
 refine qr (lv (rv_assign (v := .slice none 0 0) rfl) (nq (wc_ret ?_)))
 obtain rfl := oi H
 exact er results44 ⟨rfl, trivial⟩ ⟨none, 0, 0, I, rfl, aE, (SliceAt.nil _ _)⟩

theorem ok_impl_scorer_places (F : Nat) {w : World} {K : KMap} {g1 : Nat} {a : Option Addr} {b c : Nat} {d : Option Addr} {f i : Nat} {k : Option Addr} {l m : Nat} {o : Option Addr} {q s : Nat} {p0_x : GScorer} {p1_field : Str} {p2_term : Str} {p3_id : Int} {r : (List Int)} (hS : SH w K (List.flatMap Item.gs [obj g1 [.slice a b c, .slice d f i, .slice k l m, .slice o q s] 80]) w K [obj g1 [.slice a b c, .slice d f i, .slice k l m, .slice o q s] 80]) (X : SliceAt tStr K a b c p0_x.c_.Stops) (Y : SliceAt tGSyn K d f i p0_x.c_.Syns) (Z : SliceAt tGDoc K k l m p0_x.s_.Docs) (aa : SliceAt tGEntry K o q s p0_x.s_.Entries) (ab : p1_field.length ≤ maxLen) (ac : p2_term.length ≤ maxLen) (aM : rng64 p3_id) (hm : M.impl_scorer_places F p0_x p1_field p2_term p3_id = some r) :
  Calls Tryz.prog 114 #[.pointer (some ⟨g1, 0, none⟩), sv p1_field, sv p2_term, .int .i64 p3_id] w fun e w' => ∃ a_1 n_2 c_3 K', e = .returned (.slice a_1 n_2 c_3) ∧ SH w K (List.flatMap Item.gs [obj g1 [.slice a b c, .slice d f i, .slice k l m, .slice o q s] 80]) w' K' [obj g1 [.slice a b c, .slice d f i, .slice k l m, .slice o q s] 80] ∧ SliceAt tInt K' a_1 n_2 c_3 r := by
 rw [M.impl_scorer_places] at hm
 refine calls_in func114 rfl ntmps114 rfl (sr (lv (rv_assign (v := .slice none 0 0) rfl) (nsr (mv rfl (lv (rv_nilCheck rfl) (fa ff80_1 rfl (mv rfl (mv rfl ?_))))))))
 obtain ⟨ad, ae, af⟩ := ob hm
 refine lc (vs := [.pointer (some ⟨g1, 2, none⟩), sv p1_field, sv p2_term]) co44 ((ok_impl_Seg_posts__ofGScorer1 F) hS.e1 X Y Z aa ab ac ae) ?_
 rintro aN aO ⟨ag, ah, ai, O, rfl, aj, R⟩
 refine ⟨_, rfl, ?_⟩
 have ak := (hS.c1 aj).t1
 refine lv (rv_len (t := tGPost) underlying37 rfl R) (lv (rv_move (v := .int .i64 0) rfl) (nq ?_))
 obtain ⟨am, an, C⟩ := ob af
 refine wc_cutg (fun E' w' => ∃ T D, am = .inl T ∧ E' = [(0, pt g1)] ∧ SH w K (List.flatMap Item.gs [obj g1 [.slice a b c, .slice d f i, .slice k l m, .slice o q s] 80]) w' D [obj g1 [.slice a b c, .slice d f i, .slice k l m, .slice o q s] 80] ∧ KLe O D) ?_ ?_
 ·refine wc_block ?_
  obtain ⟨aP, ao, U⟩ := ob an
  refine qf (fun (V : Nat) (W : Unit) E' w' => ∃ x, E' = [(0, pt g1), (3, .int .i64 p3_id), (16, .slice ag ah ai), (17, .int .i64 (ad.length : Int)), (18, .int .i64 ((V : Nat) : Int))] ∧ SH w K (List.flatMap Item.gs [obj g1 [.slice a b c, .slice d f i, .slice k l m, .slice o q s] 80]) w' x [obj g1 [.slice a b c, .slice d f i, .slice k l m, .slice o q s] 80] ∧ KLe O x) ao ⟨O, rfl, ak, (KLe.refl _)⟩ ?_ ?_
  ·rintro V W _ ap aQ hi51 aq ar ⟨x, rfl, G, H⟩
   refine sr (lv (rv_lss rfl rfl) (ns (wc_cond_t rfl (decide_eq_true (by omega)) (wc_skip (qe_seq (wc_seq (wc_block (sr ?_))))))))
   obtain ⟨I, au, aw⟩ := ob aq
   refine li underlying37 tf42 (R.mono H) au fun ax ay aR az aA => ?_
   obtain ⟨y, A, B, rfl, aS, aB⟩ := az
   have aC : AtK _ ax ay [.int .i64 I.Doc, .slice y A B] := aA
   refine lv (rv_loadS (cs := [.int .i64 I.Doc, .slice y A B]) tf42 rfl G aC rfl) (al tf42 G fun aD aT aE => ?_)
   have aF : SH _ _ _ _ _ [obj aD [.int .i64 0, .slice none 0 0] 42, _] := aE
   refine ls [.int .i64 I.Doc, .slice y A B] (.agg #[.int .i64 I.Doc, .slice y A B]) tf42 aF fun aU J => (nr (fa ff42_0 rfl (lv (rv_loadm1 tf3 rfl m0 J rfl) (mv rfl (lv (rv_eql rfl rfl) (nq (wcc aw rfl (fun aG S => ?_) (fun aG S => ?_))))))))
   ·refine sr (fa ff42_1 rfl (lv (rv_loadm1 tf39 rfl m0 J rfl) (av rfl (nq (wc_ret (qe_block_ret (qe_then_ret (qe_then_ret ?_))))))))
    obtain rfl := oi S
    have aH := ar _ rfl
    subst aH
    refine qe_block_ret (qe_then_ret ?_)
    obtain rfl := oi U
    refine qe_then_ret ?_
    obtain rfl := oi C
    have aI := J.sb (sd (sk sz))
    exact er results114 ⟨rfl, trivial⟩ ⟨y, A, B, x, rfl, aI, aB⟩
   refine wc_skip (qe_block (qg (lv (rv_add_to rfl rfl (w64_succ hi51 (SliceAt.max R))) (mv rfl (wl_nil ?_)))))
   obtain rfl := oi S
   have aJ := J.sb (sd (sk sz))
   exact qd ⟨_, rfl, x, rfl, aJ, H⟩
  rintro W _ ap aK ⟨x, rfl, G, H⟩
  subst aK
  refine sr (lv (rv_lss rfl rfl) (ns (wc_cond_f rfl (decide_eq_false (by omega)) (wc_exit (qe_then_exit (qe_then_exit (qe_block_eq ?_)))))))
  obtain rfl := oi U
  exact qd ⟨_, x, rfl, rfl, G, H⟩
 rintro _ aV ⟨T, D, rfl, rfl, aL, aW⟩
 have C := elim_l C
 refine qr (lv (rv_assign (v := .slice none 0 0) rfl) (nq (wc_ret ?_)))
 obtain rfl := oi C
 exact er results114 ⟨rfl, trivial⟩ ⟨none, 0, 0, D, rfl, aL, (SliceAt.nil _ _)⟩

theorem ok_impl_Seg_doc__ofGScorer1 (F : Nat) {w : World} {K : KMap} {g1 : Nat} {f : Option Addr} {i k : Nat} {l : Option Addr} {m o : Nat} {a : Option Addr} {b d : Nat} {q : Option Addr} {s x : Nat} {p0_s : GScorer} {p1_id : Int} {r : GDoc × Bool} (hS : SH w K (List.flatMap Item.gs [obj g1 [.slice f i k, .slice l m o, .slice a b d, .slice q s x] 80]) w K [obj g1 [.slice f i k, .slice l m o, .slice a b d, .slice q s x] 80]) (aY : SliceAt tStr K f i k p0_s.c_.Stops) (aZ : SliceAt tGSyn K l m o p0_s.c_.Syns) (ad : SliceAt tGDoc K a b d p0_s.s_.Docs) (a0 : SliceAt tGEntry K q s x p0_s.s_.Entries) (a1 : rng64 p1_id) (hm : M.impl_Seg_doc__ofGScorer1 F p0_s p1_id = some r) :
  Calls Tryz.prog 79 #[.pointer (some ⟨g1, 2, none⟩), .int .i64 p1_id] w fun e w' => ∃ a_2 n_3 c_4 a_6 n_7 c_8 K', e = .returned (.tuple #[.agg #[.int .i64 r.1.Id, .slice a_2 n_3 c_4, .slice a_6 n_7 c_8], .bool r.2]) ∧ SH w K (List.flatMap Item.gs [obj g1 [.slice f i k, .slice l m o, .slice a b d, .slice q s x] 80]) w' K' [obj g1 [.slice f i k, .slice l m o, .slice a b d, .slice q s x] 80] ∧ rng64 r.1.Id ∧ SliceAt tGField K' a_2 n_3 c_4 r.1.Fields ∧ SliceAt tGAttr K' a_6 n_7 c_8 r.1.Nums := by
 rw [M.impl_Seg_doc__ofGScorer1] at hm
 refine calls_in func79 rfl ntmps79 rfl (sr (al tf71 hS fun Y a3 ax => ?_))
 have ap : SH _ _ _ _ _ [obj Y [.int .i64 0, .slice none 0 0, .slice none 0 0] 71, _] := ax
 refine lv (rv_assign (v := .bool false) rfl) (nsr (mv rfl (lv (rv_nilCheck rfl) (fa ff30_0 rfl (lv (rv_loadm1 tf27 rfl m1 ap rfl) (lv (rv_len (t := tGDoc) underlying27 rfl ad) (lv (rv_move (v := .int .i64 0) rfl) (nq ?_))))))))
 obtain ⟨ay, az, Z⟩ := ob hm
 refine wc_cutg (fun E' w' => ∃ J ae af ag ah ai aj O, ay = .inl J ∧ E' = [(0, .pointer (some ⟨g1, 2, none⟩)), (4, pt Y)] ∧ SH w K (List.flatMap Item.gs [obj g1 [.slice f i k, .slice l m o, .slice a b d, .slice q s x] 80]) w' O [obj g1 [.slice f i k, .slice l m o, .slice a b d, .slice q s x] 80, obj Y [.int .i64 J.Id, .slice ae af ag, .slice ah ai aj] 71] ∧ KLe K O ∧ rng64 J.Id ∧ SliceAt tGField O ae af ag J.Fields ∧ SliceAt tGAttr O ah ai aj J.Nums) ?_ ?_
 ·refine wc_block ?_
  obtain ⟨a4, aA, aq⟩ := ob az
  refine qf (fun (ar : Nat) (R : GDoc) E' w' => ∃ S T U V W X y, E' = [(0, .pointer (some ⟨g1, 2, none⟩)), (1, .int .i64 p1_id), (4, pt Y), (11, .slice a b d), (12, .int .i64 (p0_s.s_.Docs.length : Int)), (13, .int .i64 ((ar : Nat) : Int))] ∧ SH w K (List.flatMap Item.gs [obj g1 [.slice f i k, .slice l m o, .slice a b d, .slice q s x] 80]) w' y [obj g1 [.slice f i k, .slice l m o, .slice a b d, .slice q s x] 80, obj Y [.int .i64 R.Id, .slice S T U, .slice V W X] 71] ∧ KLe K y ∧ rng64 R.Id ∧ SliceAt tGField y S T U R.Fields ∧ SliceAt tGAttr y V W X R.Nums) aA ⟨none, 0, 0, none, 0, 0, K, rfl, ap.f1, (KLe.refl _), (by decide : rng64 0), (SliceAt.nil _ _), (SliceAt.nil _ _)⟩ ?_ ?_
  ·rintro ar R _ aB a5 hi60 aC aD ⟨S, T, U, V, W, X, y, rfl, aa, ab, ak, am, an⟩
   refine sr (lv (rv_lss rfl rfl) (ns (wc_cond_t rfl (decide_eq_true (by omega)) (wc_skip (qe_seq (wc_seq (wc_block (sr ?_))))))))
   obtain ⟨I, aE, aF⟩ := ob aC
   refine li underlying27 tf71 (ad.mono ab) aE fun aG aH a7 aI aJ => ?_
   obtain ⟨A, B, C, D, G, H, rfl, aK, aL, aM⟩ := aI
   have aN : AtK _ aG aH [.int .i64 I.Id, .slice A B C, .slice D G H] := aJ
   refine lv (rv_loadS (cs := [.int .i64 I.Id, .slice A B C, .slice D G H]) tf71 rfl aa aN rfl) (al tf71 aa fun aO a8 aP => ?_)
   have aQ : SH _ _ _ _ _ [obj aO [.int .i64 0, .slice none 0 0, .slice none 0 0] 71, _, _] := aP
   refine ls [.int .i64 I.Id, .slice A B C, .slice D G H] (.agg #[.int .i64 I.Id, .slice A B C, .slice D G H]) tf71 aQ fun a9 ac => (nr (fa ff71_0 rfl (lv (rv_loadm1 tf3 rfl m0 ac rfl) (mv rfl (lv (rv_eql rfl rfl) (nq (wcc aF rfl (fun aR ao => ?_) (fun aR ao => ?_))))))))
   ·refine sr (lv (rv_loadmS (ds := [.int .i64 I.Id, .slice A B C, .slice D G H]) tf71 rfl m0 ac rfl rfl) (ls [.int .i64 I.Id, .slice A B C, .slice D G H] (.agg #[.int .i64 I.Id, .slice A B C, .slice D G H]) tf71 ac.f2 fun ba au => (lv (rv_assign (v := .bool true) rfl) (nq (wc_ret (qe_block_ret (qe_then_ret (qe_then_ret ?_))))))))
    obtain rfl := oi ao
    have aS := aD _ rfl
    subst aS
    refine qe_block_ret (qe_then_ret ?_)
    obtain rfl := oi aq
    refine qe_then_ret ?_
    obtain rfl := oi Z
    have aT := au.sb (sd (sd (sk sz)))
    exact qe_ret (vs := [_, _]) results79 ⟨⟨_, _, rfl, run_loadVar_at tf71 (cs := [.int .i64 I.Id, .slice A B C, .slice D G H]) (fun j c e => by rw [Nat.zero_add, au.mem_obj m0]; exact e) (.inl ⟨rfl, rfl, rfl⟩)⟩, rfl, trivial⟩ ⟨A, B, C, D, G, H, y, rfl, aT, aK, aL, aM⟩
   refine wc_skip (qe_block (qg (lv (rv_add_to rfl rfl (w64_succ hi60 (SliceAt.max ad))) (mv rfl (wl_nil ?_)))))
   obtain rfl := oi ao
   have aU := ac.sb (sd (sk (sk sz)))
   exact qd ⟨_, rfl, S, T, U, V, W, X, y, rfl, aU, ab, ak, am, an⟩
  rintro R _ aB aV ⟨S, T, U, V, W, X, y, rfl, aa, ab, ak, am, an⟩
  subst aV
  refine sr (lv (rv_lss rfl rfl) (ns (wc_cond_f rfl (decide_eq_false (by omega)) (wc_exit (qe_then_exit (qe_then_exit (qe_block_eq ?_)))))))
  obtain rfl := oi aq
  exact qd ⟨_, S, T, U, V, W, X, y, rfl, rfl, aa, ab, ak, am, an⟩
 rintro _ bb ⟨J, ae, af, ag, ah, ai, aj, O, rfl, rfl, aW, bc, bd, be, bf⟩
 have Z := elim_l Z
 refine qr (lv (rv_build (cs := #[.int .i64 0, .slice none 0 0, .slice none 0 0]) sp71 tf71 rfl (by kernel_rfl)) (ls [.int .i64 0, .slice none 0 0, .slice none 0 0] (.agg #[.int .i64 0, .slice none 0 0, .slice none 0 0]) tf71 aW.f1 fun bg aw => (lv (rv_assign (v := .bool false) rfl) (nq (wc_ret ?_)))))
 obtain rfl := oi Z
 have aX := aw.sb (sd (sk sz))
 exact qe_ret (vs := [_, _]) results79 ⟨⟨_, _, rfl, run_loadVar_at tf71 (cs := [.int .i64 0, .slice none 0 0, .slice none 0 0]) (fun j c e => by rw [Nat.zero_add, aw.mem_obj m0]; exact e) (.inl ⟨rfl, rfl, rfl⟩)⟩, rfl, trivial⟩ ⟨none, 0, 0, none, 0, 0, O, rfl, aX, (by decide : rng64 0), (SliceAt.nil _ _), (SliceAt.nil _ _)⟩
end Go.Proofs.YtoeajphlomankaaGreatDoor
