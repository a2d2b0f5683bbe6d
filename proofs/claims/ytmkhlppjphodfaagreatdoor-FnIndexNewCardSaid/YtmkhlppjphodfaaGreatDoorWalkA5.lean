/-
 Walks of the functions. Printed by gen.py.
-/
import Derived.Test.YtmkhlppjphodfaaGreatDoorWalkA0
import Derived.Test.YtmkhlppjphodfaaGreatDoorWalkA2
import Derived.Test.YtmkhlppjphodfaaGreatDoorWalkA3
import Derived.Test.YtmkhlppjphodfaaGreatDoorWalkA4
set_option linter.unusedVariables false
set_option linter.unusedSectionVars false
set_option maxRecDepth 100000
namespace Go.Proofs.YtmkhlppjphodfaaGreatDoor
open Go Go.Fk Go.RowKit Tryz
variable (F : Nat) {w : World} {K : KMap} {Z : List Nat} {g1 g2 g3 : Nat} {A B C D G H I J O R S T : Option Addr} {a b c d f i k l m n o p q s v x y aa ab ac ad ae af ag : Nat}
variable [dr : Dr]

theorem ok_impl_lowest {p0_up : Int} {p1_down : Int} {r : GRat × Bool} (hS : SH w K [] w K []) (B : rng64 p0_up) (C : rng64 p1_down) (hm : M.impl_lowest F p0_up p1_down = some r) :
  Calls prog 153 #[.int .i64 p0_up, .int .i64 p1_down] w fun e w' => ∃ K', e = .returned (.tuple #[.agg #[.int .i64 r.1.Up, .int .i64 r.1.Down], .bool r.2]) ∧ SH w K [] w' K' [] ∧ rng64 r.1.Up ∧ rng64 r.1.Down := by
 rw [M.impl_lowest] at hm
 refine ci func153 rfl ntmps153 (sr (al tf73 hS fun g3 w4 D => ?_))
 have o : SH _ _ _ _ _ [obj g3 [.int .i64 0, .int .i64 0] 73] := D
 refine lv (rv_assign (v := .bool false) rfl) (nsr (mv rfl (lv (rv_lss rfl rfl) (nq ?_))))
 obtain ⟨d, G, H⟩ := ob hm
 refine wc_cutg (IW w K [] K [(0, .int .i64 d.1), (1, .int .i64 d.2), (4, pt g3)] [obj g3 [.int .i64 0, .int .i64 0] 73] (rng64 d.1 ∧ rng64 d.2)) ?_ ?_
 ·refine wcc G rfl (fun I i => ?_) (fun I i => ?_)
  ·refine wc_region (mv rfl (lv (rv_neg rfl) (mv rfl (lv (rv_neg rfl) (av rfl (av rfl (wl_nil ?_)))))))
   cases oi i
   exact qd ⟨K, rfl, o, kr, (w64_rng _), (w64_rng _)⟩
  refine wc_skip ?_
  cases oi i
  exact qd ⟨K, rfl, o, kr, B, C⟩
 rintro _ ah ⟨ai, rfl, q, aj, J, O⟩
 refine qr (mv rfl (mv rfl ?_))
 obtain ⟨ak, R, S⟩ := ob H
 refine lk co154 ((ok_impl_divisor F) q.enter0 J O R) ?_
 rintro am an ⟨T, rfl, U, ao⟩
 have V := (q.c0 U).t1
 refine av rfl (ns ?_)
 have s := V.drew
 refine wh1 (fun w' => Holds T w') (fun w' => True) 9 [] mixed (s.hasK kr) (fun _ => trivial) (gt (rv_move rfl) (gt (rv_move rfl) ?_))
 obtain ⟨a, k, W⟩ := ob S
 refine gt (rv_quo rfl rfl k) (gt (rv_move rfl) (gt (rv_move rfl) ?_))
 obtain ⟨b, l, X⟩ := ob W
 refine gt (rv_quo rfl rfl l) (gt (rv_build (cs := #[.int .i64 a, .int .i64 b]) sp73 tf73 rfl (by kernel_rfl)) (gn (al tf73 s fun Y ap aa => ?_)))
 have x : SH _ _ _ _ _ [obj Y [.int .i64 0, .int .i64 0] 73, _] := aa
 refine wl_nil (qh (x.hasK kr) (fun _ => trivial) (gn (ls [.int .i64 a, .int .i64 b] (.agg #[.int .i64 a, .int .i64 b]) tf73 x fun aq f => (wl_nil (qh (f.hasK kr) (fun _ => trivial) (gd' (qs (sr (lv (rv_loadmS (ds := [.int .i64 a, .int .i64 b]) tf73 rfl m0 f rfl rfl) ?_)))))))))
 obtain ⟨ar, ab, ac⟩ := ob X
 refine lk co98 ((ok_impl_RatOk F (p0_r := (GRat.mk a b))) f.enter0 (rng_quo k) (rng_quo l) ab) ?_
 rintro au aw ⟨ad, rfl, ae⟩
 have y := (f.c0 ae).t2
 refine lv (rv_not rfl) (nq (wcc ac rfl (fun af m => ?_) (fun af m => ?_)))
 ·refine sr ?_
  cases m
 refine wc_skip (qr (lv (rv_loadmS (ds := [.int .i64 a, .int .i64 b]) tf73 rfl m0 y rfl rfl) (ls [.int .i64 a, .int .i64 b] (.agg #[.int .i64 a, .int .i64 b]) tf73 y.f1 fun ax A => (lv (rv_assign (v := .bool true) rfl) (nq (wc_ret ?_))))))
 cases oi m
 exact qe_ret (vs := [_, _]) results153 ⟨⟨_, _, rfl, run_loadVar_at tf73 (cs := [.int .i64 a, .int .i64 b]) (fun j c e => by rw [Nat.zero_add, A.mem_obj m0]; exact e) (.inl ⟨rfl, rfl, rfl⟩)⟩, rfl, trivial⟩ ⟨ad, rfl, A.s, (rng_quo k), (rng_quo l)⟩

theorem ok_impl_RatOf {p0_a : Int} {p1_b : Int} {r : GRat × Bool} (hS : SH w K [] w K []) (q : rng64 p0_a) (s : rng64 p1_b) (hm : M.impl_RatOf F p0_a p1_b = some r) :
  Calls prog 97 #[.int .i64 p0_a, .int .i64 p1_b] w fun e w' => ∃ K', e = .returned (.tuple #[.agg #[.int .i64 r.1.Up, .int .i64 r.1.Down], .bool r.2]) ∧ SH w K [] w' K' [] ∧ rng64 r.1.Up ∧ rng64 r.1.Down := by
 rw [M.impl_RatOf] at hm
 refine ci func97 rfl ntmps97 (sr (al tf73 hS fun g3 w4 D => ?_))
 have x : SH _ _ _ _ _ [obj g3 [.int .i64 0, .int .i64 0] 73] := D
 refine lv (rv_assign (v := .bool false) rfl) (ns (wc_seq ?_))
 obtain ⟨G, H, I⟩ := ob hm
 refine wc_cutg (IV w K [] K [(0, .int .i64 p0_a), (1, .int .i64 p1_b), (4, pt g3), (17, .bool G)] [obj g3 [.int .i64 0, .int .i64 0] 73]) ?_ ?_
 ·refine wc_region (mv rfl ?_)
  obtain ⟨ae, J, O⟩ := ob H
  refine lk co58 ((ok_impl_within F) x.enter0 q (by decide : rng64 (-1000000000)) (by decide : rng64 1000000000) J) ?_
  rintro af ag ⟨R, rfl, f⟩
  have i := (x.c0 f).t1
  refine lv (rv_not rfl) (mv rfl (bt O (fun a k => ?_) (fun a k => ?_)))
  ·refine lu a (lu a (lu a (lv (rv_pick_t (v := .bool true) rfl a rfl) (mv rfl (lu rfl (lu rfl (lv (rv_pick_t (v := .bool true) rfl rfl rfl) (wl_nil ?_))))))))
   cases oi k
   exact qd ⟨R, rfl, i, f.le⟩
  refine lg a (rv_move rfl) ?_
  obtain ⟨ah, S, T⟩ := ob k
  refine wl_call (wg rfl rfl a) rfl (rt_call (vs := [.int .i64 p1_b, .int .i64 (-1000000000), .int .i64 1000000000]) co58 rfl) ((ok_impl_within F) i.enter0 s (by decide : rng64 (-1000000000)) (by decide : rng64 1000000000) S) ?_
  rintro ai aj ⟨y, rfl, l⟩
  refine ⟨_, rfl, ?_⟩
  have A := (i.c0 l).t1
  refine lg a (rv_not rfl) (lv (rv_pick_f rfl a rfl) (mv rfl (bt T (fun b m => ?_) (fun b m => ?_))))
  ·refine lu b (lu b (lv (rv_pick_t (v := .bool true) rfl b rfl) (wl_nil ?_)))
   cases oi m
   exact qd ⟨y, rfl, A, (f.le.trans l.le)⟩
  refine lg b (rv_move rfl) (lg b (rv_eql rfl rfl) (lv (rv_pick_f rfl b rfl) (wl_nil ?_)))
  cases oi m
  exact qd ⟨y, rfl, A, (f.le.trans l.le)⟩
 rintro _ ak ⟨am, rfl, B, an⟩
 refine qe_seq (wcc I rfl (fun U o => ?_) (fun U o => ?_))
 ·refine sr ?_
  cases o
 refine wc_skip (qr (mv rfl (mv rfl ?_)))
 obtain ⟨d, V, W⟩ := ob o
 refine lk co153 ((ok_impl_lowest F) B.enter0 q s V) ?_
 rintro ao ap ⟨X, rfl, Y, aa, ab⟩
 have ac := (B.c0 Y).t1
 refine lv (rv_extract rfl rfl) (lv (rv_extract rfl rfl) (ls [.int .i64 d.1.Up, .int .i64 d.1.Down] (.agg #[.int .i64 d.1.Up, .int .i64 d.1.Down]) tf73 ac fun aq C => (av rfl (nq (wc_ret ?_)))))
 cases oi W
 exact qe_ret (vs := [_, _]) results97 ⟨⟨_, _, rfl, run_loadVar_at tf73 (cs := [.int .i64 d.1.Up, .int .i64 d.1.Down]) (fun j c e => by rw [Nat.zero_add, C.mem_obj m0]; exact e) (.inl ⟨rfl, rfl, rfl⟩)⟩, rfl, trivial⟩ ⟨X, rfl, C.s, aa, ab⟩

set_option maxHeartbeats 2000000 in
theorem ok_impl_TermScore {p0_tf : Int} {p1_long : Int} {p2_total : Int} {p3_docs : Int} {p4_df : Int} {r : GRat × Bool} (hS : SH w K [] w K []) (R : rng64 p0_tf) (S : rng64 p1_long) (ad : rng64 p2_total) (T : rng64 p3_docs) (ae : rng64 p4_df) (hm : M.impl_TermScore F p0_tf p1_long p2_total p3_docs p4_df = some r) :
  Calls prog 40 #[.int .i64 p0_tf, .int .i64 p1_long, .int .i64 p2_total, .int .i64 p3_docs, .int .i64 p4_df] w fun e w' => ∃ K', e = .returned (.tuple #[.agg #[.int .i64 r.1.Up, .int .i64 r.1.Down], .bool r.2]) ∧ SH w K [] w' K' [] ∧ rng64 r.1.Up ∧ rng64 r.1.Down := by
 rw [M.impl_TermScore] at hm
 refine ci func40 rfl ntmps40 (sr (al tf73 hS fun i w7 af => ?_))
 have U : SH _ _ _ _ _ [obj i [.int .i64 0, .int .i64 0] 73] := af
 refine lv (rv_assign (v := .bool false) rfl) (ns (wc_seq ?_))
 obtain ⟨ag, ah, ai⟩ := ob hm
 refine wc_cutg (IV w K [] K [(0, .int .i64 p0_tf), (1, .int .i64 p1_long), (2, .int .i64 p2_total), (3, .int .i64 p3_docs), (4, .int .i64 p4_df), (10, pt i), (38, .bool ag)] [obj i [.int .i64 0, .int .i64 0] 73]) ?_ ?_
 ·refine wc_region (mv rfl ?_)
  obtain ⟨aZ, aj, ak⟩ := ob ah
  refine lk co58 ((ok_impl_within F) U.enter0 R (by decide : rng64 1) (by decide : rng64 80) aj) ?_
  rintro a0 a1 ⟨am, rfl, k⟩
  have q := (U.c0 k).t1
  refine lv (rv_not rfl) (mv rfl (bt ak (fun a s => ?_) (fun a s => ?_)))
  ·refine lu a (lu a (lu a (lu a (lv (rv_pick_t (v := .bool true) rfl a rfl) (mv rfl (lu rfl (lu rfl (lu rfl (lv (rv_pick_t (v := .bool true) rfl rfl rfl) ?_)))))))))
   refine mv rfl (lu rfl (lu rfl (lu rfl (lu rfl (lv (rv_pick_t (v := .bool true) rfl rfl rfl) (mv rfl (lu rfl (lu rfl (lu rfl ?_)))))))))
   refine lu rfl (lv (rv_pick_t (v := .bool true) rfl rfl rfl) (wl_nil ?_))
   cases oi s
   exact qd ⟨am, rfl, q, k.le⟩
  refine lg a (rv_move rfl) (lg a (rv_move rfl) ?_)
  obtain ⟨a2, an, ao⟩ := ob s
  refine wl_call (wg rfl rfl a) rfl (rt_call (vs := [.int .i64 p1_long, .int .i64 p0_tf, .int .i64 80]) co58 rfl) ((ok_impl_within F) q.enter0 S R (by decide : rng64 80) an) ?_
  rintro a3 a4 ⟨ap, rfl, m⟩
  refine ⟨_, rfl, ?_⟩
  have x := (q.c0 m).t1
  refine lg a (rv_not rfl) (lv (rv_pick_f rfl a rfl) (mv rfl (bt ao (fun f y => ?_) (fun f y => ?_))))
  ·refine lu f (lu f (lu f (lv (rv_pick_t (v := .bool true) rfl f rfl) (mv rfl (lu rfl (lu rfl (lu rfl (lu rfl (lv (rv_pick_t (v := .bool true) rfl rfl rfl) ?_)))))))))
   refine mv rfl (lu rfl (lu rfl (lu rfl (lu rfl (lv (rv_pick_t (v := .bool true) rfl rfl rfl) (wl_nil ?_))))))
   cases oi y
   exact qd ⟨ap, rfl, x, (k.le.trans m.le)⟩
  refine lg f (rv_move rfl) ?_
  obtain ⟨a5, aq, ar⟩ := ob y
  refine wl_call (wg rfl rfl f) rfl (rt_call (vs := [.int .i64 p3_docs, .int .i64 1, .int .i64 16]) co58 rfl) ((ok_impl_within F) x.enter0 T (by decide : rng64 1) (by decide : rng64 16) aq) ?_
  rintro a6 a7 ⟨au, rfl, o⟩
  refine ⟨_, rfl, ?_⟩
  have A := (x.c0 o).t1
  refine lg f (rv_not rfl) (lv (rv_pick_f rfl f rfl) (mv rfl (bt ar (fun b B => ?_) (fun b B => ?_))))
  ·refine lu b (lu b (lu b (lu b (lv (rv_pick_t (v := .bool true) rfl b rfl) (mv rfl (lu rfl (lu rfl (lu rfl (lu rfl ?_)))))))))
   refine lv (rv_pick_t (v := .bool true) rfl rfl rfl) (wl_nil ?_)
   cases oi B
   exact qd ⟨au, rfl, A, ((k.le.trans m.le).trans o.le)⟩
  refine lg b (rv_move rfl) (lg b (rv_move rfl) ?_)
  obtain ⟨a8, aw, ax⟩ := ob B
  refine wl_call (wg rfl rfl b) rfl (rt_call (vs := [.int .i64 p4_df, .int .i64 1, .int .i64 p3_docs]) co58 rfl) ((ok_impl_within F) A.enter0 ae (by decide : rng64 1) T aw) ?_
  rintro a9 ba ⟨ay, rfl, C⟩
  refine ⟨_, rfl, ?_⟩
  have D := (A.c0 C).t1
  refine lg b (rv_not rfl) (lv (rv_pick_f rfl b rfl) (mv rfl (bt ax (fun d G => ?_) (fun d G => ?_))))
  ·refine lu d (lu d (lu d (lu d (lv (rv_pick_t (v := .bool true) rfl d rfl) (wl_nil ?_)))))
   cases oi G
   exact qd ⟨ay, rfl, D, (((k.le.trans m.le).trans o.le).trans C.le)⟩
  refine lg d (rv_move rfl) (lg d (rv_move rfl) ?_)
  obtain ⟨bb, az, aA⟩ := ob G
  refine wl_call (wg rfl rfl d) rfl (rt_call (vs := [.int .i64 p2_total, .int .i64 p1_long, .int .i64 1280]) co58 rfl) ((ok_impl_within F) D.enter0 ad S (by decide : rng64 1280) az) ?_
  rintro bc bd ⟨aB, rfl, V⟩
  refine ⟨_, rfl, ?_⟩
  have aC := (D.c0 V).t1
  refine lg d (rv_not rfl) (lv (rv_pick_f rfl d rfl) (wl_nil ?_))
  cases oi aA
  exact qd ⟨aB, rfl, aC, ((((k.le.trans m.le).trans o.le).trans C.le).trans V.le)⟩
 rintro _ be ⟨H, rfl, aD, bf⟩
 refine qe_seq (wcc ai rfl (fun aE I => ?_) (fun aE I => ?_))
 ·refine sr ?_
  cases I
 refine wc_skip (qr (lv (rv_assign (v := .int .i64 0) rfl) (ns ?_)))
 obtain ⟨W, aF, aG⟩ := ob I
 refine wc_cutg (IW w K [] H [(0, .int .i64 p0_tf), (1, .int .i64 p1_long), (2, .int .i64 p2_total), (3, .int .i64 p3_docs), (10, pt i), (12, .int .i64 W)] [obj i [.int .i64 0, .int .i64 0] 73] (rng64 W)) ?_ ?_
 ·refine wc_block ?_
  obtain ⟨bg, aH, aI⟩ := ob aF
  refine qw (fun (J : Int) => IW w K [] H [(0, .int .i64 p0_tf), (1, .int .i64 p1_long), (2, .int .i64 p2_total), (3, .int .i64 p3_docs), (4, .int .i64 p4_df), (10, pt i), (12, .int .i64 J)] [obj i [.int .i64 0, .int .i64 0] 73] (rng64 J)) aH ⟨H, rfl, aD, kr, (by decide : rng64 0)⟩ ?_
  rintro J _ bh bi aJ aK ⟨X, rfl, Y, aa, aL⟩
  refine wc_seq (sr (mv rfl (mv rfl (lv (rv_add rfl rfl) ?_))))
  obtain ⟨bj, aM, aN⟩ := ob aJ
  refine lv (rv_shl rfl rfl aM) (mv rfl (lv (rv_leq rfl rfl) (nq (wcc aN rfl (fun aO O => ?_) (fun aO O => ?_)))))
  ·refine wc_skip (qe_seq (wc_block (wc_region (mv rfl (lv (rv_add rfl rfl) (av rfl (nb ?_)))))))
   cases oi O
   exact qd ⟨_, rfl, X, rfl, Y, aa, (w64_rng _)⟩
  refine wc_exit (qe_then_exit (qe_then_exit ?_))
  cases oi O
  cases aK _ rfl
  refine qe_block_eq ?_
  cases oi aI
  exact qd ⟨X, rfl, Y, aa, aL⟩
 rintro _ bk ⟨bl, rfl, ab, bm, bn⟩
 refine qr (mv rfl (lv (rv_mul rfl rfl) (mv rfl (lv (rv_add rfl rfl) (lv (rv_mul rfl rfl) (mv rfl (lv (rv_mul rfl rfl) (lv (rv_add rfl rfl) (mv rfl ?_)))))))))
 refine lv (rv_mul rfl rfl) (mv rfl (lv (rv_mul rfl rfl) (mv rfl ?_)))
 obtain ⟨bo, aP, aQ⟩ := ob aG
 refine lv (rv_quo rfl rfl aP) (lv (rv_add rfl rfl) ?_)
 obtain ⟨l, aR, aS⟩ := ob aQ
 refine lk co97 ((ok_impl_RatOf F) ab.enter0 (w64_rng _) (w64_rng _) aR) ?_
 rintro bp bq ⟨aT, rfl, aU, aV, aW⟩
 have aX := (ab.c0 aU).t1
 refine lv (rv_extract rfl rfl) (lv (rv_extract rfl rfl) (ls [.int .i64 l.1.Up, .int .i64 l.1.Down] (.agg #[.int .i64 l.1.Up, .int .i64 l.1.Down]) tf73 aX fun br ac => (av rfl (nq (wc_ret ?_)))))
 cases oi aS
 exact qe_ret (vs := [_, _]) results40 ⟨⟨_, _, rfl, run_loadVar_at tf73 (cs := [.int .i64 l.1.Up, .int .i64 l.1.Down]) (fun j c e => by rw [Nat.zero_add, ac.mem_obj m0]; exact e) (.inl ⟨rfl, rfl, rfl⟩)⟩, rfl, trivial⟩ ⟨aT, rfl, ac.s, aV, aW⟩

theorem ok_impl_RatFloor {p0_r : GRat} {p1_times : Int} {r : Int} (hS : SH w K [] w K []) (x : rng64 p0_r.Up) (y : rng64 p0_r.Down) (A : rng64 p1_times) (hm : M.impl_RatFloor F p0_r p1_times = some r) :
  Calls prog 41 #[.agg #[.int .i64 p0_r.Up, .int .i64 p0_r.Down], .int .i64 p1_times] w fun e w' => ∃ K', e = .returned (.int .i64 r) ∧ SH w K [] w' K' [] ∧ rng64 r := by
 rw [M.impl_RatFloor] at hm
 refine ci func41 rfl ntmps41 (sr (bx rfl hS fun c w5 B => ?_))
 have d : SH _ _ _ _ _ [obj c [.int .i64 p0_r.Up, .int .i64 p0_r.Down] 73] := B
 refine lv (rv_assign (v := .int .i64 0) rfl) (ns (wc_seq ?_))
 obtain ⟨C, D, G⟩ := ob hm
 refine wc_cutg (IV w K [] K [(1, .int .i64 p1_times), (2, pt c), (13, .bool C)] [obj c [.int .i64 p0_r.Up, .int .i64 p0_r.Down] 73]) ?_ ?_
 ·refine wc_region (lv (rv_loadmS (ds := [.int .i64 p0_r.Up, .int .i64 p0_r.Down]) tf73 rfl m0 d rfl rfl) ?_)
  obtain ⟨ab, H, I⟩ := ob D
  refine lk co98 ((ok_impl_RatOk F) d.enter0 x y H) ?_
  rintro ac ad ⟨J, rfl, f⟩
  have i := (d.c0 f).t1
  refine lv (rv_not rfl) (mv rfl (bt I (fun a k => ?_) (fun a k => ?_)))
  ·refine lu a (lu a (lu a (lv (rv_pick_t (v := .bool true) rfl a rfl) (wl_nil ?_))))
   cases oi k
   exact qd ⟨J, rfl, i, f.le⟩
  refine lg a (rv_move rfl) ?_
  obtain ⟨ae, O, R⟩ := ob k
  refine wl_call (wg rfl rfl a) rfl (rt_call (vs := [.int .i64 p1_times, .int .i64 1, .int .i64 1000]) co58 rfl) ((ok_impl_within F) i.enter0 A (by decide : rng64 1) (by decide : rng64 1000) O) ?_
  rintro af ag ⟨S, rfl, q⟩
  refine ⟨_, rfl, ?_⟩
  have T := (i.c0 q).t1
  refine lg a (rv_not rfl) (lv (rv_pick_f rfl a rfl) (wl_nil ?_))
  cases oi R
  exact qd ⟨S, rfl, T, (f.le.trans q.le)⟩
 rintro _ ah ⟨l, rfl, b, ai⟩
 refine qe_seq (wcc G rfl (fun U m => ?_) (fun U m => ?_))
 ·refine sr (lv (rv_assign (v := .int .i64 0) rfl) (nq (rr ?_)))
  cases oi m
  exact ey results41 ⟨l, rfl, b.s, (by decide : rng64 0)⟩
 refine wc_skip (qr (fa ff73_0 rfl (lv (rv_loadm1 tf3 rfl m0 b rfl) (mv rfl (lv (rv_mul rfl rfl) (av rfl (nsr (mv rfl (lv (rv_geq rfl rfl) ?_)))))))))
 refine nq (wcc m rfl (fun V o => ?_) (fun V o => ?_))
 ·refine sr (mv rfl (fa ff73_1 rfl (lv (rv_loadm1 tf3 rfl m0 b rfl) ?_)))
  obtain ⟨aj, s, W⟩ := ob o
  refine lv (rv_quo rfl rfl s) (av rfl (nq (rr ?_)))
  cases oi W
  exact ey results41 ⟨l, rfl, b.s, (rng_quo s)⟩
 refine wc_skip (qr (mv rfl (lv (rv_neg rfl) (fa ff73_1 rfl (lv (rv_loadm1 tf3 rfl m0 b rfl) (lv (rv_add rfl rfl) (lv (rv_sub rfl rfl) (fa ff73_1 rfl (lv (rv_loadm1 tf3 rfl m0 b rfl) ?_)))))))))
 obtain ⟨ak, X, Y⟩ := ob o
 refine lv (rv_quo rfl rfl X) (lv (rv_neg rfl) (av rfl (nq (wc_ret ?_))))
 cases oi Y
 exact ey results41 ⟨l, rfl, b.s, (w64_rng _)⟩

theorem ok_impl_DocField {p0_d : GDoc} {p1_name : Str} {r : Str} (hS : SH w K [] w K []) (O : rng64 p0_d.Id) (i : SliceAt tGField K A a b p0_d.Fields) (R : SliceAt tGAttr K B c d p0_d.Nums) (ay : p1_name.length ≤ maxLen) (hm : M.impl_DocField F p0_d p1_name = some r) :
  Calls prog 146 #[.agg #[.int .i64 p0_d.Id, .slice A a b, .slice B c d], sv p1_name] w fun e w' => ∃ K', e = .returned (sv r) ∧ SH w K [] w' K' [] ∧ r.length ≤ maxLen := by
 rw [M.impl_DocField] at hm
 refine ci func146 rfl ntmps146 (sr (bx rfl hS fun S az T => ?_))
 have y : SH _ _ _ _ _ [obj S [.int .i64 p0_d.Id, .slice A a b, .slice B c d] 54] := T
 refine lv (rv_assign (v := sv []) rfl) (nsr (lv (rv_loadmS (ds := [.int .i64 p0_d.Id, .slice A a b, .slice B c d]) tf54 rfl m0 y rfl rfl) ?_))
 obtain ⟨aA, U, V⟩ := ob hm
 refine lk co111 ((ok_impl_DocOk F) y.enter0 O i R U) ?_
 rintro aB aC ⟨k, rfl, l⟩
 have C := (y.c0 l).t1
 refine nq (wcc V rfl (fun W D => ?_) (fun W D => ?_))
 ·refine sr (fa ff54_1 rfl (lv (rv_loadm1 tf51 rfl m0 C rfl) (lv (rv_len (t := tGField) underlying51 rfl (i.mono l.le)) (lv (rv_move (v := .int .i64 0) rfl) (nq ?_)))))
  obtain ⟨X, Y, m⟩ := ob D
  refine wc_cutg (IE X w K [] k [] []) ?_ ?_
  ·refine wc_block ?_
   obtain ⟨aD, aa, H⟩ := ob Y
   have ab := C.sb (sd sz)
   refine qf (fun (I : Nat) (J : Unit) => IV w K [] k [(1, sv p1_name), (10, .slice A a b), (11, .int .i64 (p0_d.Fields.length : Int)), (12, .int .i64 ((I : Nat) : Int))] []) aa ⟨k, rfl, ab, kr⟩ ?_ ?_
   ·rintro I J _ ac aE hi44 ad ae ⟨o, rfl, q, s⟩
    refine sr (lv (rv_lss rfl rfl) (ns (wc_cond_t rfl (decide_eq_true (by omega)) (wc_skip (qe_seq (wc_seq (wc_block (sr ?_))))))))
    obtain ⟨f, af, ag⟩ := ob ad
    refine li underlying51 tf158 (i.mono (l.le.trans s)) af fun ah ai aF aj ak => ?_
    obtain ⟨rfl, aG, am⟩ := aj
    have an : AtK _ ah ai [sv f.Name, sv f.Text] := ak
    refine lv (rv_loadS (cs := [sv f.Name, sv f.Text]) tf158 rfl q an rfl) (al tf158 q fun ao aH ap => ?_)
    have aq : SH _ _ _ _ _ [obj ao [sv [], sv []] 158] := ap
    refine ls [sv f.Name, sv f.Text] (.agg #[sv f.Name, sv f.Text]) tf158 aq fun aI x => (nr (fa ff158_0 rfl (lv (rv_loadm1 tf9 rfl m0 x rfl) (mv rfl (lv (rv_seql rfl rfl) (nq (wcc ag rfl (fun ar G => ?_) (fun ar G => ?_))))))))
    ·refine sr (fa ff158_1 rfl (lv (rv_loadm1 tf9 rfl m0 x rfl) (av rfl (nq (wc_ret (qe_block_ret (qe_then_ret (qe_then_ret ?_))))))))
     cases oi G
     cases ae _ rfl
     refine qe_block_ret (qe_then_ret ?_)
     cases oi H
     refine qe_then_ret ?_
     cases oi m
     exact ey results146 ⟨o, rfl, x.s, am⟩
    refine wc_skip (qe_block (qg (lv (rv_add_to rfl rfl (w64_succ hi44 (SliceAt.max (i.mono l.le)))) (mv rfl (wl_nil ?_)))))
    cases oi G
    exact qd ⟨_, rfl, o, rfl, x.s, s⟩
   rintro J _ ac au ⟨o, rfl, q, s⟩
   subst au
   refine sr (lv (rv_lss rfl rfl) (ns (wc_cond_f rfl (decide_eq_false (by omega)) (wc_exit (qe_then_exit (qe_then_exit (qe_block_eq ?_)))))))
   cases oi H
   exact qe_mid' ⟨_, o, rfl, rfl, q, s⟩ trivial
  rintro _ aJ ⟨aK, aw, rfl, rfl, ax, aL⟩
  have m := elim_l m
  refine qr (lv (rv_assign (v := sv []) rfl) (nq (wc_ret ?_)))
  cases oi m
  exact ey results146 ⟨aw, rfl, ax, (by decide : ([] : Str).length ≤ maxLen)⟩
 refine wc_skip (qr (lv (rv_assign (v := sv []) rfl) (nq (wc_ret ?_))))
 cases oi D
 exact ey results146 ⟨k, rfl, C.s, (by decide : ([] : Str).length ≤ maxLen)⟩

theorem ok_impl_Seg_posts__ofGScorer1 {p0_s : GScorer} {p1_field : Str} {p2_term : Str} {r : (List GPost)} (hS : SH w K Z w K [obj g1 [.slice A a b, .slice B c d, .slice C f i, .slice D k l] 123]) (aC : SliceAt tStr K A a b p0_s.c_.Stops) (aD : SliceAt tGSyn K B c d p0_s.c_.Syns) (aE : SliceAt tGDoc K C f i p0_s.s_.Docs) (O : SliceAt tGEntry K D k l p0_s.s_.Entries) (aF : p1_field.length ≤ maxLen) (aG : p2_term.length ≤ maxLen) (hm : M.impl_Seg_posts__ofGScorer1 F p0_s p1_field p2_term = some r) :
  Calls prog 75 #[.pointer (some ⟨g1, 2, none⟩), sv p1_field, sv p2_term] w fun e w' => ∃ a_1 n_2 c_3 K', e = .returned (.slice a_1 n_2 c_3) ∧ SH w K Z w' K' [obj g1 [.slice A a b, .slice B c d, .slice C f i, .slice D k l] 123] ∧ SliceAt tGPost K' a_1 n_2 c_3 r := by
 rw [M.impl_Seg_posts__ofGScorer1] at hm
 refine ci func75 rfl ntmps75 (sr (lv (rv_assign (v := .slice none 0 0) rfl) (nsr (mv rfl (lv (rv_nilCheck rfl) (fa ff46_1 rfl (lv (rv_loadm1 tf44 rfl m0 hS rfl) (lv (rv_len (t := tGEntry) underlying44 rfl O) (lv (rv_move (v := .int .i64 0) rfl) ?_)))))))))
 refine nq ?_
 obtain ⟨ab, ac, G⟩ := ob hm
 refine wc_cutg (IE ab w K Z K [(0, .pointer (some ⟨g1, 2, none⟩))] [obj g1 [.slice A a b, .slice B c d, .slice C f i, .slice D k l] 123]) ?_ ?_
 ·refine wc_block ?_
  obtain ⟨aH, ad, W⟩ := ob ac
  refine qf (fun (R : Nat) (X : Unit) => IV w K Z K [(0, .pointer (some ⟨g1, 2, none⟩)), (1, sv p1_field), (2, sv p2_term), (12, .slice D k l), (13, .int .i64 (p0_s.s_.Entries.length : Int)), (14, .int .i64 ((R : Nat) : Int))] [obj g1 [.slice A a b, .slice B c d, .slice C f i, .slice D k l] 123]) ad ⟨K, rfl, hS, kr⟩ ?_ ?_
  ·rintro R X _ ae aI hi38 af ag ⟨y, rfl, H, I⟩
   refine sr (lv (rv_lss rfl rfl) (ns (wc_cond_t rfl (decide_eq_true (by omega)) (wc_skip (qe_seq (wc_seq (wc_block (sr ?_))))))))
   obtain ⟨o, ah, ai⟩ := ob af
   refine li underlying44 tf112 (O.mono I) ah fun aj ak aJ am an => ?_
   obtain ⟨q, s, x, rfl, aK, aL, ao⟩ := am
   have ap : AtK _ aj ak [sv o.Field, sv o.Term, .slice q s x] := an
   refine lv (rv_loadS (cs := [sv o.Field, sv o.Term, .slice q s x]) tf112 rfl H ap rfl) (al tf112 H fun S aM aq => ?_)
   have ar : SH _ _ _ _ _ [obj S [sv [], sv [], .slice none 0 0] 112, _] := aq
   refine ls [sv o.Field, sv o.Term, .slice q s x] (.agg #[sv o.Field, sv o.Term, .slice q s x]) tf112 ar fun aN J => (ns ?_)
   obtain ⟨au, aw, ax⟩ := ob ai
   refine wc_cutg (IV w K Z y [(0, .pointer (some ⟨g1, 2, none⟩)), (1, sv p1_field), (2, sv p2_term), (8, pt S), (12, .slice D k l), (13, .int .i64 (p0_s.s_.Entries.length : Int)), (14, .int .i64 ((R : Nat) : Int)), (27, .bool au)] [obj g1 [.slice A a b, .slice B c d, .slice C f i, .slice D k l] 123, obj S [sv o.Field, sv o.Term, .slice q s x] 112]) ?_ ?_
   ·refine wc_region (fa ff112_0 rfl (lv (rv_loadm1 tf9 rfl m0 J rfl) (mv rfl (lv (rv_seql rfl rfl) (mv rfl (bt aw (fun m T => ?_) (fun m T => ?_)))))))
    ·refine lg m (rv_fieldAddr ff112_1 rfl) (lg m (rv_loadm1 tf9 rfl m0 J rfl) (lg m (rv_move rfl) (lg m (rv_seql rfl rfl) (lv (rv_pick_t rfl m rfl) (wl_nil ?_)))))
     cases oi T
     exact qd ⟨y, rfl, J.f1, kr⟩
    refine lu m (lu m (lu m (lu m (lv (rv_pick_f (v := .bool false) rfl m rfl) (wl_nil ?_)))))
    cases oi T
    exact qd ⟨y, rfl, J.f1, kr⟩
   rintro _ aO ⟨Y, rfl, U, aa⟩
   refine qe_seq (wcc ax rfl (fun ay V => ?_) (fun ay V => ?_))
   ·refine sr (fa ff112_2 rfl (lv (rv_loadm1 tf57 rfl m1 U rfl) (av rfl (nq (wc_ret (qe_block_ret (qe_then_ret (qe_then_ret ?_))))))))
    cases oi V
    cases ag _ rfl
    refine qe_block_ret (qe_then_ret ?_)
    cases oi W
    refine qe_then_ret ?_
    cases oi G
    exact ey results75 ⟨q, s, x, Y, rfl, U.s, (ao.mono aa)⟩
   refine wc_skip (qe_block (qg (lv (rv_add_to rfl rfl (w64_succ hi38 (SliceAt.max O))) (mv rfl (wl_nil ?_)))))
   cases oi V
   exact qd ⟨_, rfl, Y, rfl, U.s, (I.trans aa)⟩
  rintro X _ ae az ⟨y, rfl, H, I⟩
  subst az
  refine sr (lv (rv_lss rfl rfl) (ns (wc_cond_f rfl (decide_eq_false (by omega)) (wc_exit (qe_then_exit (qe_then_exit (qe_block_eq ?_)))))))
  cases oi W
  exact qd ⟨_, y, rfl, rfl, H, I⟩
 rintro _ aP ⟨aQ, aA, rfl, rfl, aB, aR⟩
 have G := elim_l G
 refine qr (lv (rv_assign (v := .slice none 0 0) rfl) (nq (wc_ret ?_)))
 cases oi G
 exact ey results75 ⟨none, 0, 0, aA, rfl, aB, (SliceAt.nil _ _)⟩

theorem ok_impl_scorer_places {p0_x : GScorer} {p1_field : Str} {p2_term : Str} {p3_id : Int} {r : (List Int)} (hS : SH w K Z w K [obj g1 [.slice A a b, .slice B c d, .slice C f i, .slice D k l] 123]) (V : SliceAt tStr K A a b p0_x.c_.Stops) (W : SliceAt tGSyn K B c d p0_x.c_.Syns) (X : SliceAt tGDoc K C f i p0_x.s_.Docs) (Y : SliceAt tGEntry K D k l p0_x.s_.Entries) (aa : p1_field.length ≤ maxLen) (ab : p2_term.length ≤ maxLen) (aJ : rng64 p3_id) (hm : M.impl_scorer_places F p0_x p1_field p2_term p3_id = some r) :
  Calls prog 134 #[.pointer (some ⟨g1, 0, none⟩), sv p1_field, sv p2_term, .int .i64 p3_id] w fun e w' => ∃ a_1 n_2 c_3 K', e = .returned (.slice a_1 n_2 c_3) ∧ SH w K Z w' K' [obj g1 [.slice A a b, .slice B c d, .slice C f i, .slice D k l] 123] ∧ SliceAt tInt K' a_1 n_2 c_3 r := by
 rw [M.impl_scorer_places] at hm
 refine ci func134 rfl ntmps134 (sr (lv (rv_assign (v := .slice none 0 0) rfl) (nsr (mv rfl (lv (rv_nilCheck rfl) (fa ff123_1 rfl (mv rfl (mv rfl ?_))))))))
 obtain ⟨ac, ad, ae⟩ := ob hm
 refine lk co75 ((ok_impl_Seg_posts__ofGScorer1 F) hS.e1 V W X Y aa ab ad) ?_
 rintro aK aL ⟨af, ag, ah, J, rfl, ai, O⟩
 have aj := (hS.c1 ai).t1
 refine lv (rv_len (t := tGPost) underlying57 rfl O) (lv (rv_move (v := .int .i64 0) rfl) (nq ?_))
 obtain ⟨ak, am, s⟩ := ob ae
 refine wc_cutg (IE ak w K Z J [(0, pt g1)] [obj g1 [.slice A a b, .slice B c d, .slice C f i, .slice D k l] 123]) ?_ ?_
 ·refine wc_block ?_
  obtain ⟨aM, an, S⟩ := ob am
  refine qf (fun (T : Nat) (U : Unit) => IV w K Z J [(0, pt g1), (3, .int .i64 p3_id), (16, .slice af ag ah), (17, .int .i64 (ac.length : Int)), (18, .int .i64 ((T : Nat) : Int))] [obj g1 [.slice A a b, .slice B c d, .slice C f i, .slice D k l] 123]) an ⟨J, rfl, aj, kr⟩ ?_ ?_
  ·rintro T U _ ao aN hi51 ap aq ⟨x, rfl, y, G⟩
   refine sr (lv (rv_lss rfl rfl) (ns (wc_cond_t rfl (decide_eq_true (by omega)) (wc_skip (qe_seq (wc_seq (wc_block (sr ?_))))))))
   obtain ⟨H, ar, au⟩ := ob ap
   refine li underlying57 tf71 (O.mono G) ar fun aw ax aO ay az => ?_
   obtain ⟨m, o, q, rfl, aP, aA⟩ := ay
   have aB : AtK _ aw ax [.int .i64 H.Doc, .slice m o q] := az
   refine lv (rv_loadS (cs := [.int .i64 H.Doc, .slice m o q]) tf71 rfl y aB rfl) (al tf71 y fun aC aQ aD => ?_)
   have aE : SH _ _ _ _ _ [obj aC [.int .i64 0, .slice none 0 0] 71, _] := aD
   refine ls [.int .i64 H.Doc, .slice m o q] (.agg #[.int .i64 H.Doc, .slice m o q]) tf71 aE fun aR I => (nr (fa ff71_0 rfl (lv (rv_loadm1 tf3 rfl m0 I rfl) (mv rfl (lv (rv_eql rfl rfl) (nq (wcc au rfl (fun aF R => ?_) (fun aF R => ?_))))))))
   ·refine sr (fa ff71_1 rfl (lv (rv_loadm1 tf55 rfl m0 I rfl) (av rfl (nq (wc_ret (qe_block_ret (qe_then_ret (qe_then_ret ?_))))))))
    cases oi R
    cases aq _ rfl
    refine qe_block_ret (qe_then_ret ?_)
    cases oi S
    refine qe_then_ret ?_
    cases oi s
    exact ey results134 ⟨m, o, q, x, rfl, I.s, aA⟩
   refine wc_skip (qe_block (qg (lv (rv_add_to rfl rfl (w64_succ hi51 (SliceAt.max O))) (mv rfl (wl_nil ?_)))))
   cases oi R
   exact qd ⟨_, rfl, x, rfl, I.s, G⟩
  rintro U _ ao aG ⟨x, rfl, y, G⟩
  subst aG
  refine sr (lv (rv_lss rfl rfl) (ns (wc_cond_f rfl (decide_eq_false (by omega)) (wc_exit (qe_then_exit (qe_then_exit (qe_block_eq ?_)))))))
  cases oi S
  exact qd ⟨_, x, rfl, rfl, y, G⟩
 rintro _ aS ⟨aT, aH, rfl, rfl, aI, aU⟩
 have s := elim_l s
 refine qr (lv (rv_assign (v := .slice none 0 0) rfl) (nq (wc_ret ?_)))
 cases oi s
 exact ey results134 ⟨none, 0, 0, aH, rfl, aI, (SliceAt.nil _ _)⟩

theorem ok_impl_Seg_doc__ofGScorer1 {p0_s : GScorer} {p1_id : Int} {r : GDoc × Bool} (hS : SH w K Z w K [obj g1 [.slice A a b, .slice B c d, .slice C f i, .slice D k l] 123]) (aU : SliceAt tStr K A a b p0_s.c_.Stops) (aV : SliceAt tGSyn K B c d p0_s.c_.Syns) (ad : SliceAt tGDoc K C f i p0_s.s_.Docs) (aW : SliceAt tGEntry K D k l p0_s.s_.Entries) (aX : rng64 p1_id) (hm : M.impl_Seg_doc__ofGScorer1 F p0_s p1_id = some r) :
  Calls prog 76 #[.pointer (some ⟨g1, 2, none⟩), .int .i64 p1_id] w fun e w' => ∃ a_2 n_3 c_4 a_6 n_7 c_8 K', e = .returned (.tuple #[.agg #[.int .i64 r.1.Id, .slice a_2 n_3 c_4, .slice a_6 n_7 c_8], .bool r.2]) ∧ SH w K Z w' K' [obj g1 [.slice A a b, .slice B c d, .slice C f i, .slice D k l] 123] ∧ rng64 r.1.Id ∧ SliceAt tGField K' a_2 n_3 c_4 r.1.Fields ∧ SliceAt tGAttr K' a_6 n_7 c_8 r.1.Nums := by
 rw [M.impl_Seg_doc__ofGScorer1] at hm
 refine ci func76 rfl ntmps76 (sr (al tf54 hS fun X aY ax => ?_))
 have ap : SH _ _ _ _ _ [obj X [.int .i64 0, .slice none 0 0, .slice none 0 0] 54, _] := ax
 refine lv (rv_assign (v := .bool false) rfl) (nsr (mv rfl (lv (rv_nilCheck rfl) (fa ff46_0 rfl (lv (rv_loadm1 tf35 rfl m1 ap rfl) (lv (rv_len (t := tGDoc) underlying35 rfl ad) (lv (rv_move (v := .int .i64 0) rfl) (nq ?_))))))))
 obtain ⟨ay, az, Y⟩ := ob hm
 refine wc_cutg (fun E' w' => ∃ I ae af ag ah ai aj J, ay = .inl I ∧ E' = [(0, .pointer (some ⟨g1, 2, none⟩)), (4, pt X)] ∧ SH w K Z w' J [obj g1 [.slice A a b, .slice B c d, .slice C f i, .slice D k l] 123, obj X [.int .i64 I.Id, .slice ae af ag, .slice ah ai aj] 54] ∧ KLe K J ∧ rng64 I.Id ∧ SliceAt tGField J ae af ag I.Fields ∧ SliceAt tGAttr J ah ai aj I.Nums) ?_ ?_
 ·refine wc_block ?_
  obtain ⟨aZ, aA, aq⟩ := ob az
  refine qf (fun (ar : Nat) (O : GDoc) E' w' => ∃ R S T U V W m, E' = [(0, .pointer (some ⟨g1, 2, none⟩)), (1, .int .i64 p1_id), (4, pt X), (11, .slice C f i), (12, .int .i64 (p0_s.s_.Docs.length : Int)), (13, .int .i64 ((ar : Nat) : Int))] ∧ SH w K Z w' m [obj g1 [.slice A a b, .slice B c d, .slice C f i, .slice D k l] 123, obj X [.int .i64 O.Id, .slice R S T, .slice U V W] 54] ∧ KLe K m ∧ rng64 O.Id ∧ SliceAt tGField m R S T O.Fields ∧ SliceAt tGAttr m U V W O.Nums) aA ⟨none, 0, 0, none, 0, 0, K, rfl, ap.f1, kr, (by decide : rng64 0), (SliceAt.nil _ _), (SliceAt.nil _ _)⟩ ?_ ?_
  ·rintro ar O _ aB a0 hi60 aC aD ⟨R, S, T, U, V, W, m, rfl, aa, ab, ak, am, an⟩
   refine sr (lv (rv_lss rfl rfl) (ns (wc_cond_t rfl (decide_eq_true (by omega)) (wc_skip (qe_seq (wc_seq (wc_block (sr ?_))))))))
   obtain ⟨H, aE, aF⟩ := ob aC
   refine li underlying35 tf54 (ad.mono ab) aE fun aG aH a1 aI aJ => ?_
   obtain ⟨o, q, s, x, y, G, rfl, aK, aL, aM⟩ := aI
   have aN : AtK _ aG aH [.int .i64 H.Id, .slice o q s, .slice x y G] := aJ
   refine lv (rv_loadS (cs := [.int .i64 H.Id, .slice o q s, .slice x y G]) tf54 rfl aa aN rfl) (al tf54 aa fun aO a2 aP => ?_)
   have aQ : SH _ _ _ _ _ [obj aO [.int .i64 0, .slice none 0 0, .slice none 0 0] 54, _, _] := aP
   refine ls [.int .i64 H.Id, .slice o q s, .slice x y G] (.agg #[.int .i64 H.Id, .slice o q s, .slice x y G]) tf54 aQ fun a3 ac => (nr (fa ff54_0 rfl (lv (rv_loadm1 tf3 rfl m0 ac rfl) (mv rfl (lv (rv_eql rfl rfl) (nq (wcc aF rfl (fun aR ao => ?_) (fun aR ao => ?_))))))))
   ·refine sr (lv (rv_loadmS (ds := [.int .i64 H.Id, .slice o q s, .slice x y G]) tf54 rfl m0 ac rfl rfl) (ls [.int .i64 H.Id, .slice o q s, .slice x y G] (.agg #[.int .i64 H.Id, .slice o q s, .slice x y G]) tf54 ac.f2 fun a4 au => (lv (rv_assign (v := .bool true) rfl) (nq (wc_ret (qe_block_ret (qe_then_ret (qe_then_ret ?_))))))))
    cases oi ao
    cases aD _ rfl
    refine qe_block_ret (qe_then_ret ?_)
    cases oi aq
    refine qe_then_ret ?_
    cases oi Y
    exact qe_ret (vs := [_, _]) results76 ⟨⟨_, _, rfl, run_loadVar_at tf54 (cs := [.int .i64 H.Id, .slice o q s, .slice x y G]) (fun j c e => by rw [Nat.zero_add, au.mem_obj m0]; exact e) (.inl ⟨rfl, rfl, rfl⟩)⟩, rfl, trivial⟩ ⟨o, q, s, x, y, G, m, rfl, au.s, aK, aL, aM⟩
   refine wc_skip (qe_block (qg (lv (rv_add_to rfl rfl (w64_succ hi60 (SliceAt.max ad))) (mv rfl (wl_nil ?_)))))
   cases oi ao
   exact qd ⟨_, rfl, R, S, T, U, V, W, m, rfl, ac.s, ab, ak, am, an⟩
  rintro O _ aB aS ⟨R, S, T, U, V, W, m, rfl, aa, ab, ak, am, an⟩
  subst aS
  refine sr (lv (rv_lss rfl rfl) (ns (wc_cond_f rfl (decide_eq_false (by omega)) (wc_exit (qe_then_exit (qe_then_exit (qe_block_eq ?_)))))))
  cases oi aq
  exact qd ⟨_, R, S, T, U, V, W, m, rfl, rfl, aa, ab, ak, am, an⟩
 rintro _ a5 ⟨I, ae, af, ag, ah, ai, aj, J, rfl, rfl, aT, a6, a7, a8, a9⟩
 have Y := elim_l Y
 refine qr (lv (rv_build (cs := #[.int .i64 0, .slice none 0 0, .slice none 0 0]) sp54 tf54 rfl (by kernel_rfl)) (ls [.int .i64 0, .slice none 0 0, .slice none 0 0] (.agg #[.int .i64 0, .slice none 0 0, .slice none 0 0]) tf54 aT.f1 fun ba aw => (lv (rv_assign (v := .bool false) rfl) (nq (wc_ret ?_)))))
 cases oi Y
 exact qe_ret (vs := [_, _]) results76 ⟨⟨_, _, rfl, run_loadVar_at tf54 (cs := [.int .i64 0, .slice none 0 0, .slice none 0 0]) (fun j c e => by rw [Nat.zero_add, aw.mem_obj m0]; exact e) (.inl ⟨rfl, rfl, rfl⟩)⟩, rfl, trivial⟩ ⟨none, 0, 0, none, 0, 0, J, rfl, aw.s, (by decide : rng64 0), (SliceAt.nil _ _), (SliceAt.nil _ _)⟩

theorem ok_impl_Seg_long__ofGScorer1 {p0_s : GScorer} {p1_c : GConf} {p2_field : Str} {p3_id : Int} {r : Int} (hS : SH w K Z w K [obj g1 [.slice A a b, .slice B c d, .slice C f i, .slice D k l] 123]) (af : SliceAt tStr K A a b p0_s.c_.Stops) (ag : SliceAt tGSyn K B c d p0_s.c_.Syns) (ah : SliceAt tGDoc K C f i p0_s.s_.Docs) (ai : SliceAt tGEntry K D k l p0_s.s_.Entries) (aj : SliceAt tStr K G m n p1_c.Stops) (ak : SliceAt tGSyn K H o p p1_c.Syns) (am : p2_field.length ≤ maxLen) (an : rng64 p3_id) (hm : M.impl_Seg_long__ofGScorer1 F p0_s p1_c p2_field p3_id = some r) :
  Calls prog 93 #[.pointer (some ⟨g1, 2, none⟩), .agg #[.slice G m n, .slice H o p], sv p2_field, .int .i64 p3_id] w fun e w' => ∃ K', e = .returned (.int .i64 r) ∧ SH w K Z w' K' [obj g1 [.slice A a b, .slice B c d, .slice C f i, .slice D k l] 123] ∧ rng64 r := by
 rw [M.impl_Seg_long__ofGScorer1] at hm
 refine ci func93 rfl ntmps93 (sr (bx rfl hS fun X aI ao => ?_))
 have ap : SH _ _ _ _ _ [obj X [.slice G m n, .slice H o p] 26, _] := ao
 refine lv (rv_assign (v := .int .i64 0) rfl) (nr (mv rfl (mv rfl ?_)))
 obtain ⟨y, aq, ar⟩ := ob hm
 have Y := ap.f1
 refine lk co76 ((ok_impl_Seg_doc__ofGScorer1 F) Y.e1 af ag ah ai an aq) ?_
 rintro aJ aK ⟨I, J, O, R, S, T, aa, rfl, V, au, aw, ax⟩
 have ay := (Y.c1 V).t2
 refine mv rfl (lv (rv_extract rfl rfl) (lv (rv_extract rfl rfl) (al tf54 ay fun ab aL az => ?_)))
 have aA : SH _ _ _ _ _ [obj ab [.int .i64 0, .slice none 0 0, .slice none 0 0] 54, _, _] := az
 refine ls [.int .i64 y.1.Id, .slice I J O, .slice R S T] (.agg #[.int .i64 y.1.Id, .slice I J O, .slice R S T]) tf54 aA fun aM ac => (av rfl (nsr (mv rfl (lv (rv_not rfl) (nq (wcc ar rfl (fun aB W => ?_) (fun aB W => ?_)))))))
 ·refine sr (lv (rv_assign (v := .int .i64 0) rfl) (nq (rr ?_)))
  cases oi W
  exact ey results93 ⟨aa, rfl, ac.s, (by decide : rng64 0)⟩
 refine wc_skip (qs ?_)
 have q := ac.drew
 refine wh1 (fun w' => Holds aa w' ∧ HasObj X [.slice G m n, .slice H o p] w' ∧ HasObj ab [.int .i64 y.1.Id, .slice I J O, .slice R S T] w') (fun w' => True) 7 [] mixed ⟨q.hasK kr, q.hasObj m2, q.hasObj m0⟩ (fun _ => trivial) (gh (fun _ h => rh_loadmS (ds := [.slice G m n, .slice H o p]) tf26 rfl rfl rfl h.2.1) (gh (fun _ h => rh_loadmS (ds := [.int .i64 y.1.Id, .slice I J O, .slice R S T]) tf54 rfl rfl rfl h.2.2) (gt (rv_move rfl) (gn ?_))))
 obtain ⟨aN, aC, aD⟩ := ob W
 refine lk co146 ((ok_impl_DocField F) q.enter0 au aw ax am aC) ?_
 rintro aO aP ⟨aQ, rfl, s, aE⟩
 have x := (q.c0 s).t3
 refine wl_nil (qh ⟨x.hasK s.le, x.hasObj m2, x.hasObj m0⟩ (fun _ => trivial) (gn ?_))
 obtain ⟨aR, aF, aG⟩ := ob aD
 refine lk co73 ((ok_impl_TermsOf F) x.enter0 (aj.mono (V.le.trans s.le)) (ak.mono (V.le.trans s.le)) aE aF) ?_
 rintro aS aT ⟨aU, aV, aW, aH, rfl, ad, ae⟩
 have U := (x.c0 ad).t4
 refine wl_nil (qh ⟨U.hasK (s.le.trans ad.le), U.hasObj m3, U.hasObj m1⟩ (fun _ => trivial) (gt (rv_len (t := tGTerm) underlying114 rfl ae) (gt (rv_assign rfl) (gd' (qe_seq (wc_ret ?_))))))
 cases oi aG
 exact ey results93 ⟨aH, rfl, U.s, ae.rn⟩

set_option maxHeartbeats 2000000 in
theorem ok_impl_scorer_points {p0_x : GScorer} {p1_field : Str} {p2_term : Str} {p3_id : Int} {r : Int} (hS : SH w K Z w K [obj g1 [.slice A a b, .slice B c d, .slice C f i, .slice D k l] 123]) (y : SliceAt tStr K A a b p0_x.c_.Stops) (G : SliceAt tGSyn K B c d p0_x.c_.Syns) (x : SliceAt tGDoc K C f i p0_x.s_.Docs) (O : SliceAt tGEntry K D k l p0_x.s_.Entries) (R : p1_field.length ≤ maxLen) (ai : p2_term.length ≤ maxLen) (aC : rng64 p3_id) (hm : M.impl_scorer_points F p0_x p1_field p2_term p3_id = some r) :
  Calls prog 83 #[.pointer (some ⟨g1, 0, none⟩), sv p1_field, sv p2_term, .int .i64 p3_id] w fun e w' => ∃ K', e = .returned (.int .i64 r) ∧ SH w K Z w' K' [obj g1 [.slice A a b, .slice B c d, .slice C f i, .slice D k l] 123] ∧ rng64 r := by
 rw [M.impl_scorer_points] at hm
 refine ci func83 rfl ntmps83 (sr (lv (rv_assign (v := .int .i64 0) rfl) (nr (mv rfl (mv rfl (mv rfl (mv rfl ?_)))))))
 obtain ⟨cb, bg, bh⟩ := ob hm
 refine lk co134 ((ok_impl_scorer_places F) hS.e1 y G x O R ai aC bg) ?_
 rintro cc cd ⟨aY, aZ, a0, aj, rfl, m, S⟩
 have aD := (hS.c1 m).t1
 refine av rfl (nsr (mv rfl (lv (rv_len (t := tInt) underlying55 rfl S) (lv (rv_eql rfl rfl) (nq (wcc bh rfl (fun bi aE => ?_) (fun bi aE => ?_)))))))
 ·refine sr (lv (rv_assign (v := .int .i64 0) rfl) (nq (rr ?_)))
  cases oi aE
  exact ey results83 ⟨aj, rfl, aD, (by decide : rng64 0)⟩
 refine wc_skip (qr (lv (rv_assign (v := .int .i64 0) rfl) (nsr (mv rfl (lv (rv_nilCheck rfl) (fa ff123_1 rfl (fa ff46_0 rfl (lv (rv_loadm1 tf35 rfl m0 aD rfl) (lv (rv_len (t := tGDoc) underlying35 rfl (x.mono m.le)) ?_)))))))))
 refine lv (rv_move (v := .int .i64 0) rfl) (nq ?_)
 obtain ⟨a1, bj, bk⟩ := ob aE
 refine wc_cutg (IW w K Z aj [(0, pt g1), (1, sv p1_field), (2, sv p2_term), (3, .int .i64 p3_id), (9, .slice aY aZ a0), (10, .int .i64 a1)] [obj g1 [.slice A a b, .slice B c d, .slice C f i, .slice D k l] 123] (rng64 a1)) ?_ ?_
 ·refine wc_block ?_
  obtain ⟨ce, bl, bm⟩ := ob bj
  refine qF (fun (a2 : Nat) (ak : Int) => IW w K Z aj [(0, pt g1), (1, sv p1_field), (2, sv p2_term), (3, .int .i64 p3_id), (9, .slice aY aZ a0), (10, .int .i64 ak), (27, .slice C f i), (28, .int .i64 (p0_x.s_.Docs.length : Int)), (29, .int .i64 ((a2 : Nat) : Int))] [obj g1 [.slice A a b, .slice B c d, .slice C f i, .slice D k l] 123] (rng64 ak)) bl ⟨aj, rfl, aD, kr, (by decide : rng64 0)⟩ ?_ ?_
  ·rintro a2 ak _ bn cf hi54 bo ⟨aF, rfl, am, H, a3⟩
   refine sr (lv (rv_lss rfl rfl) (ns (wc_cond_t rfl (decide_eq_true (by omega)) (wc_skip (qe_seq (wc_seq (wc_block (sr ?_))))))))
   obtain ⟨U, bp, bq⟩ := ob bo
   refine li underlying35 tf54 (x.mono (m.le.trans H)) bp fun br bs cg bu bv => ?_
   obtain ⟨V, W, X, Y, aa, ab, rfl, bx, ch, cj⟩ := bu
   have bz : AtK _ br bs [.int .i64 U.Id, .slice V W X, .slice Y aa ab] := bv
   refine lv (rv_loadS (cs := [.int .i64 U.Id, .slice V W X, .slice Y aa ab]) tf54 rfl am bz rfl) (al tf54 am fun a4 ck bA => ?_)
   have bB : SH _ _ _ _ _ [obj a4 [.int .i64 0, .slice none 0 0, .slice none 0 0] 54, _] := bA
   refine ls [.int .i64 U.Id, .slice V W X, .slice Y aa ab] (.agg #[.int .i64 U.Id, .slice V W X, .slice Y aa ab]) tf54 bB fun cl bC => (nq ?_)
   have an := bC.drew
   refine wh1 (fun w' => Holds aF w' ∧ HasObj g1 [.slice A a b, .slice B c d, .slice C f i, .slice D k l] w' ∧ HasObj a4 [.int .i64 U.Id, .slice V W X, .slice Y aa ab] w') (fun w' => True) 14 [] mixed ⟨an.hasK kr, an.hasObj m1, an.hasObj m0⟩ (fun _ => trivial) (gt (rv_move rfl) (gt (rv_move rfl) (gt (rv_nilCheck rfl) (gt (rv_fieldAddr ff123_1 rfl) (gt (rv_move rfl) (gt (rv_nilCheck rfl) (gt (rv_fieldAddr ff123_0 rfl) (gh (fun _ h => rh_loadmS (ds := [.slice A a b, .slice B c d]) tf26 rfl rfl rfl h.2.1) (gt (rv_move rfl) ?_)))))))))
   refine gt (rv_fieldAddr ff54_0 rfl) (gh (fun _ h => rh_loadm1 tf3 rfl rfl h.2.2) (gn ?_))
   obtain ⟨cm, bD, bE⟩ := ob bq
   have a5 := an.f1
   refine lk co93 ((ok_impl_Seg_long__ofGScorer1 F) a5.e1 (y.mono (m.le.trans H)) (G.mono (m.le.trans H)) (x.mono (m.le.trans H)) (O.mono (m.le.trans H)) (y.mono (m.le.trans H)) (G.mono (m.le.trans H)) R bx bD) ?_
   rintro cn cp ⟨bF, rfl, aG, cq⟩
   have ao := (a5.c1 aG).t2
   refine wl_nil (qh ⟨ao.hasK aG.le, ao.hasObj m0, ao.hasObj m1⟩ (fun _ => trivial) (gt (rv_add rfl rfl) (gt (rv_assign rfl) (gd' (qe_block (qg (lv (rv_add_to rfl rfl (w64_succ hi54 (SliceAt.max (x.mono m.le)))) (mv rfl (wl_nil ?_)))))))))
   cases oi bE
   exact qd ⟨bF, rfl, ao.s, (H.trans aG.le), (w64_rng _)⟩
  rintro ak _ bn bG ⟨aF, rfl, am, H, a3⟩
  subst bG
  refine sr (lv (rv_lss rfl rfl) (ns (wc_cond_f rfl (decide_eq_false (by omega)) (wc_exit (qe_then_exit (qe_then_exit (qe_block_eq ?_)))))))
  cases oi bm
  exact qd ⟨aF, rfl, am, H, a3⟩
 rintro _ cr ⟨a6, rfl, bH, o, ap⟩
 refine qs ?_
 obtain ⟨T, bI, bJ⟩ := ob bk
 refine wc_cutg (fun E' w' => ∃ aH aI, E' = [(0, pt g1), (13, pt aH)] ∧ SH w K Z w' aI [obj aH [.int .i64 T.Up, .int .i64 T.Down] 73, obj g1 [.slice A a b, .slice B c d, .slice C f i, .slice D k l] 123] ∧ KLe a6 aI ∧ rng64 T.Up ∧ rng64 T.Down) ?_ ?_
 ·obtain ⟨ct, a7, bK⟩ := ob bI
  obtain ⟨cu, aJ, bL⟩ := ob bK
  obtain ⟨s, aq, ar⟩ := ob bL
  have ac := bH.drew
  refine wj0 (fun w' => Holds a6 w' ∧ HasObj g1 [.slice A a b, .slice B c d, .slice C f i, .slice D k l] w') (fun w' => True) 33 [] mixed ⟨ac.hasK kr, ac.hasObj m0⟩ (fun _ => trivial) (jv 0 rfl (rv_move rfl) (jv 1 rfl (rv_len (t := tInt) underlying55 rfl (S.mono o)) (jv 2 rfl (rv_move rfl) (jv 3 rfl (rv_nilCheck rfl) (jv 4 rfl (rv_fieldAddr ff123_1 rfl) (jv 5 rfl (rv_move rfl) (jv 6 rfl (rv_nilCheck rfl) (jv 7 rfl (rv_fieldAddr ff123_0 rfl) (jh 8 rfl (fun _ h => rh_loadmS (ds := [.slice A a b, .slice B c d]) tf26 rfl rfl rfl h.2) ?_)))))))))
  refine jv 9 rfl (rv_move rfl) (jv 10 rfl (rv_move rfl) (jv 12 rfl (rv_move rfl) (jv 13 rfl (rv_move rfl) (jv 14 rfl (rv_nilCheck rfl) (jv 15 rfl (rv_fieldAddr ff123_1 rfl) (jv 16 rfl (rv_fieldAddr ff46_0 rfl) (jh 17 rfl (fun _ h => rh_loadm1 tf35 rfl rfl h.2) (jv 18 rfl (rv_len (t := tGDoc) underlying35 rfl (x.mono (m.le.trans o))) (jv 19 rfl (rv_move rfl) ?_)))))))))
  refine jv 20 rfl (rv_nilCheck rfl) (jv 21 rfl (rv_fieldAddr ff123_1 rfl) (jv 22 rfl (rv_move rfl) (jv 23 rfl (rv_move rfl) (j2 11 30 rfl rfl ?_ ?_))))
  ·refine lk co93 ((ok_impl_Seg_long__ofGScorer1 F) ac.e1 (y.mono (m.le.trans o)) (G.mono (m.le.trans o)) (x.mono (m.le.trans o)) (O.mono (m.le.trans o)) (y.mono (m.le.trans o)) (G.mono (m.le.trans o)) R aC a7) ?_
   rintro cv cw ⟨cx, rfl, q, aK⟩
   have ad := (ac.c1 q).t1
   refine jn ⟨ad.hasK q.le, ad.hasObj m0⟩ (fun _ => trivial) (j2 24 30 rfl rfl ?_ ?_)
   ·refine lk co75 ((ok_impl_Seg_posts__ofGScorer1 F) ad.e1 (y.mono ((m.le.trans o).trans q.le)) (G.mono ((m.le.trans o).trans q.le)) (x.mono ((m.le.trans o).trans q.le)) (O.mono ((m.le.trans o).trans q.le)) R ai aJ) ?_
    rintro cy cz ⟨cA, cB, cC, cD, rfl, I, aL⟩
    have ae := (ad.c1 I).t1
    refine jn ⟨ae.hasK (q.le.trans I.le), ae.hasObj m0⟩ (fun _ => trivial) (jv 25 rfl (rv_len (t := tGPost) underlying57 rfl aL) (j2 26 30 rfl rfl ?_ ?_))
    ·refine lk co40 ((ok_impl_TermScore F) ae.enter0 (S.mono o).rn aK ap (x.mono (m.le.trans o)).rn aL.rn aq) ?_
     rintro cE cF ⟨bM, rfl, af, bN, bO⟩
     have aM := (ae.c0 af).t1
     refine jn ⟨aM.hasK ((q.le.trans I.le).trans af.le), aM.hasObj m0⟩ (fun _ => trivial) (jv 27 rfl (rv_move rfl) (jv 28 rfl (rv_extract rfl rfl) (jv 29 rfl (rv_extract rfl rfl) (j1 30 rfl (al tf73 aM fun a8 cG bP => ?_)))))
     have aN : SH _ _ _ _ _ [obj a8 [.int .i64 0, .int .i64 0] 73, _] := bP
     refine jn ⟨aN.hasK ((q.le.trans I.le).trans af.le), aN.hasObj m1⟩ (fun _ => trivial) (j1 31 rfl (ls [.int .i64 s.1.Up, .int .i64 s.1.Down] (.agg #[.int .i64 s.1.Up, .int .i64 s.1.Down]) tf73 aN fun cH aO => (jn ⟨aO.hasK ((q.le.trans I.le).trans af.le), aO.hasObj m1⟩ (fun _ => trivial) (jv 32 rfl (rv_assign rfl) (jd ?_)))))
     cases oi ar
     exact qd ⟨a8, bM, rfl, aO, ((q.le.trans I.le).trans af.le), bN, bO⟩
    refine al tf73 ae fun a9 cI bQ => ?_
    have au : SH _ _ _ _ _ [obj a9 [.int .i64 0, .int .i64 0] 73, _] := bQ
    refine jn ⟨au.hasK (q.le.trans I.le), au.hasObj m1⟩ (fun _ => trivial) (j1 26 rfl (lk co40 ((ok_impl_TermScore F) au.enter0 (S.mono o).rn aK ap (x.mono (m.le.trans o)).rn aL.rn aq) ?_))
    rintro cJ cK ⟨bR, rfl, aw, bS, bT⟩
    have aP := (au.c0 aw).t2
    refine jn ⟨aP.hasK ((q.le.trans I.le).trans aw.le), aP.hasObj m1⟩ (fun _ => trivial) (jv 27 rfl (rv_move rfl) (jv 28 rfl (rv_extract rfl rfl) (jv 29 rfl (rv_extract rfl rfl) (j1 31 rfl (ls [.int .i64 s.1.Up, .int .i64 s.1.Down] (.agg #[.int .i64 s.1.Up, .int .i64 s.1.Down]) tf73 aP fun cL aQ => (jn ⟨aQ.hasK ((q.le.trans I.le).trans aw.le), aQ.hasObj m1⟩ (fun _ => trivial) (jv 32 rfl (rv_assign rfl) (jd ?_))))))))
    cases oi ar
    exact qd ⟨a9, bR, rfl, aQ, ((q.le.trans I.le).trans aw.le), bS, bT⟩
   refine al tf73 ad fun ba cM bU => ?_
   have aR : SH _ _ _ _ _ [obj ba [.int .i64 0, .int .i64 0] 73, _] := bU
   refine jn ⟨aR.hasK q.le, aR.hasObj m1⟩ (fun _ => trivial) (j1 24 rfl ?_)
   have bb := aR.f1
   refine lk co75 ((ok_impl_Seg_posts__ofGScorer1 F) bb.e1 (y.mono ((m.le.trans o).trans q.le)) (G.mono ((m.le.trans o).trans q.le)) (x.mono ((m.le.trans o).trans q.le)) (O.mono ((m.le.trans o).trans q.le)) R ai aJ) ?_
   rintro cN cO ⟨cP, cQ, cR, cS, rfl, ag, bc⟩
   have ax := (bb.c1 ag).t2
   refine jn ⟨ax.hasK (q.le.trans ag.le), ax.hasObj m0⟩ (fun _ => trivial) (jv 25 rfl (rv_len (t := tGPost) underlying57 rfl bc) (j1 26 rfl (lk co40 ((ok_impl_TermScore F) ax.enter0 (S.mono o).rn aK ap (x.mono (m.le.trans o)).rn bc.rn aq) ?_)))
   rintro cT cU ⟨bV, rfl, ay, bW, bX⟩
   have aS := (ax.c0 ay).t2
   refine jn ⟨aS.hasK ((q.le.trans ag.le).trans ay.le), aS.hasObj m0⟩ (fun _ => trivial) (jv 27 rfl (rv_move rfl) (jv 28 rfl (rv_extract rfl rfl) (jv 29 rfl (rv_extract rfl rfl) (j1 31 rfl (ls [.int .i64 s.1.Up, .int .i64 s.1.Down] (.agg #[.int .i64 s.1.Up, .int .i64 s.1.Down]) tf73 aS.f1 fun cV aT => (jn ⟨aT.hasK ((q.le.trans ag.le).trans ay.le), aT.hasObj m1⟩ (fun _ => trivial) (jv 32 rfl (rv_assign rfl) (jd ?_))))))))
   cases oi ar
   exact qd ⟨ba, bV, rfl, aT, ((q.le.trans ag.le).trans ay.le), bW, bX⟩
  refine al tf73 ac fun bd cW bY => ?_
  have aU : SH _ _ _ _ _ [obj bd [.int .i64 0, .int .i64 0] 73, _] := bY
  refine jn ⟨aU.hasK kr, aU.hasObj m1⟩ (fun _ => trivial) (j1 11 rfl ?_)
  have be := aU.f1
  refine lk co93 ((ok_impl_Seg_long__ofGScorer1 F) be.e1 (y.mono (m.le.trans o)) (G.mono (m.le.trans o)) (x.mono (m.le.trans o)) (O.mono (m.le.trans o)) (y.mono (m.le.trans o)) (G.mono (m.le.trans o)) R aC a7) ?_
  rintro cX cY ⟨cZ, rfl, J, bZ⟩
  have az := (be.c1 J).t2
  refine jn ⟨az.hasK J.le, az.hasObj m0⟩ (fun _ => trivial) (j1 24 rfl (lk co75 ((ok_impl_Seg_posts__ofGScorer1 F) az.e1 (y.mono ((m.le.trans o).trans J.le)) (G.mono ((m.le.trans o).trans J.le)) (x.mono ((m.le.trans o).trans J.le)) (O.mono ((m.le.trans o).trans J.le)) R ai aJ) ?_))
  rintro c0 c1 ⟨c2, c3, c4, c5, rfl, ah, bf⟩
  have aA := (az.c1 ah).t2
  refine jn ⟨aA.hasK (J.le.trans ah.le), aA.hasObj m0⟩ (fun _ => trivial) (jv 25 rfl (rv_len (t := tGPost) underlying57 rfl bf) (j1 26 rfl (lk co40 ((ok_impl_TermScore F) aA.enter0 (S.mono o).rn bZ ap (x.mono (m.le.trans o)).rn bf.rn aq) ?_)))
  rintro c6 c7 ⟨b0, rfl, aB, b1, b2⟩
  have aV := (aA.c0 aB).t2
  refine jn ⟨aV.hasK ((J.le.trans ah.le).trans aB.le), aV.hasObj m0⟩ (fun _ => trivial) (jv 27 rfl (rv_move rfl) (jv 28 rfl (rv_extract rfl rfl) (jv 29 rfl (rv_extract rfl rfl) (j1 31 rfl (ls [.int .i64 s.1.Up, .int .i64 s.1.Down] (.agg #[.int .i64 s.1.Up, .int .i64 s.1.Down]) tf73 aV.f1 fun c8 aW => (jn ⟨aW.hasK ((J.le.trans ah.le).trans aB.le), aW.hasObj m1⟩ (fun _ => trivial) (jv 32 rfl (rv_assign rfl) (jd ?_))))))))
  cases oi ar
  exact qd ⟨bd, b0, rfl, aW, ((J.le.trans ah.le).trans aB.le), b1, b2⟩
 rintro _ c9 ⟨aH, aI, rfl, aX, da, b3, b4⟩
 refine qr (lv (rv_loadmS (ds := [.int .i64 T.Up, .int .i64 T.Down]) tf73 rfl m0 aX rfl rfl) ?_)
 obtain ⟨db, b5, b6⟩ := ob bJ
 refine lk co41 ((ok_impl_RatFloor F) aX.enter0 b3 b4 (by decide : rng64 1000) b5) ?_
 rintro dc dd ⟨b7, rfl, b8, b9⟩
 have ca := (aX.c0 b8).t2
 refine av rfl (nq (wc_ret ?_))
 cases oi b6
 exact ey results83 ⟨b7, rfl, ca.s, b9⟩

theorem ok_impl_listsOk {p0_lists : List (List Int)} {r : Bool} (hS : SH w K [] w K []) (d : SliceAt (tSlice tInt) K A a b p0_lists) (hm : M.impl_listsOk F p0_lists = some r) :
  Calls prog 258 #[.slice A a b] w fun e w' => ∃ K', e = .returned (.bool r) ∧ SH w K [] w' K' [] := by
 rw [M.impl_listsOk] at hm
 refine ci func258 rfl ntmps258 (sr (lv (rv_assign (v := .bool false) rfl) (nsr (mv rfl (lv (rv_len (t := (tSlice tInt)) underlying211 rfl d) (lv (rv_move (v := .int .i64 0) rfl) (nq ?_)))))))
 obtain ⟨B, C, f⟩ := ob hm
 refine wc_cutg (IE B w K [] K [(0, .slice A a b)] []) ?_ ?_
 ·refine wc_block ?_
  obtain ⟨ai, D, l⟩ := ob C
  refine qf (fun (m : Nat) (o : Unit) => IV w K [] K [(0, .slice A a b), (5, .slice A a b), (6, .int .i64 (p0_lists.length : Int)), (7, .int .i64 ((m : Nat) : Int))] []) D ⟨K, rfl, hS, kr⟩ ?_ ?_
  ·rintro m o _ G aj hi23 H I ⟨q, rfl, c, i⟩
   refine sr (lv (rv_lss rfl rfl) (ns (wc_cond_t rfl (decide_eq_true (by omega)) (wc_skip (qe_seq (wc_seq (wc_block (sr ?_))))))))
   obtain ⟨ak, J, O⟩ := ob H
   refine li underlying211 tf55 (d.mono i) J fun R S al T U => ?_
   obtain ⟨V, W, X, rfl, Y⟩ := T
   have aa : AtK _ R S [.slice V W X] := U
   refine lv (rv_load1 tf55 rfl c (aa 0 _ rfl)) (av rfl (nr (mv rfl ?_)))
   obtain ⟨am, ab, ac⟩ := ob O
   refine lk co109 ((ok_impl_UpOk F) c.enter0 Y ab) ?_
   rintro an ao ⟨s, rfl, x⟩
   have y := (c.c0 x).t0
   refine lv (rv_not rfl) (nq (wcc ac rfl (fun ad k => ?_) (fun ad k => ?_)))
   ·refine sr (lv (rv_assign (v := .bool false) rfl) (nq (wc_ret (qe_block_ret (qe_then_ret (qe_then_ret ?_))))))
    cases oi k
    cases I _ rfl
    refine qe_block_ret (qe_then_ret ?_)
    cases oi l
    refine qe_then_ret ?_
    cases oi f
    exact ey results258 ⟨s, rfl, y⟩
   refine wc_skip (qe_block (qg (lv (rv_add_to rfl rfl (w64_succ hi23 (SliceAt.max d))) (mv rfl (wl_nil ?_)))))
   cases oi k
   exact qd ⟨_, rfl, s, rfl, y, (i.trans x.le)⟩
  rintro o _ G ae ⟨q, rfl, c, i⟩
  subst ae
  refine sr (lv (rv_lss rfl rfl) (ns (wc_cond_f rfl (decide_eq_false (by omega)) (wc_exit (qe_then_exit (qe_then_exit (qe_block_eq ?_)))))))
  cases oi l
  exact qd ⟨_, q, rfl, rfl, c, i⟩
 rintro _ ap ⟨s8, K9, rfl, rfl, ag, ah⟩
 have f := elim_l f
 refine qr (mv rfl (lv (rv_len (t := (tSlice tInt)) underlying211 rfl (d.mono ah)) (lv (rv_leq rfl rfl) (av rfl (nq (wc_ret ?_))))))
 cases oi f
 exact ey results258 ⟨K9, rfl, ag⟩

theorem ok_impl_placesOk {p0_lists : List (List Int)} {r : Bool} (hS : SH w K [] w K []) (f : SliceAt (tSlice tInt) K A a b p0_lists) (hm : M.impl_placesOk F p0_lists = some r) :
  Calls prog 227 #[.slice A a b] w fun e w' => ∃ K', e = .returned (.bool r) ∧ SH w K [] w' K' [] := by
 rw [M.impl_placesOk] at hm
 refine ci func227 rfl ntmps227 (sr (lv (rv_assign (v := .bool false) rfl) (nr (mv rfl (lv (rv_len (t := (tSlice tInt)) underlying211 rfl f) (lv (rv_gtr rfl rfl) (mv rfl (bt hm (fun c d => ?_) (fun c d => ?_)))))))))
 ·refine lg c (rv_move rfl) ?_
  obtain ⟨q, i, k⟩ := ob d
  refine wl_call (wg rfl rfl c) rfl (rt_call (vs := [.slice A a b]) co258 rfl) ((ok_impl_listsOk F) hS.enter0 f i) ?_
  rintro s x ⟨l, rfl, m⟩
  refine ⟨_, rfl, ?_⟩
  have o := (hS.c0 m).t0
  refine lv (rv_pick_t rfl c rfl) (av rfl (nq (wc_ret ?_)))
  cases oi k
  exact ey results227 ⟨l, rfl, o⟩
 refine lu c (lu c (lv (rv_pick_f (v := .bool false) rfl c rfl) (av rfl (nq (wc_ret ?_)))))
 cases oi d
 exact ey results227 ⟨K, rfl, hS⟩

theorem ok_cmp_Less_int {p0_x : Int} {p1_y : Int} {r : Bool} (hS : SH w K [] w K []) (l : rng64 p0_x) (m : rng64 p1_y) (hm : M.cmp_Less_int F p0_x p1_y = some r) :
  Calls prog 269 #[.int .i64 p0_x, .int .i64 p1_y] w fun e w' => ∃ K', e = .returned (.bool r) ∧ SH w K [] w' K' [] := by
 rw [M.cmp_Less_int] at hm
 refine ci func269 rfl ntmps269 (sr (lv (rv_assign (v := .bool false) rfl) (nr (mv rfl ?_))))
 obtain ⟨C, o, q⟩ := ob hm
 refine lk co164 ((ok_cmp_isNaN_int F) hS.enter0 l o) ?_
 rintro D G ⟨s, rfl, x⟩
 have c := (hS.c0 x).t0
 refine mv rfl (bt q (fun a d => ?_) (fun a d => ?_))
 ·refine lg a (rv_move rfl) ?_
  obtain ⟨H, y, A⟩ := ob d
  refine wl_call (wg rfl rfl a) rfl (rt_call (vs := [.int .i64 p1_y]) co164 rfl) ((ok_cmp_isNaN_int F) c.enter0 m y) ?_
  rintro I J ⟨i, rfl, B⟩
  refine ⟨_, rfl, ?_⟩
  have k := (c.c0 B).t0
  refine lg a (rv_not rfl) (lv (rv_pick_t rfl a rfl) (mv rfl (bt A (fun b f => ?_) (fun b f => ?_))))
  ·refine lu b (lu b (lu b (lv (rv_pick_t (v := .bool true) rfl b rfl) (av rfl (nq (wc_ret ?_))))))
   cases oi f
   exact ey results269 ⟨i, rfl, k⟩
  refine lg b (rv_move rfl) (lg b (rv_move rfl) (lg b (rv_lss rfl rfl) (lv (rv_pick_f rfl b rfl) (av rfl (nq (wc_ret ?_))))))
  cases oi f
  exact ey results269 ⟨i, rfl, k⟩
 refine lu a (lu a (lu a (lv (rv_pick_f (v := .bool false) rfl a rfl) (mv rfl (lg rfl (rv_move rfl) (lg rfl (rv_move rfl) (lg rfl (rv_lss rfl rfl) (lv (rv_pick_f rfl rfl rfl) (av rfl ?_)))))))))
 refine nq (wc_ret ?_)
 cases oi d
 exact ey results269 ⟨s, rfl, c⟩

theorem ok_slices_isNaN_int {p0_x : Int} {r : Bool} (hS : SH w K [] w K []) (a : rng64 p0_x) (hm : M.slices_isNaN_int F p0_x = some r) :
  Calls prog 270 #[.int .i64 p0_x] w fun e w' => ∃ K', e = .returned (.bool r) ∧ SH w K [] w' K' [] := by
 rw [M.slices_isNaN_int] at hm
 refine ci func270 rfl ntmps270 (sr (lv (rv_assign (v := .bool false) rfl) (nr (mv rfl (mv rfl (lv (rv_neq rfl rfl) (av rfl (nq (wc_ret ?_)))))))))
 cases oi hm
 exact ey results270 ⟨K, rfl, hS⟩
end Go.Proofs.YtmkhlppjphodfaaGreatDoor
