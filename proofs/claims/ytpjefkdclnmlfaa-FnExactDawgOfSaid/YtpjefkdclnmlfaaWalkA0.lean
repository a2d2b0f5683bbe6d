/-
 Walks of the functions. Printed by gen.py.
-/
import Derived.Test.YtpjefkdclnmlfaaFacts
set_option linter.unusedVariables false
set_option linter.unusedSectionVars false
set_option maxRecDepth 100000
namespace Go.Proofs.Ytpjefkdclnmlfaa
set_option maxHeartbeats 4000000
open Go Go.Fk Go.RowKit Try
variable (F:Nat){w:World}{K:KMap}{Z:List Nat}{g1 g2 g3:Nat}{A B C D G H I J O R S T:Option Addr}{a b c d f i k l m n o p q s v x y aa ab ac ad ae af ag:Nat}
variable [dr:Dr]

theorem ok_laws_szStringS {q0:List Str}{q1:Int}{r:Int}(hS:SH w K [] w K [])(m:SliceAt tStr K A a b q0)(ad:rng64 q1)(hm:M.laws_szStringS F q0 q1=some r):
  Calls prog 5 #[V3 A a b,V6 q1] w (R_i w K r):=by
 rw [M.laws_szStringS] at hm
 refine ci func5 u ntmps5 (sr (lv (r_0 u) (nr (mv u (mv u (lv (rv_len underlying22 u m) (lv (rv_sub u u) (av u (nsr ?_)))))))))
 refine mv u (lv (rv_lss u u) (nq (wc_cond u (fun o=>?_) (fun o=>?_))))
 ·have q:=cond_t o hm
  refine sr (lv (rv_assign (v:=V6 (-1)) u) (nq (rr ?_)))
  cases oi q
  exact ey results5 ⟨K,u,hS,(by decide :rng64 (-1))⟩
 have q:=cond_f o hm
 refine wc_skip (qs (sr (lv (r_0 u) (nq ?_))))
 obtain⟨D,G,d⟩:=ob q
 refine wc_cutg (fun E' w'=>∃f i,D= .inl f∧E'=[(1,V6 f)]∧SH w K [] w' i []∧KLe K i∧rng64 f) ?_ ?_
 ·refine wc_block ?_
  obtain⟨ae,H,B⟩:=ob G
  refine qw (fun (c:Int×Int)=>IW w K [] K [(0,V3 A a b),(1,V6 c.1),(5,V6 c.2)] [] (rng64 c.1∧rng64 c.2)) H ⟨K,u,hS,kr,(w64_rng _),d_0⟩ ?_
  rintro c _ af ag I C ⟨s,rfl,k,l,J,ah⟩
  refine wc_seq (sr (mv u (mv u (lv (rv_len underlying22 u (m.mono l)) (lv (rv_lss u u) (nq (wcc I u (fun O x=>?_) (fun O x=>?_))))))))
  ·refine wc_skip (qs (wc_block (sr (mv u (mv u (mv u ?_))))))
   obtain⟨R,S,T⟩:=ob x
   refine li underlying22 tf9 (m.mono l) S fun U V ai W X=>?_
   obtain⟨rfl,aj⟩:=W
   have Y:AtK _ U V [sv R]:=X
   refine lv (rv_load1 tf9 u k (Y 0 _ u)) (lv (rv_slen underlying9 u) (lv (rv_sub u u) (av u (nr (mv u (lv (rv_lss u u) (nq (wcc T u (fun aa y=>?_) (fun aa y=>?_)))))))))
   ·refine sr (lv (rv_assign (v:=V6 (-1)) u) (nq (wc_ret (qe_block_ret (qe_then_ret (qe_then_ret ?_))))))
    cases oi y
    cases C _ u
    refine qe_block_ret (qe_then_ret ?_)
    cases oi B
    refine qe_then_ret ?_
    cases oi d
    exact ey results5 ⟨s,u,k,(by decide :rng64 (-1))⟩
   refine wc_skip (qe_block (qe_seq (wc_region (mv u (lv (rv_add u u) (av u (wl_nil ?_)))))))
   cases oi y
   exact qd ⟨_,u,s,u,k,l,(w64_rng _),(w64_rng _)⟩
  refine wc_exit (qe_then_exit (qe_then_exit ?_))
  cases oi x
  cases C _ u
  refine qe_block_eq ?_
  cases oi B
  exact qd ⟨_,s,u,u,k,l,J⟩
 rintro _ ak ⟨f,i,rfl,rfl,ab,al,ac⟩
 have d:=elim_l d
 refine qr (mv u (av u (nq (wc_ret ?_))))
 cases oi d
 exact ey results5 ⟨i,u,ab,ac⟩

theorem ok_spec_l1In {q0:Int}{q1:Int}{q2:Int}{r:Bool}(hS:SH w K [] w K [])(c:rng64 q0)(d:rng64 q1)(f:rng64 q2)(hm:M.spec_l1In F q0 q1 q2=some r):
  Calls prog 31 #[V6 q0,V6 q1,V6 q2] w (R_b w K r):=by
 rw [M.spec_l1In] at hm
 refine ci func31 u ntmps31 (sr (lv (r_f u) (nr (mv u (mv u (lv (rv_geq u u) (mv u (bt hm (fun a b=>?_) (fun a b=>?_)))))))))
 ·refine lg a (rv_move u) (lg a (rv_move u) (lg a (rv_leq u u) (lv (rv_pick_t u a u) (av u (nq (wc_ret ?_))))))
  cases oi b
  exact ey results31 ⟨K,u,hS⟩
 refine lu a (lu a (lu a (lv (p_f u a u) (av u (nq (wc_ret ?_))))))
 cases oi b
 exact ey results31 ⟨K,u,hS⟩

theorem ok_spec_l1Fold {q0:UInt8}{r:UInt8}(hS:SH w K [] w K [])(hm:M.spec_l1Fold F q0=some r):
  Calls prog 56 #[iv8 q0] w fun e w'=>∃K',e= .returned (iv8 r)∧SH w K [] w' K' []:=by
 rw [M.spec_l1Fold] at hm
 refine ci func56 u ntmps56 (sr (lv (rv_assign (v:=iv8 0) u) (ns (wc_block (wc_seq ?_)))))
 obtain⟨D,G,H⟩:=ob hm
 refine wc_cutg (IV w K [] K [(0,iv8 q0),(3,.bool D)] []) ?_ ?_
 ·refine wc_region (mv u (lv (rv_bge (b:=(65:UInt8)) u u) (mv u (bt G (fun c m=>?_) (fun c m=>?_)))))
  ·refine lg c (rv_move u) (lg c (rv_ble (b:=(90:UInt8)) u u) (lv (rv_pick_t u c u) (av u (wl_nil ?_))))
   cases oi m
   exact qd ⟨K,u,hS,kr⟩
  refine lu c (lu c (lv (p_f u c u) (av u (wl_nil ?_))))
  cases oi m
  exact qd ⟨K,u,hS,kr⟩
 rintro _ T ⟨d,rfl,l,U⟩
 refine qe_seq (wcc H u (fun I o=>?_) (fun I o=>?_))
 ·refine sr (mv u (lv (rv_badd (b:=(32:UInt8)) u u) (av u (nq (wc_ret (qe_block_ret (qe_then_ret ?_)))))))
  cases oi o
  exact ey results56 ⟨d,u,l⟩
 refine wc_seq ?_
 obtain⟨J,O,R⟩:=ob o
 refine wc_cutg (IV w K [] d [(0,iv8 q0),(12,.bool J)] []) ?_ ?_
 ·refine wc_region (mv u (lv (rv_bge (b:=(97:UInt8)) u u) (mv u (bt O (fun f q=>?_) (fun f q=>?_)))))
  ·refine lg f (rv_move u) (lg f (rv_ble (b:=(122:UInt8)) u u) (lv (rv_pick_t u f u) (mv u (bt q (fun a s=>?_) (fun a s=>?_)))))
   ·refine lu a (lu a (lu a (wl_un (uu u u) u (wl_un (uu u u) u (lu a (lv (p_t u a u) (av u (wl_nil ?_))))))))
    cases oi s
    exact qd ⟨d,u,l,kr⟩
   refine lg a (rv_move u) (lg a (rv_bge (b:=(48:UInt8)) u u) (lg a (rv_move u) (bt s (fun i x=>?_) (fun i x=>?_))))
   ·refine lg i (rv_move u) (lg i (rv_ble (b:=(57:UInt8)) u u) (lg a (rv_pick_t u i u) (lv (rv_pick_f u a u) (av u (wl_nil ?_)))))
    cases oi x
    exact qd ⟨d,u,l,kr⟩
   refine lu i (lu i (lg a (p_f u i u) (lv (rv_pick_f u a u) (av u (wl_nil ?_)))))
   cases oi x
   exact qd ⟨d,u,l,kr⟩
  refine lu f (lu f (lv (p_f u f u) (mv u (lg u (rv_move u) (lg u (rv_bge (b:=(48:UInt8)) u u) (lg u (rv_move u) (bt q (fun k y=>?_) (fun k y=>?_))))))))
  ·refine lg k (rv_move u) (lg k (rv_ble (b:=(57:UInt8)) u u) (lg u (rv_pick_t u k u) (lv (rv_pick_f u u u) (av u (wl_nil ?_)))))
   cases oi y
   exact qd ⟨d,u,l,kr⟩
  refine lu k (lu k (lg u (p_f u k u) (lv (rv_pick_f u u u) (av u (wl_nil ?_)))))
  cases oi y
  exact qd ⟨d,u,l,kr⟩
 rintro _ V ⟨B,rfl,C,W⟩
 refine qe_seq (wcc R u (fun S A=>?_) (fun S A=>?_))
 ·refine sr (mv u (av u (nq (wc_ret (qe_block_ret (qe_then_ret ?_))))))
  cases oi A
  exact ey results56 ⟨B,u,C⟩
 refine wc_skip (qe_block (qr (lv (rv_assign (v:=iv8 0) u) (nq (wc_ret ?_)))))
 cases oi A
 exact ey results56 ⟨B,u,C⟩

theorem ok_spec_l1WordOk {q0:Str}{r:Bool}(hS:SH w K [] w K [])(B:q0.length≤maxLen)(hm:M.spec_l1WordOk F q0=some r):
  Calls prog 42 #[sv q0] w (R_b w K r):=by
 rw [M.spec_l1WordOk] at hm
 refine ci func42 u ntmps42 (sr (lv (r_f u) (nsr (lv (r_0 u) (nq ?_)))))
 obtain⟨C,D,c⟩:=ob hm
 refine wc_cutg (IE C w K [] K [(0,sv q0)] []) ?_ ?_
 ·refine wc_block ?_
  obtain⟨ap,G,l⟩:=ob D
  refine qw (fun (d:Int)=>IW w K [] K [(0,sv q0),(3,V6 d)] [] (rng64 d)) G ⟨K,u,hS,kr,d_0⟩ ?_
  rintro d _ aq ar H m ⟨o,rfl,q,s,au⟩
  refine wc_seq (sr (mv u (mv u (lv (rv_slen underlying9 u) (lv (rv_lss u u) (nq (wcc H u (fun I f=>?_) (fun I f=>?_))))))))
  ·refine wc_skip (qs (wc_block (wc_seq ?_)))
   obtain⟨J,O,R⟩:=ob f
   refine wc_cutg (IV w K [] o [(0,sv q0),(3,V6 d),(23,.bool J)] []) ?_ ?_
   ·refine wc_quiet mixed (by kernel_rfl) q (km u (km u ?_))
    obtain⟨aw,S,T⟩:=ob O
    refine kv (rv_sidx underlying9 u u S) ?_
    obtain⟨ax,U,V⟩:=ob T
    refine kc co56 (fun _ _ W ay=>(ok_spec_l1Fold F) W.enter0 U) (km u (km u ?_))
    obtain⟨az,X,Y⟩:=ob V
    refine kv (rv_sidx underlying9 u u X) (kv (rv_bne u u) (km u (bt Y (fun a i=>?_) (fun a i=>?_))))
    ·refine kn a (kn a (kn a (kn a (kv (p_t u a u) (wq_nil ?_)))))
     rintro aA ⟨aa,ab,ac⟩
     cases oi i
     exact qd ⟨aa,u,ab,ac⟩
    refine kg a (rv_move u) (kg a (rv_move u) ?_)
    obtain⟨aB,ad,ae⟩:=ob i
    refine kg a (rv_sidx underlying9 u u ad) (kg a (rv_beq (b:=(0:UInt8)) u u) (kv (rv_pick_f u a u) (wq_nil ?_)))
    rintro aC ⟨af,ag,ah⟩
    cases oi ae
    exact qd ⟨af,u,ag,ah⟩
   rintro _ aD ⟨x,rfl,y,ai⟩
   refine qe_seq (wcc R u (fun aj k=>?_) (fun aj k=>?_))
   ·refine sr (lv (r_f u) (nq (wc_ret (qe_block_ret (qe_then_ret (qe_then_ret ?_))))))
    cases oi k
    cases m _ u
    refine qe_block_ret (qe_then_ret ?_)
    cases oi l
    refine qe_then_ret ?_
    cases oi c
    exact ey results42 ⟨x,u,y⟩
   refine wc_skip (qe_block (qe_seq (wc_region (mv u (lv (rv_add u u) (av u (wl_nil ?_)))))))
   cases oi k
   exact qd ⟨_,u,x,u,y,(s.trans ai),(w64_rng _)⟩
  refine wc_exit (qe_then_exit (qe_then_exit ?_))
  cases oi f
  cases m _ u
  refine qe_block_eq ?_
  cases oi l
  exact qd ⟨_,o,u,u,q,s⟩
 rintro _ w9 ⟨s5,K6,rfl,rfl,A,aH⟩
 have c:=elim_l c
 refine qr (mv u (lv (rv_slen underlying9 u) ?_))
 obtain⟨aI,ak,al⟩:=ob c
 refine lk co31 (ok_spec_l1In F A.enter0 (rng_nat B) (by decide :rng64 1) (by decide :rng64 12) ak) ?_
 rintro aJ aK ⟨am,rfl,an⟩
 have ao:=(A.c0 an).t0
 refine av u (nq (wc_ret ?_))
 cases oi al
 exact ey results42 ⟨am,u,ao⟩

theorem ok_spec_l4Sorted {q0:List Str}{r:Bool}(hS:SH w K [] w K [])(i:SliceAt tStr K A a b q0)(hm:M.spec_l4Sorted F q0=some r):
  Calls prog 21 #[V3 A a b] w (R_b w K r):=by
 rw [M.spec_l4Sorted] at hm
 refine ci func21 u ntmps21 (sr (lv (r_f u) (nsr (lv (r_0 u) (nq ?_)))))
 obtain⟨H,I,k⟩:=ob hm
 refine wc_cutg (IE H w K [] K [(0,V3 A a b)] []) ?_ ?_
 ·refine wc_block ?_
  obtain⟨aP,J,x⟩:=ob I
  refine qw (fun (l:Int)=>IW w K [] K [(0,V3 A a b),(3,V6 l)] [] (rng64 l)) J ⟨K,u,hS,kr,d_0⟩ ?_
  rintro l _ aQ aR O y ⟨B,rfl,C,f,aS⟩
  refine wc_seq (sr (mv u (mv u (lv (rv_len underlying22 u (i.mono f)) (lv (rv_lss u u) (nq (wcc O u (fun R m=>?_) (fun R m=>?_))))))))
  ·refine wc_skip (qs (wc_block (wc_seq ?_)))
   obtain⟨S,T,U⟩:=ob m
   refine wc_cutg (IV w K [] B [(0,V3 A a b),(3,V6 l),(31,.bool S)] []) ?_ ?_
   ·refine wc_quiet mixed (by kernel_rfl) C (km u (km u ?_))
    obtain⟨V,W,X⟩:=ob T
    refine ki underlying22 tf9 (i.mono f) W fun Y aa aT ab ac=>?_
    obtain⟨rfl,ad⟩:=ab
    have ae:AtK _ Y aa [sv V]:=ac
    refine kh (rq_load1 tf9 u (ae 0 _ u)) ?_
    obtain⟨aU,af,ag⟩:=ob X
    refine kc co42 (fun _ _ ah aV=>(ok_spec_l1WordOk F) ah.enter0 ad af) (kv (rv_not u) (km u (bt ag (fun d o=>?_) (fun d o=>?_))))
    ·refine kn d (kn d (kn d ?_))
     iterate 10 refine ku ?_
     refine kn d (kv (p_t u d u) (wq_nil ?_))
     rintro aW ⟨ai,aj,ak⟩
     cases oi o
     exact qd ⟨ai,u,aj,ak⟩
    refine kg d (rv_move u) (kg d (rv_gtr u u) (kg d (rv_move u) (bt o (fun c q=>?_) (fun c q=>?_))))
    ·refine kg c (rv_move u) (kg c (rv_move u) ?_)
     obtain⟨al,am,an⟩:=ob q
     refine wq_indexAddr (t:=tStr) (wg u u c) u underlying22 tf9 u u (i.mono f) am fun ao ap aX aq ar=>?_
     obtain⟨rfl,aY⟩:=aq
     have au:AtK _ ao ap [sv al]:=ar
     refine kgh c (rq_load1 tf9 u (au 0 _ u)) (kg c (rv_move u) (kg c (rv_move u) (kg c (rv_sub u u) ?_)))
     obtain⟨aw,ax,ay⟩:=ob an
     refine wq_indexAddr (t:=tStr) (wg u u c) u underlying22 tf9 u u (i.mono f) ax fun az aA aZ aB aC=>?_
     obtain⟨rfl,ba⟩:=aB
     have aD:AtK _ az aA [sv aw]:=aC
     refine kgh c (rq_load1 tf9 u (aD 0 _ u)) (kg c (rv_sleq u u) (kg d (rv_pick_t u c u) (kv (rv_pick_f u d u) (wq_nil ?_))))
     rintro bb ⟨aE,aF,aG⟩
     cases oi ay
     exact qd ⟨aE,u,aF,aG⟩
    iterate 10 refine kn c ?_
    refine kg d (p_f u c u) (kv (rv_pick_f u d u) (wq_nil ?_))
    rintro bc ⟨aH,aI,aJ⟩
    cases oi q
    exact qd ⟨aH,u,aI,aJ⟩
   rintro _ bd ⟨D,rfl,G,aK⟩
   refine qe_seq (wcc U u (fun aL s=>?_) (fun aL s=>?_))
   ·refine sr (lv (r_f u) (nq (wc_ret (qe_block_ret (qe_then_ret (qe_then_ret ?_))))))
    cases oi s
    cases y _ u
    refine qe_block_ret (qe_then_ret ?_)
    cases oi x
    refine qe_then_ret ?_
    cases oi k
    exact ey results21 ⟨D,u,G⟩
   refine wc_skip (qe_block (qe_seq (wc_region (mv u (lv (rv_add u u) (av u (wl_nil ?_)))))))
   cases oi s
   exact qd ⟨_,u,D,u,G,(f.trans aK),(w64_rng _)⟩
  refine wc_exit (qe_then_exit (qe_then_exit ?_))
  cases oi m
  cases y _ u
  refine qe_block_eq ?_
  cases oi x
  exact qd ⟨_,B,u,u,C,f⟩
 rintro _ be ⟨s8,K9,rfl,rfl,aN,aO⟩
 have k:=elim_l k
 refine qr (mv u (lv (rv_len underlying22 u (i.mono aO)) (lv (rv_leq u u) (av u (nq (wc_ret ?_))))))
 cases oi k
 exact ey results21 ⟨K9,u,aN⟩

theorem ok_spec_l4Same {q0:GState}{q1:GState}{r:Bool}(hS:SH w K [] w K [])(aI:rng64 q0.Many)(C:SliceAt tGArc K A a b q0.Arcs)(aJ:rng64 q1.Many)(T:SliceAt tGArc K B c d q1.Arcs)(hm:M.spec_l4Same F q0 q1=some r):
  Calls prog 57 #[.agg #[.bool q0.Final,V6 q0.Many,V3 A a b],.agg #[.bool q1.Final,V6 q1.Many,V3 B c d]] w (R_b w K r):=by
 rw [M.spec_l4Same] at hm
 refine ci func57 u ntmps57 (sr (bx u hS fun l aK aa=>?_))
 have ab:SH _ _ _ _ _ [obj l [.bool q0.Final,V6 q0.Many,V3 A a b] 48]:=aa
 refine bx u ab fun m aL ac=>?_
 have i:SH _ _ _ _ _ [obj m [.bool q1.Final,V6 q1.Many,V3 B c d] 48,_]:=ac
 refine lv (r_f u) (ns (wc_seq ?_))
 obtain⟨ad,ae,af⟩:=ob hm
 refine wc_cutg (IV w K [] K [(2,pt l),(3,pt m),(26,.bool ad)] [obj l [.bool q0.Final,V6 q0.Many,V3 A a b] 48,obj m [.bool q1.Final,V6 q1.Many,V3 B c d] 48]) ?_ ?_
 ·refine wc_region (fl ff48_0 u tf4 m1 i u (fl ff48_0 u tf4 m0 i u (lv (rv_boolne underlying4 u u) (mv u (bt ae (fun k D=>?_) (fun k D=>?_))))))
  ·iterate 5 refine lu k ?_
   refine lv (p_t u k u) (mv u ?_)
   iterate 7 refine lu u ?_
   refine lv (p_t u u u) (wl_nil ?_)
   cases oi D
   exact qd ⟨K,u,i.f1,kr⟩
  refine lg k (rv_fieldAddr ff48_1 u) (lg k (rv_loadm1 tf3 u m1 i u) (lg k (rv_fieldAddr ff48_1 u) (lg k (rv_loadm1 tf3 u m0 i u) (lg k (rv_neq u u) (lv (rv_pick_f u k u) (mv u (bt D (fun f G=>?_) (fun f G=>?_))))))))
  ·iterate 7 refine lu f ?_
   refine lv (p_t u f u) (wl_nil ?_)
   cases oi G
   exact qd ⟨K,u,i.f1,kr⟩
  refine lg f (rv_fieldAddr ff48_2 u) (lg f (rv_loadm1 tf46 u m1 i u) (lg f (rv_len underlying46 u C) (lg f (rv_fieldAddr ff48_2 u) (lg f (rv_loadm1 tf46 u m0 i u) (lg f (rv_len underlying46 u T) (lg f (rv_neq u u) (lv (rv_pick_f u f u) (wl_nil ?_))))))))
  cases oi G
  exact qd ⟨K,u,i.f1,kr⟩
 rintro _ aM ⟨q,rfl,U,H⟩
 refine qe_seq (wcc af u (fun ag I=>?_) (fun ag I=>?_))
 ·refine sr (lv (r_f u) (nq (rr ?_)))
  cases oi I
  exact ey results57 ⟨q,u,U.s⟩
 refine wc_skip (qs (sr (lv (r_0 u) (nq ?_))))
 obtain⟨ah,ai,s⟩:=ob I
 refine wc_cutg (IE ah w K [] q [] []) ?_ ?_
 ·refine wc_block ?_
  obtain⟨aN,aj,V⟩:=ob ai
  refine qw (fun (J:Int)=>IW w K [] q [(2,pt l),(3,pt m),(5,V6 J)] [obj l [.bool q0.Final,V6 q0.Many,V3 A a b] 48,obj m [.bool q1.Final,V6 q1.Many,V3 B c d] 48] (rng64 J)) aj ⟨q,u,U,kr,d_0⟩ ?_
  rintro J _ aO aP ak W ⟨al,rfl,O,o,aQ⟩
  refine wc_seq (sr (mv u (fl ff48_2 u tf46 m0 O u (lv (rv_len underlying46 u (C.mono (H.trans o))) (lv (rv_lss u u) (nq (wcc ak u (fun am R=>?_) (fun am R=>?_))))))))
  ·refine wc_skip (qs (wc_block (wc_seq (wc_quiet mixed (by kernel_rfl) O (kv (rv_fieldAddr ff48_2 u) (kh (rq_loadm1 tf46 u m0 u) (km u ?_)))))))
   obtain⟨x,an,ao⟩:=ob R
   refine ki underlying46 tf70 (C.mono (H.trans o)) an fun ap aq aR ar au=>?_
   obtain⟨rfl,aS⟩:=ar
   have aw:AtK _ ap aq [iv8 x.Byte,V6 x.To]:=au
   refine kh (rq_loadS tf70 u aw u) (kv (rv_fieldAddr ff48_2 u) (kh (rq_loadm1 tf46 u m1 u) (km u ?_)))
   obtain⟨y,ax,ay⟩:=ob ao
   refine ki underlying46 tf70 (T.mono (H.trans o)) ax fun az aA aT aB aC=>?_
   obtain⟨rfl,aU⟩:=aB
   have aD:AtK _ az aA [iv8 y.Byte,V6 y.To]:=aC
   refine kh (rq_loadS tf70 u aD u) (kv (rv_neS eqg70 u u (eqs70 x.Byte x.To y.Byte y.To)) (wq_nil ?_))
   rintro aV ⟨X,Y,aE⟩
   refine qe_seq (wcc ay u (fun aF S=>?_) (fun aF S=>?_))
   ·refine sr (lv (r_f u) (nq (wc_ret (qe_block_ret (qe_then_ret (qe_then_ret ?_))))))
    cases oi S
    cases W _ u
    refine qe_block_ret (qe_then_ret ?_)
    cases oi V
    refine qe_then_ret ?_
    cases oi s
    exact ey results57 ⟨X,u,Y.s⟩
   refine wc_skip (qe_block (qe_seq (wc_region (mv u (lv (rv_add u u) (av u (wl_nil ?_)))))))
   cases oi S
   exact qd ⟨_,u,X,u,Y,(o.trans aE),(w64_rng _)⟩
  refine wc_exit (qe_then_exit (qe_then_exit ?_))
  cases oi R
  cases W _ u
  refine qe_block_eq ?_
  cases oi V
  exact qe_mid' ⟨_,al,u,u,O.s,o⟩ trivial
 rintro _ aW ⟨aX,aG,rfl,rfl,aH,aY⟩
 have s:=elim_l s
 refine qr (lv (r_t u) (nq (wc_ret ?_)))
 cases oi s
 exact ey results57 ⟨aG,u,aH⟩

theorem ok_spec_l4Add {q0:List GState}{q1:GState}{r:(List GState)×Int}(hS:SH w K Z w K [tail (V3 A a b) 48 3])(f:SliceAt tGState K A a b q0)(y:rng64 q1.Many)(C:SliceAt tGArc K B c d q1.Arcs)(hm:M.spec_l4Add F q0 q1=some r):
  Calls prog 43 #[V3 A a b,.agg #[.bool q1.Final,V6 q1.Many,V3 B c d]] w fun e w'=>∃a_1 n_2 c_3 K',e= .returned (.tuple #[V3 a_1 n_2 c_3,V6 r.2])∧SH w K Z w' K' [tail (V3 a_1 n_2 c_3) 48 3]∧SliceAt tGState K' a_1 n_2 c_3 r.1∧rng64 r.2:=by
 rw [M.spec_l4Add] at hm
 refine ci func43 u ntmps43 (sr (bx u hS fun k aI V=>?_))
 have W:SH _ _ _ _ _ [obj k [.bool q1.Final,V6 q1.Many,V3 B c d] 48,_]:=V
 refine lv (r_n u) (lv (r_0 u) (nsr (lv (r_0 u) (nq ?_))))
 obtain⟨X,Y,l⟩:=ob hm
 refine wc_cutg (IE X w K Z K [(0,V3 A a b),(3,pt k)] [obj k [.bool q1.Final,V6 q1.Many,V3 B c d] 48,tail (V3 A a b) 48 3]) ?_ ?_
 ·refine wc_block ?_
  obtain⟨aJ,aa,D⟩:=ob Y
  refine qw (fun (o:Int)=>IW w K Z K [(0,V3 A a b),(3,pt k),(6,V6 o)] [obj k [.bool q1.Final,V6 q1.Many,V3 B c d] 48,tail (V3 A a b) 48 3] (rng64 o)) aa ⟨K,u,W,kr,d_0⟩ ?_
  rintro o _ aK aL ab G ⟨ac,rfl,H,i,ad⟩
  refine wc_seq (sr (mv u (mv u (lv (rv_len underlying24 u (f.mono i)) (lv (rv_lss u u) (nq (wcc ab u (fun ae q=>?_) (fun ae q=>?_))))))))
  ·refine wc_skip (qs (wc_block (wc_seq (wc_quiet mixed (by kernel_rfl) H (km u (km u ?_))))))
   obtain⟨I,af,ag⟩:=ob q
   refine ki underlying24 tf48 (f.mono i) af fun ah ai aM aj ak=>?_
   obtain⟨al,am,an,rfl,ao,ap⟩:=aj
   have aq:AtK _ ah ai [.bool I.Final,V6 I.Many,V3 al am an]:=ak
   refine kh (rq_loadS tf48 u aq u) (kh (rq_loadmS (ds:=[.bool q1.Final,V6 q1.Many,V3 B c d]) tf48 u m0 u u) ?_)
   obtain⟨aN,ar,au⟩:=ob ag
   refine kc co57 (fun _ _ aw J=>(ok_spec_l4Same F) aw.enter0 ao (ap.mono J) y (C.mono (i.trans J)) ar) (wq_nil ?_)
   rintro aO ⟨O,R,S⟩
   refine qe_seq (wcc au u (fun ax s=>?_) (fun ax s=>?_))
   ·refine sr (mv u (mv u (av u (av u (nq (wc_ret (qe_block_ret (qe_then_ret (qe_then_ret ?_)))))))))
    cases oi s
    cases G _ u
    refine qe_block_ret (qe_then_ret ?_)
    cases oi D
    refine qe_then_ret ?_
    cases oi l
    exact qe_ret (vs:=[_,_]) results43 ⟨u,u,trivial⟩ ⟨A,a,b,O,u,R.s,(f.mono (i.trans S)),ad⟩
   refine wc_skip (qe_block (qe_seq (wc_region (mv u (lv (rv_add u u) (av u (wl_nil ?_)))))))
   cases oi s
   exact qd ⟨_,u,O,u,R,(i.trans S),(w64_rng _)⟩
  refine wc_exit (qe_then_exit (qe_then_exit ?_))
  cases oi q
  cases G _ u
  refine qe_block_eq ?_
  cases oi D
  exact qd ⟨_,ac,u,u,H,i⟩
 rintro _ aP ⟨aQ,aR,rfl,rfl,T,m⟩
 have l:=elim_l l
 refine qr (mv u (lv (rv_loadmS (ds:=[.bool q1.Final,V6 q1.Many,V3 B c d]) tf48 u m0 T u u) (lb tGState (.agg #[.bool q1.Final,V6 q1.Many,V3 B c d]) [.bool q1.Final,V6 q1.Many,V3 B c d] q1 underlying24 tf48 ⟨B,c,d,u,y,(C.mono m)⟩ T fun aS aT aU x ay az=>?_)))
 obtain⟨aV,aA,aB⟩:=ob l
 refine lp underlying24 tf48 (f.mono (m.trans x)) ay aA az.f2 fun aC aD aE aW aF U aG aH=>(mv u (lv (rv_len underlying24 u (f.mono ((m.trans x).trans U))) (av u (av u (nq (wc_ret ?_))))))
 cases oi aB
 exact qe_ret (vs:=[_,_]) results43 ⟨u,u,trivial⟩ ⟨aC,aD,aE,aF,u,aH.s,aG,(rng_nat (SliceAt.max (f.mono ((m.trans x).trans U))))⟩

theorem ok_spec_l4Build (F:Nat): ∀{w:World} {K:KMap} {a:Option Addr} {b c:Nat} {O:Option Addr} {R S:Nat} {q0:List GState} {q1:List Str} {q2:Int} {r:(List GState)×Int} (hS:SH w K (List.flatMap Item.gs [tail (V3 a b c) 48 3]) w K [tail (V3 a b c) 48 3]) (aH:SliceAt tGState K a b c q0) (A:SliceAt tStr K O R S q1) (aV:rng64 q2) (hm:M.spec_l4Build F q0 q1 q2=some r),
  Calls prog 22 #[V3 a b c,V3 O R S,V6 q2] w fun e w'=>∃a_1 n_2 c_3 K',e= .returned (.tuple #[V3 a_1 n_2 c_3,V6 r.2])∧SH w K (List.flatMap Item.gs [tail (V3 a b c) 48 3]) w' K' [tail (V3 a_1 n_2 c_3) 48 3]∧SliceAt tGState K' a_1 n_2 c_3 r.1∧rng64 r.2:=by
 induction F with
 | zero=>intros;rename_i hm;rw [M.spec_l4Build] at hm;cases hm
 | succ F ih=>
  intro w K a b c O R S q0 q1 q2 r hS aH A aV hm
  rw [M.spec_l4Build] at hm
  refine ci func22 u ntmps22 (sr (lv (r_n u) (lv (r_0 u) (nr (mv u (lv (rv_len underlying22 u A) (lv (rv_build (cs:=#[.bool false,V6 (q1.length:Int),V3 none 0 0]) sp48 tf48 u (by kernel_rfl)) (al tf48 hS fun d de aW=>?_))))))))
  have aX:SH _ _ _ _ _ [obj d [.bool false,V6 0,V3 none 0 0] 48,_]:=aW
  refine lw [.bool false,V6 (q1.length:Int),V3 none 0 0] tf48 aX fun df ap=>(ns (wc_seq ?_))
  obtain⟨aY,aZ,ba⟩:=ob hm
  refine wc_cutg (IV w K (List.flatMap Item.gs [tail (V3 a b c) 48 3]) K [(0,V3 a b c),(1,V3 O R S),(2,V6 q2),(8,pt d),(26,.bool aY)] [obj d [.bool false,V6 (q1.length:Int),V3 none 0 0] 48,tail (V3 none 0 0) 70 2,tail (V3 a b c) 48 3]) ?_ ?_
  ·refine wc_region (mv u (lv (rv_len underlying22 u A) (lv (rv_gtr u u) (mv u (bt aZ (fun x aq=>?_) (fun x aq=>?_))))))
   ·refine lg x (rv_move u) ?_
    obtain⟨bb,bc,bd⟩:=ob aq
    refine wl_indexAddr (t:=tStr) (wg u u x) u underlying22 tf9 u u A bc fun be bf dg bg bh=>?_
    obtain⟨rfl,dh⟩:=bg
    have bi:AtK _ be bf [sv bb]:=bh
    refine lg x (rv_load1 tf9 u ap (bi 0 _ u)) (lg x (rv_slen underlying9 u) (lg x (rv_move u) (lg x (rv_eql u u) (lv (rv_pick_t u x u) (wl_nil ?_)))))
    cases oi bd
    have bj:=ap.nil 70 2
    exact qd ⟨K,u,bj.f2.f1.f2,kr⟩
   iterate 6 refine lu x ?_
   refine lv (p_f u x u) (wl_nil ?_)
   cases oi aq
   have bk:=ap.nil 70 2
   exact qd ⟨K,u,bk.f2.f1.f2,kr⟩
  rintro _ di ⟨ar,rfl,aI,au⟩
  refine qe_seq ?_
  obtain⟨T,bl,bm⟩:=ob ba
  refine wc_cutg (fun E' w'=>∃ad ae af U V W B,E'=[(0,V3 a b c),(1,V3 ad ae af),(2,V6 q2),(8,pt d)]∧SH w K (List.flatMap Item.gs [tail (V3 a b c) 48 3]) w' B [obj d [.bool T.2.Final,V6 T.2.Many,V3 U V W] 48,tail (V3 U V W) 70 2,tail (V3 a b c) 48 3]∧KLe ar B∧SliceAt tStr B ad ae af T.1∧rng64 T.2.Many∧SliceAt tGArc B U V W T.2.Arcs) ?_ ?_
  ·refine wcc bl u (fun bn aw=>?_) (fun bn aw=>?_)
   ·refine sr (fa ff48_0 u (ls [.bool true,V6 (q1.length:Int),V3 none 0 0] (.bool true) tf4 aI fun dj bo=>(nq (wc_region (mv u ?_)))))
    obtain⟨dk,bp,bq⟩:=ob aw
    refine wl_sl_l (t:=tStr) wn u underlying22 tf9 u u (A.mono au) bp fun br bs bu bv=>(av u (wl_nil ?_))
    cases oi bq
    exact qd ⟨br,bs,bu,none,0,0,ar,u,bo,kr,bv,A.rn,(SliceAt.nil _ _)⟩
   refine wc_skip ?_
   cases oi aw
   exact qd ⟨O,R,S,none,0,0,ar,u,aI,kr,(A.mono au),A.rn,(SliceAt.nil _ _)⟩
  rintro _ dl ⟨ad,ae,af,U,V,W,B,rfl,bx,bz,bA,bB,bC⟩
  refine qs ?_
  obtain⟨C,bD,bE⟩:=ob bm
  refine wc_cutg (fun E' w'=>∃ag ah ai X Y aa ab,E'=[(0,V3 ag ah ai),(8,pt d)]∧SH w K (List.flatMap Item.gs [tail (V3 a b c) 48 3]) w' ab [obj d [.bool C.2.Final,V6 C.2.Many,V3 X Y aa] 48,tail (V3 X Y aa) 70 2,tail (V3 ag ah ai) 48 3]∧KLe B ab∧SliceAt tGState ab ag ah ai C.1∧rng64 C.2.Many∧SliceAt tGArc ab X Y aa C.2.Arcs) ?_ ?_
  ·refine wc_block ?_
   obtain⟨dm,bF,bG⟩:=ob bD
   refine qw (fun (f:(List GState)×(List Str)×GState) E' w'=>∃k l m G H I o q s y,E'=[(0,V3 k l m),(1,V3 G H I),(2,V6 q2),(8,pt d)]∧SH w K (List.flatMap Item.gs [tail (V3 a b c) 48 3]) w' y [obj d [.bool f.2.2.Final,V6 f.2.2.Many,V3 o q s] 48,tail (V3 o q s) 70 2,tail (V3 k l m) 48 3]∧KLe B y∧SliceAt tGState y k l m f.1∧SliceAt tStr y G H I f.2.1∧rng64 f.2.2.Many∧SliceAt tGArc y o q s f.2.2.Arcs) bF ⟨a,b,c,ad,ae,af,U,V,W,B,u,bx,kr,(aH.mono (au.trans bz)),bA,bB,bC⟩ ?_
   rintro f _ dn dp bH bI ⟨k,l,m,G,H,I,o,q,s,y,rfl,ax,aJ,aK,J,aL,aM⟩
   refine wc_seq (sr (mv u (lv (rv_len underlying22 u J) (lv (rv_gtr u u) (nq (wcc bH u (fun bJ ay=>?_) (fun bJ ay=>?_)))))))
   ·refine wc_skip (qe_seq (wc_block (sr (mv u ?_))))
    obtain⟨bK,bL,bM⟩:=ob ay
    refine li underlying22 tf9 J bL fun bN bO dq bP bQ=>?_
    obtain⟨rfl,dr⟩:=bP
    have bR:AtK _ bN bO [sv bK]:=bQ
    refine lv (rv_load1 tf9 u ax (bR 0 _ u)) (mv u ?_)
    obtain⟨D,bS,bT⟩:=ob bM
    refine lv (rv_sidx underlying9 u u bS) (av u (nr (lv (r_0 u) (ns ?_))))
    obtain⟨aN,bU,bV⟩:=ob bT
    refine wc_cutg (IW w K (List.flatMap Item.gs [tail (V3 a b c) 48 3]) y [(0,V3 k l m),(1,V3 G H I),(2,V6 q2),(8,pt d),(9,iv8 D),(10,V6 aN)] [obj d [.bool f.2.2.Final,V6 f.2.2.Many,V3 o q s] 48,tail (V3 o q s) 70 2,tail (V3 k l m) 48 3] (rng64 aN)) ?_ ?_
    ·refine wc_block ?_
     obtain⟨dt,bW,bX⟩:=ob bU
     refine qw (fun (aj:Int)=>IW w K (List.flatMap Item.gs [tail (V3 a b c) 48 3]) y [(0,V3 k l m),(1,V3 G H I),(2,V6 q2),(8,pt d),(9,iv8 D),(10,V6 aj)] [obj d [.bool f.2.2.Final,V6 f.2.2.Many,V3 o q s] 48,tail (V3 o q s) 70 2,tail (V3 k l m) 48 3] (rng64 aj)) bW ⟨y,u,ax,kr,d_0⟩ ?_
     rintro aj _ du dv bY bZ ⟨az,rfl,aA,ak,ca⟩
     refine wc_seq (wc_seq ?_)
     obtain⟨cb,cc,cd⟩:=ob bY
     refine wc_cutg (IV w K (List.flatMap Item.gs [tail (V3 a b c) 48 3]) az [(0,V3 k l m),(1,V3 G H I),(2,V6 q2),(8,pt d),(9,iv8 D),(10,V6 aj),(51,.bool cb)] [obj d [.bool f.2.2.Final,V6 f.2.2.Many,V3 o q s] 48,tail (V3 o q s) 70 2,tail (V3 k l m) 48 3]) ?_ ?_
     ·refine wc_region (mv u (mv u (lv (rv_len underlying22 u (J.mono ak)) (lv (rv_lss u u) (mv u (bt cc (fun i aB=>?_) (fun i aB=>?_)))))))
      ·refine lg i (rv_move u) (lg i (rv_move u) ?_)
       obtain⟨ce,cf,cg⟩:=ob aB
       refine wl_indexAddr (t:=tStr) (wg u u i) u underlying22 tf9 u u (J.mono ak) cf fun ch cj dw ck cl=>?_
       obtain⟨rfl,dx⟩:=ck
       have cm:AtK _ ch cj [sv ce]:=cl
       refine lg i (rv_load1 tf9 u aA (cm 0 _ u)) (lg i (rv_move u) ?_)
       obtain⟨dy,cn,cp⟩:=ob cg
       refine lg i (rv_sidx underlying9 u u cn) (lg i (rv_move u) (lg i (rv_beq u u) (lv (rv_pick_t u i u) (wl_nil ?_))))
       cases oi cp
       exact qd ⟨az,u,aA,kr⟩
      iterate 8 refine lu i ?_
      refine lv (p_f u i u) (wl_nil ?_)
      cases oi aB
      exact qd ⟨az,u,aA,kr⟩
     rintro _ dz ⟨aO,rfl,aP,aQ⟩
     refine qe_seq (wcc cd u (fun cq aC=>?_) (fun cq aC=>?_))
     ·refine wc_skip (qe_seq (wc_block (wc_region (mv u (lv (rv_add u u) (av u (nb ?_)))))))
      cases oi aC
      exact qd ⟨_,u,aO,u,aP,(ak.trans aQ),(w64_rng _)⟩
     refine wc_exit (qe_then_exit (qe_then_exit ?_))
     cases oi aC
     cases bZ _ u
     refine qe_block_eq ?_
     cases oi bX
     exact qd ⟨aO,u,aP,(ak.trans aQ),ca⟩
    rintro _ dA ⟨dB,rfl,cr,ac,dC⟩
    refine qr (mv u (mv u (mv u ?_)))
    obtain⟨dD,ct,cu⟩:=ob bV
    refine wl_sl_h (t:=tStr) wn u underlying22 tf9 u u (J.mono ac) ct fun dE dF dG cv=>(mv u (lv (rv_add u u) ?_))
    obtain⟨am,cw,cx⟩:=ob cu
    have aR:=cr.f2
    refine lk co22 (ih aR.e1 (aK.mono ac) cv (w64_rng _) cw) ?_
    rintro dH dI ⟨cy,cz,cA,dJ,rfl,an,cB,cC⟩
    have aS:=(aR.c1 an).t3
    refine mv u (lv (rv_extract u u) (lv (rv_extract u u) (av u (av u (nr (mv u (av u (nr (fl ff48_2 u tf46 m1 aS u ?_)))))))))
    refine mv u (mv u (lv (rv_build (cs:=#[iv8 D,V6 am.2]) sp70 tf70 u (by kernel_rfl)) (lb tGArc (.agg #[iv8 D,V6 am.2]) [iv8 D,V6 am.2] (GArc.mk D am.2) underlying46 tf70 ⟨u,cC⟩ aS fun dK dL dM ao cD cE=>?_)))
    obtain⟨dN,cF,cG⟩:=ob cx
    refine lp underlying46 tf70 (aM.mono ((ac.trans an.le).trans ao)) cD cF cE.f3 fun aD aE aF dO cH aG cI cJ=>(fa ff48_2 u (ls [.bool f.2.2.Final,V6 f.2.2.Many,V3 aD aE aF] (V3 aD aE aF) tf46 cJ.f3 fun dP cK=>(nq (wc_region (mv u (mv u ?_))))))
    obtain⟨dQ,cL,cM⟩:=ob cG
    refine wl_sl_l (t:=tStr) wn u underlying22 tf9 u u (SliceAt.mono (((ac.trans an.le).trans ao).trans aG) J) cL fun cN cO cP cQ=>(av u (nb ?_))
    cases oi cM
    exact qd ⟨_,u,cy,cz,cA,cN,cO,cP,aD,aE,aF,cH,u,cK.s,((((aJ.trans ac).trans an.le).trans ao).trans aG),(cB.mono (ao.trans aG)),cQ,aL,cI⟩
   refine wc_exit (qe_then_exit (qe_then_exit ?_))
   cases oi ay
   cases bI _ u
   refine qe_block_eq ?_
   cases oi bG
   exact qd ⟨k,l,m,o,q,s,y,u,ax,aJ,aK,aL,aM⟩
  rintro _ dR ⟨ag,ah,ai,X,Y,aa,ab,rfl,aT,dS,cR,cS,cT⟩
  refine qr (mv u (lv (rv_loadmS (ds:=[.bool C.2.Final,V6 C.2.Many,V3 X Y aa]) tf48 u m0 aT u u) ?_))
  obtain⟨dT,cU,cV⟩:=ob bE
  have aU:=aT.f2
  refine lk co43 (ok_spec_l4Add F aU.e1 cR cS cT cU) ?_
  rintro dU dV ⟨cW,cX,cY,cZ,rfl,da,db,dc⟩
  have dd:=(aU.c1 da).t3
  refine lv (rv_extract u u) (lv (rv_extract u u) (av u (av u (nq (wc_ret ?_)))))
  cases oi cV
  exact qe_ret (vs:=[_,_]) results22 ⟨u,u,trivial⟩ ⟨cW,cX,cY,cZ,u,dd.s,db,dc⟩

theorem ok_spec_DawgOf {q0:List Str}{r:(List GState)}(hS:SH w K [] w K [])(d:SliceAt tStr K A a b q0)(hm:M.spec_DawgOf F q0=some r):
  Calls prog 6 #[V3 A a b] w fun e w'=>∃a_1 n_2 c_3 K',e= .returned (V3 a_1 n_2 c_3)∧SH w K [] w' K' [tail (V3 a_1 n_2 c_3) 48 3]∧SliceAt tGState K' a_1 n_2 c_3 r:=by
 rw [M.spec_DawgOf] at hm
 refine ci func6 u ntmps6 (sr (lv (r_n u) (nsr (mv u ?_))))
 obtain⟨O,l,m⟩:=ob hm
 refine lk co21 (ok_spec_l4Sorted F hS.enter0 d l) ?_
 rintro R S ⟨o,rfl,f⟩
 have i:=(hS.c0 f).t0
 refine lv (rv_not u) (nq (wcc m u (fun q c=>?_) (fun q c=>?_)))
 ·refine sr (lv (r_n u) (nq (rr ?_)))
  cases oi c
  have s:=i.nil 48 3
  exact ey results6 ⟨none,0,0,o,u,s,(SliceAt.nil _ _)⟩
 refine wc_skip (qr (mv u ?_))
 obtain⟨T,x,y⟩:=ob c
 have k:=i.nil 48 3
 refine lk co22 (ok_spec_l4Build F k.e1 (SliceAt.nil _ _) (d.mono f.le) d_0 x) ?_
 rintro U V ⟨B,C,D,G,rfl,H,I,W⟩
 have J:=(k.c1 H).t1
 refine mv u (lv (rv_extract u u) (lv (rv_extract u u) (av u (av u (nr (mv u (av u (nq (wc_ret ?_)))))))))
 cases oi y
 exact ey results6 ⟨B,C,D,G,u,J,I⟩

theorem ok_laws_toStringS {q0:List Str}{r:(List Str)}(hS:SH w K [] w K [])(s:SliceAt tStr K A a b q0)(hm:M.laws_toStringS F q0=some r):
  Calls prog 7 #[V3 A a b] w fun e w'=>∃a_1 n_2 c_3 K',e= .returned (V3 a_1 n_2 c_3)∧SH w K [] w' K' [tail (V3 a_1 n_2 c_3) 9 1]∧SliceAt tStr K' a_1 n_2 c_3 r:=by
 rw [M.laws_toStringS] at hm
 refine ci func7 u ntmps7 (sr (lv (r_n u) (nr (mv u (lv (rv_len underlying22 u s) ?_)))))
 obtain⟨H,I,J⟩:=ob hm
 refine wl_make (t:=tStr) wn u underlying22 tf9 u u u I ⟨u,(by decide :([]:Str).length≤maxLen)⟩ hS fun k cs9 ao hmx13 hrow11 O=>?_
 obtain⟨m14,hm15⟩: ∃m,m=H.length:=⟨_,u⟩
 rw [←hm15] at hmx13
 rw [←hm15]
 refine av u (nsr (lv (r_0 u) (nq ?_)))
 obtain⟨C,R,S⟩:=ob J
 refine wc_cutg (fun E' w'=>∃cs23 l,E'=[(3,V3 (some ⟨k,0,none⟩) m14 m14)]∧SH w K [] w' l [obj k cs23 9]∧KLe K l∧RowAt true tStr l cs23 C∧m14=C.length) ?_ ?_
 ·refine wc_block ?_
  obtain⟨ap,T,U⟩:=ob R
  refine qw (fun (c:Int×(List Str)) E' w'=>∃cs36 f,E'=[(0,V3 A a b),(3,V3 (some ⟨k,0,none⟩) m14 m14),(4,V6 c.1)]∧SH w K [] w' f [obj k cs36 9]∧KLe K f∧rng64 c.1∧RowAt true tStr f cs36 c.2∧m14=c.2.length) T ⟨cs9,K,u,O,kr,d_0,hrow11,hm15⟩ ?_
  rintro c _ aq ar V W ⟨cs36,f,rfl,x,o,au,hrow37,hm38⟩
  refine wc_seq (sr (mv u (mv u (lv (rv_len underlying22 u (s.mono o)) (lv (rv_lss u u) (nq (wcc V u (fun X y=>?_) (fun X y=>?_))))))))
  ·refine wc_skip (qs (wc_block (wc_region (mv u (mv u (mv u (mv u ?_)))))))
   obtain⟨q,Y,aa⟩:=ob y
   refine li underlying22 tf9 (s.mono o) Y fun ab ac aw ad ae=>?_
   obtain⟨rfl,af⟩:=ad
   have ag:AtK _ ab ac [sv q]:=ae
   refine lv (rv_load1 tf9 u x (ag 0 _ u)) ?_
   obtain⟨ah,B,ai⟩:=ob aa
   obtain⟨ax,aj,ak⟩:=RowAt.at hrow37 B
   obtain⟨rfl,ay⟩:=aj
   have az: ∀(j:Nat) (d:Value),[sv ah][j]? =some d→cs36[c.1.toNat*tStr.size+j]? =some d:=ak
   refine lv (rv_indexRow (t:=tStr) underlying22 tf9 u u hm38 B) (wl_storeRow (t:=tStr) (v:=sv q) (e:=q) wn tf9 u u ⟨u,af⟩ x hrow37 B fun cs62 aA hrow64 al=>?_)
   have hm66:=hm38.trans (List.length_set (i:=c.1.toNat) (a:=q)).symm
   refine nb (qe_seq (wc_region (mv u (lv (rv_add u u) (av u (wl_nil ?_))))))
   cases oi ai
   exact qd ⟨_,u,cs62,f,u,al,o,(w64_rng _),hrow64,hm66⟩
  refine wc_exit (qe_then_exit (qe_then_exit ?_))
  cases oi y
  cases W _ u
  refine qe_block_eq ?_
  cases oi U
  exact qd ⟨cs36,f,u,x,o,hrow37,hm38⟩
 rintro _ aB ⟨cs23,l,rfl,am,aC,hrow24,hm25⟩
 refine qr (mv u (av u (nq (wc_ret ?_))))
 obtain⟨an,aD,D,G⟩:=SH.freeze am hrow24 (row_max hm25 hmx13)
 rw [←hm25] at D G
 cases oi S
 exact ey results7 ⟨(some ⟨k,0,none⟩),m14,m14,an,u,G,D⟩

theorem bag_laws_toStringS (F:Nat){w:World}{K:KMap}{a1:Option Addr}{n2 c3:Nat}{p0_a:List Str}{r:(List Str)}(hS:SH w K [] w K [])(hs4:SliceAt tStr K a1 n2 c3 p0_a)(hm:M.laws_toStringS F p0_a=some r):
  Calls Try.prog 7 #[.slice a1 n2 c3] w fun e w'=>∃(a_1:Option Addr) (n_2 c_3:Nat) (K':KMap) (B':List Nat),e= .returned (.slice a_1 n_2 c_3)∧SH w K [] w' K' [bag B']∧SliceAt tStr (K'.only B') a_1 n_2 c_3 r:=
 (ok_laws_toStringS F hS hs4 hm).mono fun e w' ⟨a,n,c,K',he,hS',hs'⟩=>
  let ⟨B,hB,hb⟩:=SH.bagTail hS'
  ⟨a,n,c,K',B,he,hB,SliceAt.only_flat (t:=tStr) (fun h=>h) hs' hb⟩

theorem ok_impl_within {q0:Int}{q1:Int}{q2:Int}{r:Bool}(hS:SH w K [] w K [])(c:rng64 q0)(d:rng64 q1)(f:rng64 q2)(hm:M.impl_within F q0 q1 q2=some r):
  Calls prog 53 #[V6 q0,V6 q1,V6 q2] w (R_b w K r):=by
 rw [M.impl_within] at hm
 refine ci func53 u ntmps53 (sr (lv (r_f u) (nr (mv u (mv u (lv (rv_geq u u) (mv u (bt hm (fun a b=>?_) (fun a b=>?_)))))))))
 ·refine lg a (rv_move u) (lg a (rv_move u) (lg a (rv_leq u u) (lv (rv_pick_t u a u) (av u (nq (wc_ret ?_))))))
  cases oi b
  exact ey results53 ⟨K,u,hS⟩
 refine lu a (lu a (lu a (lv (p_f u a u) (av u (nq (wc_ret ?_))))))
 cases oi b
 exact ey results53 ⟨K,u,hS⟩

theorem ok_impl_wordByte {q0:UInt8}{r:Bool}(hS:SH w K [] w K [])(hm:M.impl_wordByte F q0=some r):
  Calls prog 69 #[iv8 q0] w (R_b w K r):=by
 rw [M.impl_wordByte] at hm
 refine ci func69 u ntmps69 (sr (lv (r_f u) (nr (mv u (lv (rv_bge (b:=(97:UInt8)) u u) (mv u (bt hm (fun c i=>?_) (fun c i=>?_))))))))
 ·refine lg c (rv_move u) (lg c (rv_ble (b:=(122:UInt8)) u u) (lv (rv_pick_t u c u) (mv u (bt i (fun a k=>?_) (fun a k=>?_)))))
  ·refine lu a (lu a (lu a (wl_un (uu u u) u (wl_un (uu u u) u (lu a (lv (p_t u a u) (av u (nq (wc_ret ?_)))))))))
   cases oi k
   exact ey results69 ⟨K,u,hS⟩
  refine lg a (rv_move u) (lg a (rv_bge (b:=(48:UInt8)) u u) (lg a (rv_move u) (bt k (fun d l=>?_) (fun d l=>?_))))
  ·refine lg d (rv_move u) (lg d (rv_ble (b:=(57:UInt8)) u u) (lg a (rv_pick_t u d u) (lv (rv_pick_f u a u) (av u (nq (wc_ret ?_))))))
   cases oi l
   exact ey results69 ⟨K,u,hS⟩
  refine lu d (lu d (lg a (p_f u d u) (lv (rv_pick_f u a u) (av u (nq (wc_ret ?_))))))
  cases oi l
  exact ey results69 ⟨K,u,hS⟩
 refine lu c (lu c (lv (p_f u c u) (mv u (lg u (rv_move u) (lg u (rv_bge (b:=(48:UInt8)) u u) (lg u (rv_move u) (bt i (fun f m=>?_) (fun f m=>?_))))))))
 ·refine lg f (rv_move u) (lg f (rv_ble (b:=(57:UInt8)) u u) (lg u (rv_pick_t u f u) (lv (rv_pick_f u u u) (av u (nq (wc_ret ?_))))))
  cases oi m
  exact ey results69 ⟨K,u,hS⟩
 refine lu f (lu f (lg u (p_f u f u) (lv (rv_pick_f u u u) (av u (nq (wc_ret ?_))))))
 cases oi m
 exact ey results69 ⟨K,u,hS⟩

theorem ok_impl_WordOk {q0:Str}{r:Bool}(hS:SH w K [] w K [])(f:q0.length≤maxLen)(hm:M.impl_WordOk F q0=some r):
  Calls prog 58 #[sv q0] w (R_b w K r):=by
 rw [M.impl_WordOk] at hm
 refine ci func58 u ntmps58 (sr (lv (r_f u) (nsr (mv u (lv (rv_slen underlying9 u) (lv (r_m u) (nq ?_)))))))
 obtain⟨y,A,a⟩:=ob hm
 refine wc_cutg (IE y w K [] K [(0,sv q0)] []) ?_ ?_
 ·refine wc_block ?_
  obtain⟨Y,B,i⟩:=ob A
  refine qf (fun (k:Nat) (l:Unit)=>IV w K [] K [(0,sv q0),(5,V6 (q0.length:Int)),(6,V6 ((k:Nat):Int))] []) B ⟨K,u,hS,kr⟩ ?_ ?_
  ·rintro k l _ C aa hi21 D G ⟨m,rfl,b,c⟩
   refine sr (lv (rv_lss u u) (ns (wc_cond_t u (decide_eq_true (by omega)) (wc_skip (qe_seq (wc_seq (wc_block (sr (mv u (av u (nr (mv u ?_))))))))))))
   refine mv u ?_
   obtain⟨ab,H,I⟩:=ob D
   refine lv (rv_sidx underlying9 u u H) ?_
   obtain⟨ac,J,O⟩:=ob I
   refine lk co69 (ok_impl_wordByte F b.enter0 J) ?_
   rintro ad ae ⟨o,rfl,q⟩
   have s:=(b.c0 q).t0
   refine lv (rv_not u) (nq (wcc O u (fun R d=>?_) (fun R d=>?_)))
   ·refine sr (lv (r_f u) (nq (wc_ret (qe_block_ret (qe_then_ret (qe_then_ret ?_))))))
    cases oi d
    cases G _ u
    refine qe_block_ret (qe_then_ret ?_)
    cases oi i
    refine qe_then_ret ?_
    cases oi a
    exact ey results58 ⟨o,u,s⟩
   refine wc_skip (qe_block (qg (lv (rv_add_to u u (w64_succ hi21 f)) (mv u (wl_nil ?_)))))
   cases oi d
   exact qd ⟨_,u,o,u,s,(c.trans q.le)⟩
  rintro l _ C S ⟨m,rfl,b,c⟩
  subst S
  refine sr (lv (rv_lss u u) (ns (wc_cond_f u (decide_eq_false (by omega)) (wc_exit (qe_then_exit (qe_then_exit (qe_block_eq ?_)))))))
  cases oi i
  exact qd ⟨_,m,u,u,b,c⟩
 rintro _ w9 ⟨s5,K6,rfl,rfl,x,ai⟩
 have a:=elim_l a
 refine qr (mv u (lv (rv_slen underlying9 u) ?_))
 obtain⟨aj,T,U⟩:=ob a
 refine lk co53 (ok_impl_within F x.enter0 (rng_nat f) (by decide :rng64 1) (by decide :rng64 12) T) ?_
 rintro ak al ⟨V,rfl,W⟩
 have X:=(x.c0 W).t0
 refine av u (nq (wc_ret ?_))
 cases oi U
 exact ey results58 ⟨V,u,X⟩

theorem ok_impl_wordsAscend {q0:List Str}{r:Bool}(hS:SH w K [] w K [])(l:SliceAt tStr K A a b q0)(hm:M.impl_wordsAscend F q0=some r):
  Calls prog 44 #[V3 A a b] w (R_b w K r):=by
 rw [M.impl_wordsAscend] at hm
 refine ci func44 u ntmps44 (sr (lv (r_f u) (nsr (mv u (lv (rv_len underlying22 u l) (lv (r_m u) (nq ?_)))))))
 obtain⟨J,O,m⟩:=ob hm
 refine wc_cutg (IE J w K [] K [] []) ?_ ?_
 ·refine wc_block ?_
  obtain⟨aA,R,D⟩:=ob O
  refine qf (fun (q:Nat) (G:Unit)=>IV w K [] K [(0,V3 A a b),(5,V3 A a b),(6,V6 (q0.length:Int)),(7,V6 ((q:Nat):Int))] []) R ⟨K,u,hS,kr⟩ ?_ ?_
  ·rintro q G _ S aB hi23 T U ⟨s,rfl,f,i⟩
   refine sr (lv (rv_lss u u) (ns (wc_cond_t u (decide_eq_true (by omega)) (wc_skip (qe_seq (wc_seq (wc_block (sr (mv u ?_)))))))))
   obtain⟨V,W,X⟩:=ob T
   refine li underlying22 tf9 (l.mono i) W fun Y aa aC ab ac=>?_
   obtain⟨rfl,ad⟩:=ab
   have ae:AtK _ Y aa [sv V]:=ac
   refine lv (rv_load1 tf9 u f (ae 0 _ u)) (av u (av u (ns ?_)))
   obtain⟨af,ag,ah⟩:=ob X
   refine wc_cutg (IV w K [] s [(0,V3 A a b),(5,V3 A a b),(6,V6 (q0.length:Int)),(7,V6 ((q:Nat):Int)),(27,.bool af)] []) ?_ ?_
   ·refine wc_region (mv u ?_)
    obtain⟨aD,ai,aj⟩:=ob ag
    refine lk co58 (ok_impl_WordOk F f.enter0 ad ai) ?_
    rintro aE aF ⟨x,rfl,k⟩
    have o:=(f.c0 k).t0
    refine lv (rv_not u) (mv u (bt aj (fun c y=>?_) (fun c y=>?_)))
    ·refine lu c (lu c (lu c (wl_un (uu u u) u (wl_un (uu u u) u (wl_un (uu u u) u (wl_un (uu u u) u (wl_un (uu u u) u (wl_un (uu u u) u (wl_un (uu u u) u ?_)))))))))
     refine lu c (lv (p_t u c u) (wl_nil ?_))
     cases oi y
     exact qd ⟨x,u,o,k.le⟩
    refine lg c (rv_move u) (lg c (rv_gtr u u) (lg c (rv_move u) (bt y (fun d B=>?_) (fun d B=>?_))))
    ·refine lg d (rv_move u) (lg d (rv_move u) (lg d (rv_sub u u) ?_))
     obtain⟨ak,al,am⟩:=ob B
     refine wl_indexAddr (t:=tStr) (wg u u d) u underlying22 tf9 u u (l.mono (i.trans k.le)) al fun an ao aG ap aq=>?_
     obtain⟨rfl,aH⟩:=ap
     have ar:AtK _ an ao [sv ak]:=aq
     refine lg d (rv_load1 tf9 u o (ar 0 _ u)) (lg d (rv_move u) (lg d (rv_sgeq u u) (lg c (rv_pick_t u d u) (lv (rv_pick_f u c u) (wl_nil ?_)))))
     cases oi am
     exact qd ⟨x,u,o,k.le⟩
    iterate 7 refine lu d ?_
    refine lg c (p_f u d u) (lv (rv_pick_f u c u) (wl_nil ?_))
    cases oi B
    exact qd ⟨x,u,o,k.le⟩
   rintro _ aI ⟨H,rfl,I,au⟩
   refine qe_seq (wcc ah u (fun aw C=>?_) (fun aw C=>?_))
   ·refine sr (lv (r_f u) (nq (wc_ret (qe_block_ret (qe_then_ret (qe_then_ret ?_))))))
    cases oi C
    cases U _ u
    refine qe_block_ret (qe_then_ret ?_)
    cases oi D
    refine qe_then_ret ?_
    cases oi m
    exact ey results44 ⟨H,u,I⟩
   refine wc_skip (qe_block (qg (lv (rv_add_to u u (w64_succ hi23 (SliceAt.max l))) (mv u (wl_nil ?_)))))
   cases oi C
   exact qd ⟨_,u,H,u,I,(i.trans au)⟩
  rintro G _ S ax ⟨s,rfl,f,i⟩
  subst ax
  refine sr (lv (rv_lss u u) (ns (wc_cond_f u (decide_eq_false (by omega)) (wc_exit (qe_then_exit (qe_then_exit (qe_block_eq ?_)))))))
  cases oi D
  exact qe_mid' ⟨_,s,u,u,f,i⟩ trivial
 rintro _ aJ ⟨s8,K9,rfl,rfl,az,aL⟩
 have m:=elim_l m
 refine qr (lv (r_t u) (nq (wc_ret ?_)))
 cases oi m
 exact ey results44 ⟨K9,u,az⟩

theorem ok_impl_WordsUp {q0:List Str}{r:Bool}(hS:SH w K [] w K [])(f:SliceAt tStr K A a b q0)(hm:M.impl_WordsUp F q0=some r):
  Calls prog 23 #[V3 A a b] w (R_b w K r):=by
 rw [M.impl_WordsUp] at hm
 refine ci func23 u ntmps23 (sr (lv (r_f u) (nr (mv u (lv (rv_len underlying22 u f) (lv (rv_leq u u) (mv u (bt hm (fun c d=>?_) (fun c d=>?_)))))))))
 ·refine lg c (rv_move u) ?_
  obtain⟨q,i,k⟩:=ob d
  refine wl_call (wg u u c) u (rt_call (vs:=[V3 A a b]) co44 u) (ok_impl_wordsAscend F hS.enter0 f i) ?_
  rintro s x ⟨l,rfl,m⟩
  refine⟨_,u,?_⟩
  have o:=(hS.c0 m).t0
  refine lv (rv_pick_t u c u) (av u (nq (wc_ret ?_)))
  cases oi k
  exact ey results23 ⟨l,u,o⟩
 refine lu c (lu c (lv (p_f u c u) (av u (nq (wc_ret ?_)))))
 cases oi d
 exact ey results23 ⟨K,u,hS⟩

theorem ok_slices_Equal_Arc {q0:List GArc}{q1:List GArc}{r:Bool}(hS:SH w K [] w K [])(i:SliceAt tGArc K A a b q0)(y:SliceAt tGArc K B c d q1)(hm:M.slices_Equal_Arc F q0 q1=some r):
  Calls prog 59 #[V3 A a b,V3 B c d] w (R_b w K r):=by
 rw [M.slices_Equal_Arc] at hm
 refine ci func59 u ntmps59 (sr (lv (r_f u) (nsr (mv u (lv (rv_len underlying46 u i) (mv u (lv (rv_len underlying46 u y) (lv (rv_neq u u) (nq ?_)))))))))
 refine wc_cond u (fun o=>?_) (fun o=>?_)
 ·have q:=cond_t o hm
  refine sr (lv (r_f u) (nq (rr ?_)))
  cases oi q
  exact ey results59 ⟨K,u,hS⟩
 have q:=cond_f o hm
 refine wc_skip (qs (sr (mv u (lv (rv_len underlying46 u i) (lv (r_m u) (nq ?_))))))
 obtain⟨O,R,k⟩:=ob q
 refine wc_cutg (IE O w K [] K [] []) ?_ ?_
 ·refine wc_block ?_
  obtain⟨aq,S,C⟩:=ob R
  refine qf (fun (D:Nat) (G:Unit)=>IV w K [] K [(0,V3 A a b),(1,V3 B c d),(12,V6 (q0.length:Int)),(13,V6 ((D:Nat):Int))] []) S ⟨K,u,hS,kr⟩ ?_ ?_
  ·rintro D G _ T ar hi29 U V ⟨H,rfl,s,f⟩
   refine sr (lv (rv_lss u u) (ns (wc_cond_t u (decide_eq_true (by omega)) (wc_skip (qe_seq (wc_seq (wc_block (sr (mv u (av u (ns (wc_quiet mixed (by kernel_rfl) s ?_))))))))))))
   refine km u (km u ?_)
   obtain⟨l,W,X⟩:=ob U
   refine ki underlying46 tf70 (i.mono f) W fun Y aa au ab ac=>?_
   obtain⟨rfl,aw⟩:=ab
   have ad:AtK _ Y aa [iv8 l.Byte,V6 l.To]:=ac
   refine kh (rq_loadS tf70 u ad u) (km u (km u ?_))
   obtain⟨m,ae,af⟩:=ob X
   refine ki underlying46 tf70 (y.mono f) ae fun ag ah ax ai aj=>?_
   obtain⟨rfl,ay⟩:=ai
   have ak:AtK _ ag ah [iv8 m.Byte,V6 m.To]:=aj
   refine kh (rq_loadS tf70 u ak u) (kv (rv_neS eqg70 u u (eqs70 l.Byte l.To m.Byte m.To)) (wq_nil ?_))
   rintro az ⟨I,J,al⟩
   refine qe_seq (wcc af u (fun am x=>?_) (fun am x=>?_))
   ·refine sr (lv (r_f u) (nq (wc_ret (qe_block_ret (qe_then_ret (qe_then_ret ?_))))))
    cases oi x
    cases V _ u
    refine qe_block_ret (qe_then_ret ?_)
    cases oi C
    refine qe_then_ret ?_
    cases oi k
    exact ey results59 ⟨I,u,J⟩
   refine wc_skip (qe_block (qg (lv (rv_add_to u u (w64_succ hi29 (SliceAt.max i))) (mv u (wl_nil ?_)))))
   cases oi x
   exact qd ⟨_,u,I,u,J,(f.trans al)⟩
  rintro G _ T an ⟨H,rfl,s,f⟩
  subst an
  refine sr (lv (rv_lss u u) (ns (wc_cond_f u (decide_eq_false (by omega)) (wc_exit (qe_then_exit (qe_then_exit (qe_block_eq ?_)))))))
  cases oi C
  exact qe_mid' ⟨_,H,u,u,s,f⟩ trivial
 rintro _ aA ⟨aB,ao,rfl,rfl,ap,aC⟩
 have k:=elim_l k
 refine qr (lv (r_t u) (nq (wc_ret ?_)))
 cases oi k
 exact ey results59 ⟨ao,u,ap⟩
end Go.Proofs.Ytpjefkdclnmlfaa
