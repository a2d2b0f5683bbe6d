/-
 Walks of the functions. Printed by gen.py.
-/
import Derived.Test.YtpdfkjjmcnhakaaGreatDoorWalkA0
set_option linter.unusedVariables false
set_option linter.unusedSectionVars false
set_option maxRecDepth 100000
namespace Go.Proofs.YtpdfkjjmcnhakaaGreatDoor
set_option maxHeartbeats 4000000
open Go Go.Fk Go.RowKit Tryz
variable (F:Nat){w:World}{K:KMap}{Z:List Nat}{g1 g2 g3:Nat}{A B C D G H I J O R S T:Option Addr}{a b c d f i k l m n o p q s v x y aa ab ac ad ae af ag:Nat}
variable [dr:Dr]

theorem ok_laws_szLive {q0:GLive}{q1:Int}{r:Int}(hS:SH w K [] w K [])(y:SliceAt tGDoc K A a b q0.Seg.Docs)(D:SliceAt tGEntry K B c d q0.Seg.Entries)(G:SliceAt tInt K C f i q0.Dead)(H:rng64 q1)(hm:M.laws_szLive F q0 q1=some r):
  Calls prog 6 #[.agg #[V3 A a b,V3 B c d,V3 C f i],V6 q1] w (R_i w K r):=by
 rw [M.laws_szLive] at hm
 refine ci func6 u ntmps6 (sr (bx u hS fun I ab J=>?_))
 have l:SH _ _ _ _ _ [obj I [V3 A a b,V3 B c d,V3 C f i] 32]:=J
 refine lv (r_0 u) (nr (fa ff32_0 u (lv (rv_loadmS (ds:=[V3 A a b,V3 B c d]) tf29 u m0 l u u) (mv u ?_))))
 obtain⟨ac,O,R⟩:=ob hm
 refine lk co24 (ok_laws_szSeg F l.enter0 y D H O) ?_
 rintro ad ae ⟨S,rfl,q,T⟩
 have k:=(l.c0 q).t1
 refine av u (nsr (mv u (lv (rv_lss u u) (nq (wcc R u (fun U m=>?_) (fun U m=>?_))))))
 ·refine sr (lv (rv_assign (v:=V6 (-1)) u) (nq (rr ?_)))
  cases oi m
  exact ey results6 ⟨S,u,k.s,(by decide :rng64 (-1))⟩
 refine wc_skip (qr (fl ff32_1 u tf30 m0 k u (mv u ?_)))
 obtain⟨af,V,W⟩:=ob m
 refine lk co25 (ok_laws_szIntS F k.enter0 (G.mono q.le) T V) ?_
 rintro ag ah ⟨s,rfl,X,Y⟩
 have x:=(k.c0 X).t1
 refine av u (nsr (mv u (lv (rv_lss u u) (nq (wcc W u (fun aa o=>?_) (fun aa o=>?_))))))
 ·refine sr (lv (rv_assign (v:=V6 (-1)) u) (nq (rr ?_)))
  cases oi o
  exact ey results6 ⟨s,u,x.s,(by decide :rng64 (-1))⟩
 refine wc_skip (qr (mv u (av u (nq (wc_ret ?_)))))
 cases oi o
 exact ey results6 ⟨s,u,x.s,Y⟩

theorem ok_spec_l2Has {q0:List Str}{q1:Str}{r:Bool}(hS:SH w K [] w K [])(o:SliceAt tStr K A a b q0)(X:q1.length≤maxLen)(hm:M.spec_l2Has F q0 q1=some r):
  Calls prog 60 #[V3 A a b,sv q1] w (R_b w K r):=by
 rw [M.spec_l2Has] at hm
 refine ci func60 u ntmps60 (sr (lv (r_f u) (nsr (lv (r_0 u) (nq ?_)))))
 obtain⟨x,y,c⟩:=ob hm
 refine wc_cutg (IE x w K [] K [] []) ?_ ?_
 ·refine wc_block ?_
  obtain⟨Y,B,q⟩:=ob y
  refine qw (fun (i:Int)=>IW w K [] K [(0,V3 A a b),(1,sv q1),(5,V6 i)] [] (rng64 i)) B ⟨K,u,hS,kr,d_0⟩ ?_
  rintro i _ aa ab C s ⟨k,rfl,d,f,ac⟩
  refine wc_seq (sr (mv u (mv u (lv (rv_len underlying22 u (o.mono f)) (lv (rv_lss u u) (nq (wcc C u (fun D l=>?_) (fun D l=>?_))))))))
  ·refine wc_skip (qs (wc_block (sr (mv u (mv u ?_)))))
   obtain⟨G,H,I⟩:=ob l
   refine li underlying22 tf9 (o.mono f) H fun J O ad R S=>?_
   obtain⟨rfl,ae⟩:=R
   have T:AtK _ J O [sv G]:=S
   refine lv (rv_load1 tf9 u d (T 0 _ u)) (mv u (lv (rv_seql u u) (nq (wcc I u (fun U m=>?_) (fun U m=>?_)))))
   ·refine sr (lv (r_t u) (nq (wc_ret (qe_block_ret (qe_then_ret (qe_then_ret ?_))))))
    cases oi m
    cases s _ u
    refine qe_block_ret (qe_then_ret ?_)
    cases oi q
    refine qe_then_ret ?_
    cases oi c
    exact ey results60 ⟨k,u,d⟩
   refine wc_skip (qe_block (qe_seq (wc_region (mv u (lv (rv_add u u) (av u (wl_nil ?_)))))))
   cases oi m
   exact qd ⟨_,u,k,u,d,f,(w64_rng _)⟩
  refine wc_exit (qe_then_exit (qe_then_exit ?_))
  cases oi l
  cases s _ u
  refine qe_block_eq ?_
  cases oi q
  exact qe_mid' ⟨_,k,u,u,d,f⟩ trivial
 rintro _ af ⟨s9,V,rfl,rfl,W,ah⟩
 have c:=elim_l c
 refine qr (lv (r_f u) (nq (wc_ret ?_)))
 cases oi c
 exact ey results60 ⟨V,u,W⟩

theorem ok_spec_l1In {q0:Int}{q1:Int}{q2:Int}{r:Bool}(hS:SH w K [] w K [])(c:rng64 q0)(d:rng64 q1)(f:rng64 q2)(hm:M.spec_l1In F q0 q1 q2=some r):
  Calls prog 107 #[V6 q0,V6 q1,V6 q2] w (R_b w K r):=by
 rw [M.spec_l1In] at hm
 refine ci func107 u ntmps107 (sr (lv (r_f u) (nr (mv u (mv u (lv (rv_geq u u) (mv u (bt hm (fun a b=>?_) (fun a b=>?_)))))))))
 ·refine lg a (rv_move u) (lg a (rv_move u) (lg a (rv_leq u u) (lv (rv_pick_t u a u) (av u (nq (wc_ret ?_))))))
  cases oi b
  exact ey results107 ⟨K,u,hS⟩
 refine lu a (lu a (lu a (lv (p_f u a u) (av u (nq (wc_ret ?_))))))
 cases oi b
 exact ey results107 ⟨K,u,hS⟩

theorem ok_spec_l1Fold {q0:UInt8}{r:UInt8}(hS:SH w K [] w K [])(hm:M.spec_l1Fold F q0=some r):
  Calls prog 109 #[iv8 q0] w fun e w'=>∃K',e= .returned (iv8 r)∧SH w K [] w' K' []:=by
 rw [M.spec_l1Fold] at hm
 refine ci func109 u ntmps109 (sr (lv (rv_assign (v:=iv8 0) u) (ns (wc_block (wc_seq ?_)))))
 obtain⟨D,G,H⟩:=ob hm
 refine wc_cutg (IV w K [] K [(0,iv8 q0),(3,.bool D)] []) ?_ ?_
 ·refine wc_region (mv u (lv (rv_bge (b:=(65:UInt8)) u u) (mv u (bt G (fun c m=>?_) (fun c m=>?_)))))
  ·refine lg c (rv_move u) (lg c (rv_ble (b:=(90:UInt8)) u u) (lv (rv_pick_t u c u) (av u (wl_nil ?_))))
   cases oi m
   exact qd ⟨K,u,hS,kr⟩
  refine lu c (lu c (lv (p_f u c u) (av u (wl_nil ?_))))
  cases oi m
  exact qd ⟨K,u,hS,kr⟩
 rintro _ T ⟨d,rfl,l,U⟩
 refine qe_seq (wcc H u (fun I o=>?_) (fun I o=>?_))
 ·refine sr (mv u (lv (rv_badd (b:=(32:UInt8)) u u) (av u (nq (wc_ret (qe_block_ret (qe_then_ret ?_)))))))
  cases oi o
  exact ey results109 ⟨d,u,l⟩
 refine wc_seq ?_
 obtain⟨J,O,R⟩:=ob o
 refine wc_cutg (IV w K [] d [(0,iv8 q0),(12,.bool J)] []) ?_ ?_
 ·refine wc_region (mv u (lv (rv_bge (b:=(97:UInt8)) u u) (mv u (bt O (fun f q=>?_) (fun f q=>?_)))))
  ·refine lg f (rv_move u) (lg f (rv_ble (b:=(122:UInt8)) u u) (lv (rv_pick_t u f u) (mv u (bt q (fun a s=>?_) (fun a s=>?_)))))
   ·refine lu a (lu a (lu a (wl_un (uu u u) u (wl_un (uu u u) u (lu a (lv (p_t u a u) (av u (wl_nil ?_))))))))
    cases oi s
    exact qd ⟨d,u,l,kr⟩
   refine lg a (rv_move u) (lg a (rv_bge (b:=(48:UInt8)) u u) (lg a (rv_move u) (bt s (fun i x=>?_) (fun i x=>?_))))
   ·refine lg i (rv_move u) (lg i (rv_ble (b:=(57:UInt8)) u u) (lg a (rv_pick_t u i u) (lv (rv_pick_f u a u) (av u (wl_nil ?_)))))
    cases oi x
    exact qd ⟨d,u,l,kr⟩
   refine lu i (lu i (lg a (p_f u i u) (lv (rv_pick_f u a u) (av u (wl_nil ?_)))))
   cases oi x
   exact qd ⟨d,u,l,kr⟩
  refine lu f (lu f (lv (p_f u f u) (mv u (lg u (rv_move u) (lg u (rv_bge (b:=(48:UInt8)) u u) (lg u (rv_move u) (bt q (fun k y=>?_) (fun k y=>?_))))))))
  ·refine lg k (rv_move u) (lg k (rv_ble (b:=(57:UInt8)) u u) (lg u (rv_pick_t u k u) (lv (rv_pick_f u u u) (av u (wl_nil ?_)))))
   cases oi y
   exact qd ⟨d,u,l,kr⟩
  refine lu k (lu k (lg u (p_f u k u) (lv (rv_pick_f u u u) (av u (wl_nil ?_)))))
  cases oi y
  exact qd ⟨d,u,l,kr⟩
 rintro _ V ⟨B,rfl,C,W⟩
 refine qe_seq (wcc R u (fun S A=>?_) (fun S A=>?_))
 ·refine sr (mv u (av u (nq (wc_ret (qe_block_ret (qe_then_ret ?_))))))
  cases oi A
  exact ey results109 ⟨B,u,C⟩
 refine wc_skip (qe_block (qr (lv (rv_assign (v:=iv8 0) u) (nq (wc_ret ?_)))))
 cases oi A
 exact ey results109 ⟨B,u,C⟩

theorem ok_spec_l1WordOk {q0:Str}{r:Bool}(hS:SH w K [] w K [])(B:q0.length≤maxLen)(hm:M.spec_l1WordOk F q0=some r):
  Calls prog 105 #[sv q0] w (R_b w K r):=by
 rw [M.spec_l1WordOk] at hm
 refine ci func105 u ntmps105 (sr (lv (r_f u) (nsr (lv (r_0 u) (nq ?_)))))
 obtain⟨C,D,c⟩:=ob hm
 refine wc_cutg (IE C w K [] K [(0,sv q0)] []) ?_ ?_
 ·refine wc_block ?_
  obtain⟨ap,G,l⟩:=ob D
  refine qw (fun (d:Int)=>IW w K [] K [(0,sv q0),(3,V6 d)] [] (rng64 d)) G ⟨K,u,hS,kr,d_0⟩ ?_
  rintro d _ aq ar H m ⟨o,rfl,q,s,au⟩
  refine wc_seq (sr (mv u (mv u (lv (rv_slen underlying9 u) (lv (rv_lss u u) (nq (wcc H u (fun I f=>?_) (fun I f=>?_))))))))
  ·refine wc_skip (qs (wc_block (wc_seq ?_)))
   obtain⟨J,O,R⟩:=ob f
   refine wc_cutg (IV w K [] o [(0,sv q0),(3,V6 d),(23,.bool J)] []) ?_ ?_
   ·refine wc_quiet mixed (by kernel_rfl) q (km u (km u ?_))
    obtain⟨aw,S,T⟩:=ob O
    refine kv (rv_sidx underlying9 u u S) ?_
    obtain⟨ax,U,V⟩:=ob T
    refine kc co109 (fun _ _ W ay=>(ok_spec_l1Fold F) W.enter0 U) (km u (km u ?_))
    obtain⟨az,X,Y⟩:=ob V
    refine kv (rv_sidx underlying9 u u X) (kv (rv_bne u u) (km u (bt Y (fun a i=>?_) (fun a i=>?_))))
    ·refine kn a (kn a (kn a (kn a (kv (p_t u a u) (wq_nil ?_)))))
     rintro aA ⟨aa,ab,ac⟩
     cases oi i
     exact qd ⟨aa,u,ab,ac⟩
    refine kg a (rv_move u) (kg a (rv_move u) ?_)
    obtain⟨aB,ad,ae⟩:=ob i
    refine kg a (rv_sidx underlying9 u u ad) (kg a (rv_beq (b:=(0:UInt8)) u u) (kv (rv_pick_f u a u) (wq_nil ?_)))
    rintro aC ⟨af,ag,ah⟩
    cases oi ae
    exact qd ⟨af,u,ag,ah⟩
   rintro _ aD ⟨x,rfl,y,ai⟩
   refine qe_seq (wcc R u (fun aj k=>?_) (fun aj k=>?_))
   ·refine sr (lv (r_f u) (nq (wc_ret (qe_block_ret (qe_then_ret (qe_then_ret ?_))))))
    cases oi k
    cases m _ u
    refine qe_block_ret (qe_then_ret ?_)
    cases oi l
    refine qe_then_ret ?_
    cases oi c
    exact ey results105 ⟨x,u,y⟩
   refine wc_skip (qe_block (qe_seq (wc_region (mv u (lv (rv_add u u) (av u (wl_nil ?_)))))))
   cases oi k
   exact qd ⟨_,u,x,u,y,(s.trans ai),(w64_rng _)⟩
  refine wc_exit (qe_then_exit (qe_then_exit ?_))
  cases oi f
  cases m _ u
  refine qe_block_eq ?_
  cases oi l
  exact qd ⟨_,o,u,u,q,s⟩
 rintro _ w9 ⟨s5,K6,rfl,rfl,A,aH⟩
 have c:=elim_l c
 refine qr (mv u (lv (rv_slen underlying9 u) ?_))
 obtain⟨aI,ak,al⟩:=ob c
 refine lk co107 (ok_spec_l1In F A.enter0 (rng_nat B) (by decide :rng64 1) (by decide :rng64 12) ak) ?_
 rintro aJ aK ⟨am,rfl,an⟩
 have ao:=(A.c0 an).t0
 refine av u (nq (wc_ret ?_))
 cases oi al
 exact ey results105 ⟨am,u,ao⟩

theorem ok_spec_l2Ends {r:(List Str)}(hS:SH w K [] w K [])(hm:M.spec_l2Ends F=some r):
  Calls prog 202 #[] w fun e w'=>∃a_1 n_2 c_3 K',e= .returned (V3 a_1 n_2 c_3)∧SH w K [] w' K' [tail (V3 a_1 n_2 c_3) 9 1]∧SliceAt tStr K' a_1 n_2 c_3 r:=by
 rw [M.spec_l2Ends] at hm
 refine ci func202 u ntmps202 (sr (lv (r_n u) (nr (bw [[105,110,103],[101,100],[101,115],[108,121],[115]] underlying22 tf9 hS fun a f b i c d=>(av u (nq (wc_ret ?_)))))))
 cases oi hm
 exact ey results202 ⟨a,5,5,b,u,d,c⟩

theorem ok_spec_l2Once {q0:Str}{r:Str}(hS:SH w K [] w K [])(q:q0.length≤maxLen)(hm:M.spec_l2Once F q0=some r):
  Calls prog 160 #[sv q0] w fun e w'=>∃K',e= .returned (sv r)∧SH w K [] w' K' []∧r.length≤maxLen:=by
 rw [M.spec_l2Once] at hm
 refine ci func160 u ntmps160 (sr (lv (r_s u) (nsr (lv (r_0 u) (nq ?_)))))
 obtain⟨I,J,b⟩:=ob hm
 refine wc_cutg (IE I w K [] K [(0,sv q0)] []) ?_ ?_
 ·refine wc_block ?_
  obtain⟨au,O,s⟩:=ob J
  refine qw (fun (c:Int)=>IW w K [] K [(0,sv q0),(3,V6 c)] [] (rng64 c)) O ⟨K,u,hS,kr,d_0⟩ ?_
  rintro c _ aw ax R x ⟨ay,rfl,y,A,az⟩
  refine wc_seq (sr (mv u ?_))
  obtain⟨aA,S,T⟩:=ob R
  refine lk co202 (ok_spec_l2Ends F y.enter0 S) ?_
  rintro aB aC ⟨aD,aE,aF,U,rfl,d,V⟩
  have f:=(y.c0 d).t1
  refine lv (rv_len underlying22 u V) (lv (rv_lss u u) (nq (wcc T u (fun W i=>?_) (fun W i=>?_))))
  ·refine wc_skip (qs (wc_block (sr ?_)))
   obtain⟨aG,X,Y⟩:=ob i
   refine lk co202 (ok_spec_l2Ends F f.enter0 X) ?_
   rintro aH aI ⟨aJ,aK,aL,k,rfl,B,aa⟩
   have l:=(f.c0 B).t2
   refine mv u ?_
   obtain⟨C,ab,ac⟩:=ob Y
   refine li underlying22 tf9 aa ab fun ad ae aM af ag=>?_
   obtain⟨rfl,aN⟩:=af
   have ah:AtK _ ad ae [sv C]:=ag
   refine lv (rv_load1 tf9 u l (ah 0 _ u)) (av u (nr (mv u (lv (rv_slen underlying9 u) (mv u (lv (rv_slen underlying9 u) (lv (rv_sub u u) (av u (ns ?_)))))))))
   obtain⟨ai,aj,ak⟩:=ob ac
   refine wc_cutg (IV w K [] k [(0,sv q0),(3,V6 c),(5,V6 (w64 ((q0.length:Int)-(C.length:Int)))),(29,.bool ai)] []) ?_ ?_
   ·refine wc_region (mv u (lv (rv_geq u u) (mv u (bt aj (fun a m=>?_) (fun a m=>?_)))))
    ·refine lg a (rv_move u) (lg a (rv_move u) ?_)
     obtain⟨aO,al,am⟩:=ob m
     refine lg a (rv_ssl_l underlying9 u u al) (lg a (rv_move u) (lg a (rv_seql u u) (lv (rv_pick_t u a u) (wl_nil ?_))))
     cases oi am
     exact qd ⟨k,u,l.s,kr⟩
    iterate 5 refine lu a ?_
    refine lv (p_f u a u) (wl_nil ?_)
    cases oi m
    exact qd ⟨k,u,l.s,kr⟩
   rintro _ aP ⟨D,rfl,G,an⟩
   refine qe_seq (wcc ak u (fun ao o=>?_) (fun ao o=>?_))
   ·refine sr (mv u (mv u ?_))
    obtain⟨aQ,H,ap⟩:=ob o
    refine lv (rv_ssl_h underlying9 u u H) (av u (nq (wc_ret (qe_block_ret (qe_then_ret (qe_then_ret ?_))))))
    cases oi ap
    cases x _ u
    refine qe_block_ret (qe_then_ret ?_)
    cases oi s
    refine qe_then_ret ?_
    cases oi b
    exact ey results160 ⟨D,u,G,(len_sub q H)⟩
   refine wc_skip (qe_block (qe_seq (wc_region (mv u (lv (rv_add u u) (av u (wl_nil ?_)))))))
   cases oi o
   exact qd ⟨_,u,D,u,G,(((A.trans d.le).trans B.le).trans an),(w64_rng _)⟩
  refine wc_exit (qe_then_exit (qe_then_exit ?_))
  cases oi i
  cases x _ u
  refine qe_block_eq ?_
  cases oi s
  exact qd ⟨_,U,u,u,f.s,(A.trans d.le)⟩
 rintro _ w9 ⟨s5,K6,rfl,rfl,ar,aT⟩
 have b:=elim_l b
 refine qr (mv u (av u (nq (wc_ret ?_))))
 cases oi b
 exact ey results160 ⟨K6,u,ar,q⟩

theorem ok_spec_l2Stem {q0:Str}{r:Str}(hS:SH w K [] w K [])(o:q0.length≤maxLen)(hm:M.spec_l2Stem F q0=some r):
  Calls prog 114 #[sv q0] w fun e w'=>∃K',e= .returned (sv r)∧SH w K [] w' K' []∧r.length≤maxLen:=by
 rw [M.spec_l2Stem] at hm
 refine ci func114 u ntmps114 (sr (lv (r_s u) (ns ?_)))
 obtain⟨i,q,s⟩:=ob hm
 refine wc_cutg (IW w K [] K [(0,sv i)] [] (i.length≤maxLen)) ?_ ?_
 ·refine wc_block ?_
  obtain⟨W,x,y⟩:=ob q
  refine qw (fun (a:Str)=>IW w K [] K [(0,sv a)] [] (a.length≤maxLen)) x ⟨K,u,hS,kr,o⟩ ?_
  rintro a _ X Y A B ⟨aa,rfl,k,l,b⟩
  refine wc_seq (sr (mv u ?_))
  obtain⟨ab,C,D⟩:=ob A
  refine lk co160 (ok_spec_l2Once F k.enter0 b C) ?_
  rintro ac ad ⟨G,rfl,c,ae⟩
  have d:=(k.c0 c).t0
  refine mv u (lv (rv_sneq u u) (nq (wcc D u (fun H f=>?_) (fun H f=>?_))))
  ·refine wc_skip (qe_seq (wc_block (wc_region (mv u ?_))))
   obtain⟨af,I,J⟩:=ob f
   refine lk co160 (ok_spec_l2Once F d.enter0 b I) ?_
   rintro ag ah ⟨O,rfl,m,R⟩
   have S:=(d.c0 m).t0
   refine av u (nb ?_)
   cases oi J
   exact qd ⟨_,u,O,u,S,((l.trans c.le).trans m.le),R⟩
  refine wc_exit (qe_then_exit (qe_then_exit ?_))
  cases oi f
  cases B _ u
  refine qe_block_eq ?_
  cases oi y
  exact qd ⟨G,u,d,(l.trans c.le),b⟩
 rintro _ w7 ⟨T,rfl,U,aj,V⟩
 refine qr (mv u (av u (nq (wc_ret ?_))))
 cases oi s
 exact ey results114 ⟨T,u,U,V⟩

theorem ok_spec_l2Ok {q0:GConf}{r:Bool}(hS:SH w K [] w K [])(G:SliceAt tStr K A a b q0.Stops)(ae:SliceAt tGSyn K B c d q0.Syns)(hm:M.spec_l2Ok F q0=some r):
  Calls prog 66 #[.agg #[V3 A a b,V3 B c d]] w (R_b w K r):=by
 rw [M.spec_l2Ok] at hm
 refine ci func66 u ntmps66 (sr (bx u hS fun f dV aU=>?_))
 have aV:SH _ _ _ _ _ [obj f [V3 A a b,V3 B c d] 38]:=aU
 refine lv (r_f u) (nsr (lv (r_0 u) (nq ?_)))
 obtain⟨aW,aX,W⟩:=ob hm
 refine wc_cutg (IE aW w K [] K [(1,pt f)] [obj f [V3 A a b,V3 B c d] 38]) ?_ ?_
 ·refine wc_block ?_
  obtain⟨dW,aY,aC⟩:=ob aX
  refine qw (fun (X:Int)=>IW w K [] K [(1,pt f),(3,V6 X)] [obj f [V3 A a b,V3 B c d] 38] (rng64 X)) aY ⟨K,u,aV,kr,d_0⟩ ?_
  rintro X _ dX dY aZ aD ⟨aE,rfl,af,H,dZ⟩
  refine wc_seq (sr (mv u (fl ff38_0 u tf22 m0 af u (lv (rv_len underlying22 u (G.mono H)) (lv (rv_lss u u) (nq (wcc aZ u (fun ba ag=>?_) (fun ba ag=>?_))))))))
  ·refine wc_skip (qs (wc_block (wc_seq ?_)))
   obtain⟨bb,bc,bd⟩:=ob ag
   refine wc_cutg (IV w K [] aE [(1,pt f),(3,V6 X),(38,.bool bb)] [obj f [V3 A a b,V3 B c d] 38]) ?_ ?_
   ·refine wc_quiet mixed (by kernel_rfl) af (kv (rv_fieldAddr ff38_0 u) (kh (rq_loadm1 tf22 u m0 u) (km u ?_)))
    obtain⟨be,bf,bg⟩:=ob bc
    refine ki underlying22 tf9 (G.mono H) bf fun bh bi ea bj bk=>?_
    obtain⟨rfl,bl⟩:=bj
    have bm:AtK _ bh bi [sv be]:=bk
    refine kh (rq_load1 tf9 u (bm 0 _ u)) ?_
    obtain⟨eb,bn,bo⟩:=ob bg
    refine kc co105 (fun _ _ bp ec=>(ok_spec_l1WordOk F) bp.enter0 bl bn) (kv (rv_not u) (km u (bt bo (fun l ah=>?_) (fun l ah=>?_))))
    ·refine kn l (kn l (kn l ?_))
     iterate 12 refine ku ?_
     refine kn l (kv (p_t u l u) (wq_nil ?_))
     rintro ed ⟨bq,br,bs⟩
     cases oi ah
     exact qd ⟨bq,u,br,bs⟩
    refine kg l (rv_move u) (kg l (rv_gtr u u) (kg l (rv_move u) (bt ah (fun i ai=>?_) (fun i ai=>?_))))
    ·refine kg i (rv_fieldAddr ff38_0 u) (kgh i (rq_loadm1 tf22 u m0 u) (kg i (rv_move u) ?_))
     obtain⟨bu,bv,bz⟩:=ob ai
     refine wq_indexAddr (t:=tStr) (wg u u i) u underlying22 tf9 u u (G.mono H) bv fun bA bB ee bC bD=>?_
     obtain⟨rfl,ef⟩:=bC
     have bE:AtK _ bA bB [sv bu]:=bD
     refine kgh i (rq_load1 tf9 u (bE 0 _ u)) (kg i (rv_fieldAddr ff38_0 u) (kgh i (rq_loadm1 tf22 u m0 u) (kg i (rv_move u) (kg i (rv_sub u u) ?_))))
     obtain⟨bF,bG,bH⟩:=ob bz
     refine wq_indexAddr (t:=tStr) (wg u u i) u underlying22 tf9 u u (G.mono H) bG fun bI bJ eg bK bL=>?_
     obtain⟨rfl,eh⟩:=bK
     have bM:AtK _ bI bJ [sv bF]:=bL
     refine kgh i (rq_load1 tf9 u (bM 0 _ u)) (kg i (rv_sleq u u) (kg l (rv_pick_t u i u) (kv (rv_pick_f u l u) (wq_nil ?_))))
     rintro ei ⟨bN,bO,bP⟩
     cases oi bH
     exact qd ⟨bN,u,bO,bP⟩
    iterate 12 refine kn i ?_
    refine kg l (p_f u i u) (kv (rv_pick_f u l u) (wq_nil ?_))
    rintro ej ⟨bQ,bR,bS⟩
    cases oi ai
    exact qd ⟨bQ,u,bR,bS⟩
   rintro _ ek ⟨aF,rfl,aG,bT⟩
   refine qe_seq (wcc bd u (fun bU aj=>?_) (fun bU aj=>?_))
   ·refine sr (lv (r_f u) (nq (wc_ret (qe_block_ret (qe_then_ret (qe_then_ret ?_))))))
    cases oi aj
    cases aD _ u
    refine qe_block_ret (qe_then_ret ?_)
    cases oi aC
    refine qe_then_ret ?_
    cases oi W
    exact ey results66 ⟨aF,u,aG.s⟩
   refine wc_skip (qe_block (qe_seq (wc_region (mv u (lv (rv_add u u) (av u (wl_nil ?_)))))))
   cases oi aj
   exact qd ⟨_,u,aF,u,aG,(H.trans bT),(w64_rng _)⟩
  refine wc_exit (qe_then_exit (qe_then_exit ?_))
  cases oi ag
  cases aD _ u
  refine qe_block_eq ?_
  cases oi aC
  exact qd ⟨_,aE,u,u,af,H⟩
 rintro _ el ⟨em,ak,rfl,rfl,bV,I⟩
 have W:=elim_l W
 refine qs (sr (lv (r_0 u) (nq ?_)))
 obtain⟨bW,bX,J⟩:=ob W
 refine wc_cutg (IE bW w K [] ak [(1,pt f)] [obj f [V3 A a b,V3 B c d] 38]) ?_ ?_
 ·refine wc_block ?_
  obtain⟨en,bY,am⟩:=ob bX
  refine qw (fun (y:Int)=>IW w K [] ak [(1,pt f),(4,V6 y)] [obj f [V3 A a b,V3 B c d] 38] (rng64 y)) bY ⟨ak,u,bV,kr,d_0⟩ ?_
  rintro y _ eo ep bZ an ⟨Y,rfl,O,R,eq⟩
  refine wc_seq (sr (mv u (fl ff38_1 u tf36 m0 O u (lv (rv_len underlying36 u (ae.mono (I.trans R))) (lv (rv_lss u u) (nq (wcc bZ u (fun ca ao=>?_) (fun ca ao=>?_))))))))
  ·refine wc_skip (qs (wc_block (sr (fl ff38_1 u tf36 m0 O u (mv u ?_)))))
   obtain⟨S,cb,cc⟩:=ob ao
   refine li underlying36 tf128 (ae.mono (I.trans R)) cb fun cd ce es cf cg=>?_
   obtain⟨T,U,V,rfl,C,ap⟩:=cf
   have ch:AtK _ cd ce [V3 T U V,sv S.To]:=cg
   refine lv (rv_loadS tf128 u O ch u) (al tf128 O fun D et cj=>?_)
   have ck:SH _ _ _ _ _ [obj D [V3 none 0 0,sv []] 128,_]:=cj
   refine lw [V3 T U V,sv S.To] tf128 ck fun eu cl=>(nsr (lv (r_0 u) (nq ?_)))
   obtain⟨cm,cn,aa⟩:=ob cc
   refine wc_cutg (IE cm w K [] Y [(1,pt f),(4,V6 y),(5,pt D)] [obj f [V3 A a b,V3 B c d] 38,obj D [V3 T U V,sv S.To] 128]) ?_ ?_
   ·refine wc_block ?_
    obtain⟨ev,cp,aH⟩:=ob cn
    refine qw (fun (ab:Int)=>IW w K [] Y [(1,pt f),(4,V6 y),(5,pt D),(6,V6 ab)] [obj f [V3 A a b,V3 B c d] 38,obj D [V3 T U V,sv S.To] 128] (rng64 ab)) cp ⟨Y,u,cl.f1,kr,d_0⟩ ?_
    rintro ab _ ew ex cq aI ⟨aJ,rfl,ac,x,eA⟩
    refine wc_seq (sr (mv u (fl ff128_0 u tf22 m1 ac u (lv (rv_len underlying22 u (C.mono x)) (lv (rv_lss u u) (nq (wcc cq u (fun cr aq=>?_) (fun cr aq=>?_))))))))
    ·refine wc_skip (qs (wc_block (wc_seq ?_)))
     obtain⟨cs,ct,cu⟩:=ob aq
     refine wc_cutg (IV w K [] aJ [(1,pt f),(4,V6 y),(5,pt D),(6,V6 ab),(88,.bool cs)] [obj f [V3 A a b,V3 B c d] 38,obj D [V3 T U V,sv S.To] 128]) ?_ ?_
     ·refine wc_quiet mixed (by kernel_rfl) ac (kv (rv_fieldAddr ff128_0 u) (kh (rq_loadm1 tf22 u m1 u) (km u ?_)))
      obtain⟨cv,cw,cx⟩:=ob ct
      refine ki underlying22 tf9 (C.mono x) cw fun cy cz eB cA cB=>?_
      obtain⟨rfl,cC⟩:=cA
      have cD:AtK _ cy cz [sv cv]:=cB
      refine kh (rq_load1 tf9 u (cD 0 _ u)) ?_
      obtain⟨eC,cE,cF⟩:=ob cx
      refine kc co105 (fun _ _ cG eD=>(ok_spec_l1WordOk F) cG.enter0 cC cE) (kv (rv_not u) (km u (bt cF (fun k ar=>?_) (fun k ar=>?_))))
      ·iterate 12 refine kn k ?_
       refine kv (p_t u k u) (km u ?_)
       iterate 8 refine qv u u u u ?_
       refine kv (p_t u u u) (wq_nil ?_)
       rintro eE ⟨cH,cI,cJ⟩
       cases oi ar
       exact qd ⟨cH,u,cI,cJ⟩
      refine kg k (rv_fieldAddr ff128_0 u) (kgh k (rq_loadm1 tf22 u m1 u) (kg k (rv_move u) ?_))
      obtain⟨cK,cL,cM⟩:=ob ar
      refine wq_indexAddr (t:=tStr) (wg u u k) u underlying22 tf9 u u (C.mono x) cL fun cN cO eF cP cQ=>?_
      obtain⟨rfl,aK⟩:=cP
      have cR:AtK _ cN cO [sv cK]:=cQ
      refine kgh k (rq_load1 tf9 u (cR 0 _ u)) ?_
      obtain⟨eG,aL,cS⟩:=ob cM
      refine kdg k co114 (fun _ _ cT eH=>(ok_spec_l2Stem F) cT.enter0 aK aL) ?_
      obtain⟨_,_,_,⟨_,_,_,eI⟩,_⟩:=(ok_spec_l2Stem F) ac.enter0 aK aL []
      refine kg k (rv_fieldAddr ff128_0 u) (kgh k (rq_loadm1 tf22 u m1 u) (kg k (rv_move u) ?_))
      obtain⟨cU,cV,cW⟩:=ob cS
      refine wq_indexAddr (t:=tStr) (wg u u k) u underlying22 tf9 u u (C.mono x) cV fun cX cY eJ cZ da=>?_
      obtain⟨rfl,eK⟩:=cZ
      have db:AtK _ cX cY [sv cU]:=da
      refine kgh k (rq_load1 tf9 u (db 0 _ u)) (kg k (rv_sneq u u) (kv (rv_pick_f u k u) (km u (bt cW (fun m au=>?_) (fun m au=>?_)))))
      ·iterate 8 refine kn m ?_
       refine kv (p_t u m u) (wq_nil ?_)
       rintro eL ⟨dc,dd,de⟩
       cases oi au
       exact qd ⟨dc,u,dd,de⟩
      refine kg m (rv_fieldAddr ff38_0 u) (kgh m (rq_loadm1 tf22 u m0 u) (kg m (rv_fieldAddr ff128_0 u) (kgh m (rq_loadm1 tf22 u m1 u) (kg m (rv_move u) ?_))))
      obtain⟨df,dg,dh⟩:=ob au
      refine wq_indexAddr (t:=tStr) (wg u u m) u underlying22 tf9 u u (C.mono x) dg fun di dj eM dk dl=>?_
      obtain⟨rfl,dm⟩:=dk
      have dn:AtK _ di dj [sv df]:=dl
      refine kgh m (rq_load1 tf9 u (dn 0 _ u)) ?_
      obtain⟨eN,dp,dq⟩:=ob dh
      refine kcg m co60 (fun _ _ dr ds=>(ok_spec_l2Has F) dr.enter0 (SliceAt.mono (((I.trans R).trans x).trans ds) G) dm dp) (kv (rv_pick_f u m u) (wq_nil ?_))
      rintro eO ⟨dt,du,dv⟩
      cases oi dq
      exact qd ⟨dt,u,du,dv⟩
     rintro _ eP ⟨aM,rfl,aN,dw⟩
     refine qe_seq (wcc cu u (fun dx aw=>?_) (fun dx aw=>?_))
     ·refine sr (lv (r_f u) (nq (wc_ret (qe_block_ret (qe_then_ret (qe_then_ret ?_))))))
      cases oi aw
      cases aI _ u
      refine qe_block_ret (qe_then_ret ?_)
      cases oi aH
      refine qe_then_ret (qe_block_ret (qe_then_ret (qe_then_ret ?_)))
      cases oi aa
      cases an _ u
      refine qe_block_ret (qe_then_ret ?_)
      cases oi am
      refine qe_then_ret ?_
      cases oi J
      exact ey results66 ⟨aM,u,aN.s⟩
     refine wc_skip (qe_block (qe_seq (wc_region (mv u (lv (rv_add u u) (av u (wl_nil ?_)))))))
     cases oi aw
     exact qd ⟨_,u,aM,u,aN,(x.trans dw),(w64_rng _)⟩
    refine wc_exit (qe_then_exit (qe_then_exit ?_))
    cases oi aq
    cases aI _ u
    refine qe_block_eq ?_
    cases oi aH
    exact qd ⟨_,aJ,u,u,ac,x⟩
   rintro _ eQ ⟨eR,dy,rfl,rfl,aO,ax⟩
   have aa:=elim_l aa
   refine qs ?_
   obtain⟨dz,dA,dB⟩:=ob aa
   refine wc_cutg (IV w K [] dy [(1,pt f),(4,V6 y),(107,.bool dz)] [obj f [V3 A a b,V3 B c d] 38]) ?_ ?_
   ·refine wc_quiet mixed (by kernel_rfl) aO (kv (rv_fieldAddr ff128_0 u) (kh (rq_loadm1 tf22 u m1 u) (kv (rv_len underlying22 u (C.mono ax)) ?_)))
    obtain⟨eS,dC,dD⟩:=ob dA
    refine kc co107 (fun _ _ dE eT=>(ok_spec_l1In F) dE.enter0 (C.mono ax).rn (by decide :rng64 1) (by decide :rng64 3) dC) (kv (rv_not u) (km u (bt dD (fun o ay=>?_) (fun o ay=>?_))))
    ·refine kn o (kn o (kn o (kn o (kv (p_t u o u) (km u ?_)))))
     iterate 6 refine qv u u u u ?_
     refine kv (p_t u u u) (wq_nil ?_)
     rintro eU ⟨dF,dG,dH⟩
     cases oi ay
     exact qd ⟨dF,u,dG.s,dH⟩
    refine kg o (rv_fieldAddr ff128_1 u) (kgh o (rq_loadm1 tf9 u m1 u) ?_)
    obtain⟨eV,dI,dJ⟩:=ob ay
    refine kcg o co105 (fun _ _ dK eW=>(ok_spec_l1WordOk F) dK.enter0 ap dI) (kg o (rv_not u) (kv (rv_pick_f u o u) (km u (bt dJ (fun s az=>?_) (fun s az=>?_)))))
    ·iterate 6 refine kn s ?_
     refine kv (p_t u s u) (wq_nil ?_)
     rintro eX ⟨dL,dM,dN⟩
     cases oi az
     exact qd ⟨dL,u,dM.s,dN⟩
    refine kg s (rv_fieldAddr ff128_1 u) (kgh s (rq_loadm1 tf9 u m1 u) ?_)
    obtain⟨eY,aP,dO⟩:=ob az
    refine kdg s co114 (fun _ _ dP eZ=>(ok_spec_l2Stem F) dP.enter0 ap aP) ?_
    obtain⟨_,_,_,⟨_,_,_,fb⟩,_⟩:=(ok_spec_l2Stem F) aO.enter0 ap aP []
    refine kg s (rv_fieldAddr ff128_1 u) (kgh s (rq_loadm1 tf9 u m1 u) (kg s (rv_sneq u u) (kv (rv_pick_f u s u) (wq_nil ?_))))
    rintro fc ⟨dQ,dR,dS⟩
    cases oi dO
    exact qd ⟨dQ,u,dR.s,dS⟩
   rintro _ fd ⟨aQ,rfl,aR,dT⟩
   refine qe_seq (wcc dB u (fun dU aA=>?_) (fun dU aA=>?_))
   ·refine sr (lv (r_f u) (nq (wc_ret (qe_block_ret (qe_then_ret (qe_then_ret ?_))))))
    cases oi aA
    cases an _ u
    refine qe_block_ret (qe_then_ret ?_)
    cases oi am
    refine qe_then_ret ?_
    cases oi J
    exact ey results66 ⟨aQ,u,aR.s⟩
   refine wc_skip (qe_block (qe_seq (wc_region (mv u (lv (rv_add u u) (av u (wl_nil ?_)))))))
   cases oi aA
   exact qd ⟨_,u,aQ,u,aR,((R.trans ax).trans dT),(w64_rng _)⟩
  refine wc_exit (qe_then_exit (qe_then_exit ?_))
  cases oi ao
  cases an _ u
  refine qe_block_eq ?_
  cases oi am
  exact qd ⟨_,Y,u,u,O,R⟩
 rintro _ fe ⟨fg,aS,rfl,rfl,ad,aT⟩
 have J:=elim_l J
 refine qr (fl ff38_0 u tf22 m0 ad u (lv (rv_len underlying22 u (G.mono (I.trans aT))) (lv (rv_leq u u) (mv u (bt J (fun q aB=>?_) (fun q aB=>?_))))))
 ·refine lg q (rv_fieldAddr ff38_1 u) (lg q (rv_loadm1 tf36 u m0 ad u) (lg q (rv_len underlying36 u (ae.mono (I.trans aT))) (lg q (rv_leq u u) (lv (rv_pick_t u q u) (av u (nq (wc_ret ?_)))))))
  cases oi aB
  exact ey results66 ⟨aS,u,ad.s⟩
 refine lu q (lu q (lu q (lu q (lv (p_f u q u) (av u (nq (wc_ret ?_)))))))
 cases oi aB
 exact ey results66 ⟨aS,u,ad.s⟩

theorem ok_spec_l1Text {q0:Str}{r:Bool}(hS:SH w K [] w K [])(Y:q0.length≤maxLen)(hm:M.spec_l1Text F q0=some r):
  Calls prog 106 #[sv q0] w (R_b w K r):=by
 rw [M.spec_l1Text] at hm
 refine ci func106 u ntmps106 (sr (lv (r_f u) (nsr (lv (r_0 u) (nq ?_)))))
 obtain⟨A,B,c⟩:=ob hm
 refine wc_cutg (IE A w K [] K [(0,sv q0)] []) ?_ ?_
 ·refine wc_block ?_
  obtain⟨aa,C,o⟩:=ob B
  refine qw (fun (d:Int)=>IW w K [] K [(0,sv q0),(3,V6 d)] [] (rng64 d)) C ⟨K,u,hS,kr,d_0⟩ ?_
  rintro d _ ab ac D q ⟨f,rfl,i,s,ad⟩
  refine wc_seq (sr (mv u (mv u (lv (rv_slen underlying9 u) (lv (rv_lss u u) (nq (wcc D u (fun G k=>?_) (fun G k=>?_))))))))
  ·refine wc_skip (qs (wc_block (wc_seq ?_)))
   obtain⟨H,I,J⟩:=ob k
   refine wc_cutg (IV w K [] f [(0,sv q0),(3,V6 d),(19,.bool H)] []) ?_ ?_
   ·refine wc_region (mv u (mv u ?_))
    obtain⟨ae,O,R⟩:=ob I
    refine lv (rv_sidx underlying9 u u O) (lv (rv_bl (b:=(32:UInt8)) u u) (mv u (bt R (fun a l=>?_) (fun a l=>?_))))
    ·refine lu a (lu a (lu a (lu a (lv (p_t u a u) (wl_nil ?_)))))
     cases oi l
     exact qd ⟨f,u,i,kr⟩
    refine lg a (rv_move u) (lg a (rv_move u) ?_)
    obtain⟨af,S,T⟩:=ob l
    refine lg a (rv_sidx underlying9 u u S) (lg a (rv_bg (b:=(126:UInt8)) u u) (lv (rv_pick_f u a u) (wl_nil ?_)))
    cases oi T
    exact qd ⟨f,u,i,kr⟩
   rintro _ ag ⟨x,rfl,y,U⟩
   refine qe_seq (wcc J u (fun V m=>?_) (fun V m=>?_))
   ·refine sr (lv (r_f u) (nq (wc_ret (qe_block_ret (qe_then_ret (qe_then_ret ?_))))))
    cases oi m
    cases q _ u
    refine qe_block_ret (qe_then_ret ?_)
    cases oi o
    refine qe_then_ret ?_
    cases oi c
    exact ey results106 ⟨x,u,y⟩
   refine wc_skip (qe_block (qe_seq (wc_region (mv u (lv (rv_add u u) (av u (wl_nil ?_)))))))
   cases oi m
   exact qd ⟨_,u,x,u,y,(s.trans U),(w64_rng _)⟩
  refine wc_exit (qe_then_exit (qe_then_exit ?_))
  cases oi k
  cases q _ u
  refine qe_block_eq ?_
  cases oi o
  exact qd ⟨_,f,u,u,i,s⟩
 rintro _ w9 ⟨s5,W,rfl,rfl,X,aj⟩
 have c:=elim_l c
 refine qr (mv u (lv (rv_slen underlying9 u) (lv (rv_leq u u) (av u (nq (wc_ret ?_))))))
 cases oi c
 exact ey results106 ⟨W,u,X⟩

theorem ok_spec_l6Ok {q0:GDoc}{r:Bool}(hS:SH w K [] w K [])(aJ:rng64 q0.Id)(G:SliceAt tGField K A a b q0.Fields)(D:SliceAt tGAttr K B c d q0.Nums)(hm:M.spec_l6Ok F q0=some r):
  Calls prog 115 #[.agg #[V6 q0.Id,V3 A a b,V3 B c d]] w (R_b w K r):=by
 rw [M.spec_l6Ok] at hm
 refine ci func115 u ntmps115 (sr (bx u hS fun k da aK=>?_))
 have aL:SH _ _ _ _ _ [obj k [V6 q0.Id,V3 A a b,V3 B c d] 64]:=aK
 refine lv (r_f u) (nsr (lv (r_0 u) (nq ?_)))
 obtain⟨aM,aN,J⟩:=ob hm
 refine wc_cutg (IE aM w K [] K [(1,pt k)] [obj k [V6 q0.Id,V3 A a b,V3 B c d] 64]) ?_ ?_
 ·refine wc_block ?_
  obtain⟨db,aO,ap⟩:=ob aN
  refine qw (fun (O:Int)=>IW w K [] K [(1,pt k),(3,V6 O)] [obj k [V6 q0.Id,V3 A a b,V3 B c d] 64] (rng64 O)) aO ⟨K,u,aL,kr,d_0⟩ ?_
  rintro O _ dc dd aP aq ⟨ar,rfl,H,I,de⟩
  refine wc_seq (sr (mv u (fl ff64_1 u tf61 m0 H u (lv (rv_len underlying61 u (G.mono I)) (lv (rv_lss u u) (nq (wcc aP u (fun aQ W=>?_) (fun aQ W=>?_))))))))
  ·refine wc_skip (qs (wc_block (sr (fl ff64_1 u tf61 m0 H u (mv u ?_)))))
   obtain⟨R,aR,aS⟩:=ob W
   refine li underlying61 tf118 (G.mono I) aR fun aT aU df aV aW=>?_
   obtain⟨rfl,aX,aY⟩:=aV
   have aZ:AtK _ aT aU [sv R.Name,sv R.Text]:=aW
   refine lv (rv_loadS tf118 u H aZ u) (al tf118 H fun ba dg bb=>?_)
   have bc:SH _ _ _ _ _ [obj ba [sv [],sv []] 118,_]:=bb
   refine lw [sv R.Name,sv R.Text] tf118 bc fun dh bd=>(ns ?_)
   obtain⟨be,bf,bg⟩:=ob aS
   refine wc_cutg (IV w K [] ar [(1,pt k),(3,V6 O),(43,.bool be)] [obj k [V6 q0.Id,V3 A a b,V3 B c d] 64]) ?_ ?_
   ·refine wc_quiet mixed (by kernel_rfl) bd (kv (rv_fieldAddr ff118_0 u) (kh (rq_loadm1 tf9 u m0 u) ?_))
    obtain⟨di,bh,bi⟩:=ob bf
    refine kc co105 (fun _ _ bj dj=>(ok_spec_l1WordOk F) bj.enter0 aX bh) (kv (rv_not u) (km u (bt bi (fun q X=>?_) (fun q X=>?_))))
    ·refine kn q (kn q (kn q (kn q (kv (p_t u q u) (km u (qv u u u u (qv u u u u (qv u u u u ?_))))))))
     iterate 10 refine ku ?_
     refine qv u u u u (kv (p_t u u u) (wq_nil ?_))
     rintro dk ⟨bk,bl,bm⟩
     cases oi X
     exact qd ⟨bk,u,bl.s,bm⟩
    refine kg q (rv_fieldAddr ff118_1 u) (kgh q (rq_loadm1 tf9 u m0 u) ?_)
    obtain⟨dl,bn,bo⟩:=ob X
    refine kcg q co106 (fun _ _ bp dm=>(ok_spec_l1Text F) bp.enter0 aY bn) (kg q (rv_not u) (kv (rv_pick_f u q u) (km u (bt bo (fun l Y=>?_) (fun l Y=>?_)))))
    ·refine kn l (kn l (kn l ?_))
     iterate 10 refine ku ?_
     refine kn l (kv (p_t u l u) (wq_nil ?_))
     rintro dn ⟨bq,br,bs⟩
     cases oi Y
     exact qd ⟨bq,u,br.s,bs⟩
    refine kg l (rv_move u) (kg l (rv_gtr u u) (kg l (rv_move u) (bt Y (fun i aa=>?_) (fun i aa=>?_))))
    ·refine kg i (rv_fieldAddr ff118_0 u) (kgh i (rq_loadm1 tf9 u m0 u) (kg i (rv_fieldAddr ff64_1 u) (kgh i (rq_loadm1 tf61 u m1 u) (kg i (rv_move u) (kg i (rv_sub u u) ?_)))))
     obtain⟨au,bu,bv⟩:=ob aa
     refine wq_indexAddr (t:=tGField) (wg u u i) u underlying61 tf118 u u (G.mono I) bu fun bz bA dp bB bC=>?_
     obtain⟨rfl,dq,dr⟩:=bB
     have bD:AtK _ bz bA [sv au.Name,sv au.Text]:=bC
     refine kg i (rv_fieldAddr ff118_0 u) (kgh i (rq_load1 tf9 u (bD 0 _ u)) (kg i (rv_sleq u u) (kg l (rv_pick_t u i u) (kv (rv_pick_f u l u) (wq_nil ?_)))))
     rintro ds ⟨bE,bF,bG⟩
     cases oi bv
     exact qd ⟨bE,u,bF.s,bG⟩
    iterate 10 refine kn i ?_
    refine kg l (p_f u i u) (kv (rv_pick_f u l u) (wq_nil ?_))
    rintro dt ⟨bH,bI,bJ⟩
    cases oi aa
    exact qd ⟨bH,u,bI.s,bJ⟩
   rintro _ du ⟨aw,rfl,ax,bK⟩
   refine qe_seq (wcc bg u (fun bL ab=>?_) (fun bL ab=>?_))
   ·refine sr (lv (r_f u) (nq (wc_ret (qe_block_ret (qe_then_ret (qe_then_ret ?_))))))
    cases oi ab
    cases aq _ u
    refine qe_block_ret (qe_then_ret ?_)
    cases oi ap
    refine qe_then_ret ?_
    cases oi J
    exact ey results115 ⟨aw,u,ax.s⟩
   refine wc_skip (qe_block (qe_seq (wc_region (mv u (lv (rv_add u u) (av u (wl_nil ?_)))))))
   cases oi ab
   exact qd ⟨_,u,aw,u,ax,(I.trans bK),(w64_rng _)⟩
  refine wc_exit (qe_then_exit (qe_then_exit ?_))
  cases oi W
  cases aq _ u
  refine qe_block_eq ?_
  cases oi ap
  exact qd ⟨_,ar,u,u,H,I⟩
 rintro _ dv ⟨dw,ac,rfl,rfl,bM,y⟩
 have J:=elim_l J
 refine qs (sr (lv (r_0 u) (nq ?_)))
 obtain⟨bN,bO,S⟩:=ob J
 refine wc_cutg (IE bN w K [] ac [(1,pt k)] [obj k [V6 q0.Id,V3 A a b,V3 B c d] 64]) ?_ ?_
 ·refine wc_block ?_
  obtain⟨dx,bP,ay⟩:=ob bO
  refine qw (fun (T:Int)=>IW w K [] ac [(1,pt k),(5,V6 T)] [obj k [V6 q0.Id,V3 A a b,V3 B c d] 64] (rng64 T)) bP ⟨ac,u,bM,kr,d_0⟩ ?_
  rintro T _ dy dz bQ az ⟨aA,rfl,ad,C,dA⟩
  refine wc_seq (sr (mv u (fl ff64_2 u tf62 m0 ad u (lv (rv_len underlying62 u (D.mono (y.trans C))) (lv (rv_lss u u) (nq (wcc bQ u (fun bR ae=>?_) (fun bR ae=>?_))))))))
  ·refine wc_skip (qs (wc_block (wc_seq ?_)))
   obtain⟨bS,bT,bU⟩:=ob ae
   refine wc_cutg (IV w K [] aA [(1,pt k),(5,V6 T),(88,.bool bS)] [obj k [V6 q0.Id,V3 A a b,V3 B c d] 64]) ?_ ?_
   ·refine wc_quiet mixed (by kernel_rfl) ad (kv (rv_fieldAddr ff64_2 u) (kh (rq_loadm1 tf62 u m0 u) (km u ?_)))
    obtain⟨aB,bV,bW⟩:=ob bT
    refine ki underlying62 tf135 (D.mono (y.trans C)) bV fun bX bY dB bZ ca=>?_
    obtain⟨rfl,cb,dC⟩:=bZ
    have cc:AtK _ bX bY [sv aB.Name,V6 aB.Num]:=ca
    refine kv (rv_fieldAddr ff135_0 u) (kh (rq_load1 tf9 u (cc 0 _ u)) ?_)
    obtain⟨dD,cd,ce⟩:=ob bW
    refine kc co105 (fun _ _ cf dE=>(ok_spec_l1WordOk F) cf.enter0 cb cd) (kv (rv_not u) (km u (bt ce (fun o af=>?_) (fun o af=>?_))))
    ·iterate 8 refine kn o ?_
     refine kv (p_t u o u) (km u (qv u u u u (qv u u u u (qv u u u u ?_))))
     iterate 14 refine ku ?_
     refine qv u u u u (kv (p_t u u u) (wq_nil ?_))
     rintro dF ⟨cg,ch,cj⟩
     cases oi af
     exact qd ⟨cg,u,ch,cj⟩
    refine kg o (rv_fieldAddr ff64_2 u) (kgh o (rq_loadm1 tf62 u m0 u) (kg o (rv_move u) ?_))
    obtain⟨aC,ck,cl⟩:=ob af
    refine wq_indexAddr (t:=tGAttr) (wg u u o) u underlying62 tf135 u u (D.mono (y.trans C)) ck fun cm cn dG cp cq=>?_
    obtain⟨rfl,dH,cr⟩:=cp
    have cs:AtK _ cm cn [sv aC.Name,V6 aC.Num]:=cq
    refine kg o (rv_fieldAddr ff135_1 u) (kgh o (rq_load1 tf3 u (cs 1 _ u)) ?_)
    obtain⟨dI,ct,cu⟩:=ob cl
    refine kcg o co107 (fun _ _ cv dJ=>(ok_spec_l1In F) cv.enter0 cr d_0 (by decide :rng64 999999999) ct) (kg o (rv_not u) (kv (rv_pick_f u o u) (km u (bt cu (fun m ag=>?_) (fun m ag=>?_)))))
    ·refine kn m (kn m (kn m ?_))
     iterate 14 refine ku ?_
     refine kn m (kv (p_t u m u) (wq_nil ?_))
     rintro dK ⟨cw,cx,cy⟩
     cases oi ag
     exact qd ⟨cw,u,cx,cy⟩
    refine kg m (rv_move u) (kg m (rv_gtr u u) (kg m (rv_move u) (bt ag (fun f ah=>?_) (fun f ah=>?_))))
    ·refine kg f (rv_fieldAddr ff64_2 u) (kgh f (rq_loadm1 tf62 u m0 u) (kg f (rv_move u) ?_))
     obtain⟨aD,cz,cA⟩:=ob ah
     refine wq_indexAddr (t:=tGAttr) (wg u u f) u underlying62 tf135 u u (D.mono (y.trans C)) cz fun cB cC dL cD cE=>?_
     obtain⟨rfl,dM,dN⟩:=cD
     have cF:AtK _ cB cC [sv aD.Name,V6 aD.Num]:=cE
     refine kg f (rv_fieldAddr ff135_0 u) (kgh f (rq_load1 tf9 u (cF 0 _ u)) (kg f (rv_fieldAddr ff64_2 u) (kgh f (rq_loadm1 tf62 u m0 u) (kg f (rv_move u) (kg f (rv_sub u u) ?_)))))
     obtain⟨aE,cG,cH⟩:=ob cA
     refine wq_indexAddr (t:=tGAttr) (wg u u f) u underlying62 tf135 u u (D.mono (y.trans C)) cG fun cI cJ dO cK cL=>?_
     obtain⟨rfl,dP,dQ⟩:=cK
     have cM:AtK _ cI cJ [sv aE.Name,V6 aE.Num]:=cL
     refine kg f (rv_fieldAddr ff135_0 u) (kgh f (rq_load1 tf9 u (cM 0 _ u)) (kg f (rv_sleq u u) (kg m (rv_pick_t u f u) (kv (rv_pick_f u m u) (wq_nil ?_)))))
     rintro dR ⟨cN,cO,cP⟩
     cases oi cH
     exact qd ⟨cN,u,cO,cP⟩
    iterate 14 refine kn f ?_
    refine kg m (p_f u f u) (kv (rv_pick_f u m u) (wq_nil ?_))
    rintro dS ⟨cQ,cR,cS⟩
    cases oi ah
    exact qd ⟨cQ,u,cR,cS⟩
   rintro _ dT ⟨aF,rfl,aG,cT⟩
   refine qe_seq (wcc bU u (fun cU ai=>?_) (fun cU ai=>?_))
   ·refine sr (lv (r_f u) (nq (wc_ret (qe_block_ret (qe_then_ret (qe_then_ret ?_))))))
    cases oi ai
    cases az _ u
    refine qe_block_ret (qe_then_ret ?_)
    cases oi ay
    refine qe_then_ret ?_
    cases oi S
    exact ey results115 ⟨aF,u,aG.s⟩
   refine wc_skip (qe_block (qe_seq (wc_region (mv u (lv (rv_add u u) (av u (wl_nil ?_)))))))
   cases oi ai
   exact qd ⟨_,u,aF,u,aG,(C.trans cT),(w64_rng _)⟩
  refine wc_exit (qe_then_exit (qe_then_exit ?_))
  cases oi ae
  cases az _ u
  refine qe_block_eq ?_
  cases oi ay
  exact qd ⟨_,aA,u,u,ad,C⟩
 rintro _ dU ⟨dV,dW,rfl,rfl,aj,ak⟩
 have S:=elim_l S
 refine qr (fl ff64_0 u tf3 m0 aj u ?_)
 obtain⟨dX,cV,cW⟩:=ob S
 refine lk co107 (ok_spec_l1In F aj.enter0 aJ (by decide :rng64 1) (by decide :rng64 9999) cV) ?_
 rintro dY dZ ⟨cX,rfl,U⟩
 have V:=(aj.c0 U).t1
 refine mv u (bt cW (fun s am=>?_) (fun s am=>?_))
 ·refine lg s (rv_fieldAddr ff64_1 u) (lg s (rv_loadm1 tf61 u m0 V u) (lg s (rv_len underlying61 u (G.mono ((y.trans ak).trans U.le))) ?_))
  obtain⟨ea,cY,cZ⟩:=ob am
  refine wl_call (wg u u s) u (rt_call (vs:=[V6 (q0.Fields.length:Int),V6 0,V6 3]) co107 u) (ok_spec_l1In F V.enter0 (rng_nat (SliceAt.max (G.mono ((y.trans ak).trans U.le)))) d_0 (by decide :rng64 3) cY) ?_
  rintro eb ec ⟨aH,rfl,aI⟩
  refine⟨_,u,?_⟩
  have an:=(V.c0 aI).t1
  refine lv (rv_pick_t u s u) (mv u (bt cZ (fun x ao=>?_) (fun x ao=>?_)))
  ·refine lg x (rv_fieldAddr ff64_2 u) (lg x (rv_loadm1 tf62 u m0 an u) (lg x (rv_len underlying62 u (SliceAt.mono (((y.trans ak).trans U.le).trans aI.le) D)) (lg x (rv_leq u u) (lv (rv_pick_t u x u) (av u (nq (wc_ret ?_)))))))
   cases oi ao
   exact ey results115 ⟨aH,u,an.s⟩
  refine lu x (lu x (lu x (lu x (lv (p_f u x u) (av u (nq (wc_ret ?_)))))))
  cases oi ao
  exact ey results115 ⟨aH,u,an.s⟩
 refine lu s (lu s (lu s (lu s (lv (p_f u s u) (mv u (lu u (lu u (lu u (lu u ?_)))))))))
 refine lv (p_f u u u) (av u (nq (wc_ret ?_)))
 cases oi am
 exact ey results115 ⟨cX,u,V.s⟩

theorem ok_spec_l6Docs {q0:List GDoc}{r:Bool}(hS:SH w K [] w K [])(i:SliceAt tGDoc K A a b q0)(hm:M.spec_l6Docs F q0=some r):
  Calls prog 67 #[V3 A a b] w (R_b w K r):=by
 rw [M.spec_l6Docs] at hm
 refine ci func67 u ntmps67 (sr (lv (r_f u) (nsr (lv (r_0 u) (nq ?_)))))
 obtain⟨I,J,k⟩:=ob hm
 refine wc_cutg (IE I w K [] K [(0,V3 A a b)] []) ?_ ?_
 ·refine wc_block ?_
  obtain⟨bk,O,x⟩:=ob J
  refine qw (fun (l:Int)=>IW w K [] K [(0,V3 A a b),(3,V6 l)] [] (rng64 l)) O ⟨K,u,hS,kr,d_0⟩ ?_
  rintro l _ bl bm R y ⟨B,rfl,C,f,bn⟩
  refine wc_seq (sr (mv u (mv u (lv (rv_len underlying40 u (i.mono f)) (lv (rv_lss u u) (nq (wcc R u (fun S m=>?_) (fun S m=>?_))))))))
  ·refine wc_skip (qs (wc_block (wc_seq ?_)))
   obtain⟨T,U,V⟩:=ob m
   refine wc_cutg (IV w K [] B [(0,V3 A a b),(3,V6 l),(33,.bool T)] []) ?_ ?_
   ·refine wc_quiet mixed (by kernel_rfl) C (km u (km u ?_))
    obtain⟨W,X,Y⟩:=ob U
    refine ki underlying40 tf64 (i.mono f) X fun aa ab bo ac ad=>?_
    obtain⟨ae,af,ag,ah,ai,aj,rfl,ak,al,am⟩:=ac
    have an:AtK _ aa ab [V6 W.Id,V3 ae af ag,V3 ah ai aj]:=ad
    refine kh (rq_loadS tf64 u an u) ?_
    obtain⟨bp,ao,ap⟩:=ob Y
    refine kc co115 (fun _ _ aq D=>(ok_spec_l6Ok F) aq.enter0 ak (al.mono D) (am.mono D) ao) (kv (rv_not u) (km u (bt ap (fun d o=>?_) (fun d o=>?_))))
    ·refine kn d (kn d (kn d ?_))
     iterate 12 refine ku ?_
     refine kn d (kv (p_t u d u) (wq_nil ?_))
     rintro bq ⟨ar,au,aw⟩
     cases oi o
     exact qd ⟨ar,u,au,aw⟩
    refine kg d (rv_move u) (kg d (rv_gtr u u) (kg d (rv_move u) (bt o (fun c q=>?_) (fun c q=>?_))))
    ·refine kg c (rv_move u) (kg c (rv_move u) ?_)
     obtain⟨ax,ay,az⟩:=ob q
     refine wq_indexAddr (t:=tGDoc) (wg u u c) u underlying40 tf64 u u (i.mono f) ay fun aA aB br aC aD=>?_
     obtain⟨aE,aF,aG,aH,aI,aJ,rfl,bs,bu,bv⟩:=aC
     have aK:AtK _ aA aB [V6 ax.Id,V3 aE aF aG,V3 aH aI aJ]:=aD
     refine kg c (rv_fieldAddr ff64_0 u) (kgh c (rq_load1 tf3 u (aK 0 _ u)) (kg c (rv_move u) (kg c (rv_move u) (kg c (rv_sub u u) ?_))))
     obtain⟨aL,aM,aN⟩:=ob az
     refine wq_indexAddr (t:=tGDoc) (wg u u c) u underlying40 tf64 u u (i.mono f) aM fun aO aP bx aQ aR=>?_
     obtain⟨aS,aT,aU,aV,aW,aX,rfl,bz,bA,bB⟩:=aQ
     have aY:AtK _ aO aP [V6 aL.Id,V3 aS aT aU,V3 aV aW aX]:=aR
     refine kg c (rv_fieldAddr ff64_0 u) (kgh c (rq_load1 tf3 u (aY 0 _ u)) (kg c (rv_leq u u) (kg d (rv_pick_t u c u) (kv (rv_pick_f u d u) (wq_nil ?_)))))
     rintro bC ⟨aZ,ba,bb⟩
     cases oi aN
     exact qd ⟨aZ,u,ba,bb⟩
    iterate 12 refine kn c ?_
    refine kg d (p_f u c u) (kv (rv_pick_f u d u) (wq_nil ?_))
    rintro bD ⟨bc,bd,be⟩
    cases oi q
    exact qd ⟨bc,u,bd,be⟩
   rintro _ bE ⟨G,rfl,H,bf⟩
   refine qe_seq (wcc V u (fun bg s=>?_) (fun bg s=>?_))
   ·refine sr (lv (r_f u) (nq (wc_ret (qe_block_ret (qe_then_ret (qe_then_ret ?_))))))
    cases oi s
    cases y _ u
    refine qe_block_ret (qe_then_ret ?_)
    cases oi x
    refine qe_then_ret ?_
    cases oi k
    exact ey results67 ⟨G,u,H⟩
   refine wc_skip (qe_block (qe_seq (wc_region (mv u (lv (rv_add u u) (av u (wl_nil ?_)))))))
   cases oi s
   exact qd ⟨_,u,G,u,H,(f.trans bf),(w64_rng _)⟩
  refine wc_exit (qe_then_exit (qe_then_exit ?_))
  cases oi m
  cases y _ u
  refine qe_block_eq ?_
  cases oi x
  exact qd ⟨_,B,u,u,C,f⟩
 rintro _ bF ⟨s8,K9,rfl,rfl,bi,bj⟩
 have k:=elim_l k
 refine qr (mv u (lv (rv_len underlying40 u (i.mono bj)) (lv (rv_leq u u) (av u (nq (wc_ret ?_))))))
 cases oi k
 exact ey results67 ⟨K9,u,bi⟩

theorem ok_spec_l7Put {q0:List Str}{q1:Str}{r:(List Str)}(hS:SH w K Z w K [tail (V3 A a b) 9 1])(f:SliceAt tStr K A a b q0)(T:q1.length≤maxLen)(hm:M.spec_l7Put F q0 q1=some r):
  Calls prog 187 #[V3 A a b,sv q1] w fun e w'=>∃a_1 n_2 c_3 K',e= .returned (V3 a_1 n_2 c_3)∧SH w K Z w' K' [tail (V3 a_1 n_2 c_3) 9 1]∧SliceAt tStr K' a_1 n_2 c_3 r:=by
 rw [M.spec_l7Put] at hm
 refine ci func187 u ntmps187 (sr (lv (r_n u) (nr (lv (r_0 u) (ns ?_)))))
 obtain⟨m,U,V⟩:=ob hm
 refine wc_cutg (IW w K Z K [(0,V3 A a b),(1,sv q1),(5,V6 m)] [tail (V3 A a b) 9 1] (rng64 m)) ?_ ?_
 ·refine wc_block ?_
  obtain⟨bg,W,X⟩:=ob U
  refine qw (fun (k:Int)=>IW w K Z K [(0,V3 A a b),(1,sv q1),(5,V6 k)] [tail (V3 A a b) 9 1] (rng64 k)) W ⟨K,u,hS,kr,d_0⟩ ?_
  rintro k _ bh bi Y aa ⟨o,rfl,q,l,ab⟩
  refine wc_seq (wc_seq ?_)
  obtain⟨ac,ad,ae⟩:=ob Y
  refine wc_cutg (IV w K Z o [(0,V3 A a b),(1,sv q1),(5,V6 k),(18,.bool ac)] [tail (V3 A a b) 9 1]) ?_ ?_
  ·refine wc_region (mv u (mv u (lv (rv_len underlying22 u (f.mono l)) (lv (rv_lss u u) (mv u (bt ad (fun c s=>?_) (fun c s=>?_)))))))
   ·refine lg c (rv_move u) (lg c (rv_move u) ?_)
    obtain⟨af,ag,ah⟩:=ob s
    refine wl_indexAddr (t:=tStr) (wg u u c) u underlying22 tf9 u u (f.mono l) ag fun ai aj bj ak al=>?_
    obtain⟨rfl,bk⟩:=ak
    have am:AtK _ ai aj [sv af]:=al
    refine lg c (rv_load1 tf9 u q (am 0 _ u)) (lg c (rv_move u) (lg c (rv_slss u u) (lv (rv_pick_t u c u) (wl_nil ?_))))
    cases oi ah
    exact qd ⟨o,u,q,kr⟩
   iterate 6 refine lu c ?_
   refine lv (p_f u c u) (wl_nil ?_)
   cases oi s
   exact qd ⟨o,u,q,kr⟩
  rintro _ bl ⟨H,rfl,I,J⟩
  refine qe_seq (wcc ae u (fun an x=>?_) (fun an x=>?_))
  ·refine wc_skip (qe_seq (wc_block (wc_region (mv u (lv (rv_add u u) (av u (nb ?_)))))))
   cases oi x
   exact qd ⟨_,u,H,u,I,(l.trans J),(w64_rng _)⟩
  refine wc_exit (qe_then_exit (qe_then_exit ?_))
  cases oi x
  cases aa _ u
  refine qe_block_eq ?_
  cases oi X
  exact qd ⟨H,u,I,(l.trans J),ab⟩
 rintro _ bm ⟨y,rfl,B,i,bn⟩
 refine qs (wc_seq ?_)
 obtain⟨ao,ap,aq⟩:=ob V
 refine wc_cutg (IV w K Z y [(0,V3 A a b),(1,sv q1),(5,V6 m),(32,.bool ao)] [tail (V3 A a b) 9 1]) ?_ ?_
 ·refine wc_region (mv u (mv u (lv (rv_len underlying22 u (f.mono i)) (lv (rv_lss u u) (mv u (bt ap (fun d C=>?_) (fun d C=>?_)))))))
  ·refine lg d (rv_move u) (lg d (rv_move u) ?_)
   obtain⟨ar,au,aw⟩:=ob C
   refine wl_indexAddr (t:=tStr) (wg u u d) u underlying22 tf9 u u (f.mono i) au fun ax ay bo az aA=>?_
   obtain⟨rfl,bp⟩:=az
   have aB:AtK _ ax ay [sv ar]:=aA
   refine lg d (rv_load1 tf9 u B (aB 0 _ u)) (lg d (rv_move u) (lg d (rv_seql u u) (lv (rv_pick_t u d u) (wl_nil ?_))))
   cases oi aw
   exact qd ⟨y,u,B,kr⟩
  iterate 6 refine lu d ?_
  refine lv (p_f u d u) (wl_nil ?_)
  cases oi C
  exact qd ⟨y,u,B,kr⟩
 rintro _ bq ⟨aC,rfl,O,D⟩
 refine qe_seq (wcc aq u (fun aD G=>?_) (fun aD G=>?_))
 ·refine sr (mv u (av u (nq (rr ?_))))
  cases oi G
  exact ey results187 ⟨A,a,b,aC,u,O,(f.mono (i.trans D))⟩
 refine wc_skip (qr (b0 tStr underlying22 tf9 O fun br bs bu R aE aF=>(mv u (mv u ?_))))
 obtain⟨bv,aG,aH⟩:=ob G
 refine wl_sl_h (t:=tStr) wn u underlying22 tf9 u u (f.mono ((i.trans D).trans R)) aG fun bx bz bA aI=>?_
 obtain⟨bB,aJ,aK⟩:=ob aH
 refine lp underlying22 tf9 aE aI aJ aF fun bC bD bE bF bG aL aM aN=>(av u (nr (mv u (mv u (lb tStr (sv q1) [sv q1] q1 underlying22 tf9 ⟨u,T⟩ aN fun bH bI bJ S aO aP=>?_)))))
 obtain⟨bK,aQ,aR⟩:=ob aK
 refine lp underlying22 tf9 (aM.mono S) aO aQ aP.f1 fun bL bM bN bO bP aS aT aU=>(av u (nr (mv u (mv u (mv u ?_)))))
 obtain⟨bQ,aV,aW⟩:=ob aR
 refine wl_sl_l (t:=tStr) wn u underlying22 tf9 u u (SliceAt.mono (((((i.trans D).trans R).trans aL).trans S).trans aS) f) aV fun bR bS bT aX=>?_
 obtain⟨bU,aY,aZ⟩:=ob aW
 refine lp underlying22 tf9 aT aX aY aU fun ba bb bc bV bd bW be bf=>(av u (nq (wc_ret ?_)))
 cases oi aZ
 exact ey results187 ⟨ba,bb,bc,bd,u,bf.s,be⟩

theorem ok_spec_l7Names {q0:List GDoc}{r:(List Str)}(hS:SH w K [] w K [])(S:SliceAt tGDoc K A a b q0)(hm:M.spec_l7Names F q0=some r):
  Calls prog 140 #[V3 A a b] w fun e w'=>∃a_1 n_2 c_3 K',e= .returned (V3 a_1 n_2 c_3)∧SH w K [] w' K' [tail (V3 a_1 n_2 c_3) 9 1]∧SliceAt tStr K' a_1 n_2 c_3 r:=by
 rw [M.spec_l7Names] at hm
 refine ci func140 u ntmps140 (sr (lv (r_n u) (nr (b0 tStr underlying22 tf9 hS fun a5 w6 T U ae af=>(av u (nsr (lv (r_0 u) (nq ?_))))))))
 obtain⟨ag,ah,ai⟩:=ob hm
 refine wc_cutg (fun E' w'=>∃m o q s,E'=[(3,V3 m o q)]∧SH w K [] w' s [tail (V3 m o q) 9 1]∧KLe T s∧SliceAt tStr s m o q ag) ?_ ?_
 ·refine wc_block ?_
  obtain⟨bC,aj,ak⟩:=ob ah
  refine qw (fun (d:(List Str)×Int) E' w'=>∃f i k c,E'=[(0,V3 A a b),(3,V3 f i k),(4,V6 d.2)]∧SH w K [] w' c [tail (V3 f i k) 9 1]∧KLe T c∧SliceAt tStr c f i k d.1∧rng64 d.2) aj ⟨a5,0,0,T,u,af,kr,ae,d_0⟩ ?_
  rintro d _ bD bE al am ⟨f,i,k,c,rfl,X,x,Y,bF⟩
  refine wc_seq (sr (mv u (mv u (lv (rv_len underlying40 u (S.mono (U.trans x))) (lv (rv_lss u u) (nq (wcc al u (fun an V=>?_) (fun an V=>?_))))))))
  ·refine wc_skip (qs (wc_block (sr (lv (r_0 u) (nq ?_)))))
   obtain⟨ao,ap,aq⟩:=ob V
   refine wc_cutg (fun E' w'=>∃y B C D,E'=[(0,V3 A a b),(3,V3 y B C),(4,V6 d.2)]∧SH w K [] w' D [tail (V3 y B C) 9 1]∧KLe c D∧SliceAt tStr D y B C ao) ?_ ?_
   ·refine wc_block ?_
    obtain⟨bG,ar,au⟩:=ob ap
    refine qw (fun (O:(List Str)×Int) E' w'=>∃G H I J,E'=[(0,V3 A a b),(3,V3 G H I),(4,V6 d.2),(5,V6 O.2)]∧SH w K [] w' J [tail (V3 G H I) 9 1]∧KLe c J∧SliceAt tStr J G H I O.1∧rng64 O.2) ar ⟨f,i,k,c,u,X,kr,Y,d_0⟩ ?_
    rintro O _ bH bI aw ax ⟨G,H,I,J,rfl,l,R,aa,bJ⟩
    refine wc_seq (sr (mv u (mv u (mv u ?_))))
    obtain⟨ay,az,aA⟩:=ob aw
    refine li underlying40 tf64 (S.mono ((U.trans x).trans R)) az fun aB aC bK aD aE=>?_
    obtain⟨aF,aG,aH,aI,aJ,aK,rfl,bL,aL,bM⟩:=aD
    have aM:AtK _ aB aC [V6 ay.Id,V3 aF aG aH,V3 aI aJ aK]:=aE
    refine fa ff64_1 u (lv (rv_load1 tf61 u l (aM 1 _ u)) (lv (rv_len underlying61 u aL) (lv (rv_lss u u) (nq (wcc aA u (fun aN W=>?_) (fun aN W=>?_))))))
    ·refine wc_skip (qs (wc_block (wc_region (mv u (mv u (mv u ?_))))))
     obtain⟨aO,aP,aQ⟩:=ob W
     refine li underlying40 tf64 (S.mono ((U.trans x).trans R)) aP fun aR aS bN aT aU=>?_
     obtain⟨aV,aW,aX,aY,aZ,ba,rfl,bO,bb,bP⟩:=aT
     have bc:AtK _ aR aS [V6 aO.Id,V3 aV aW aX,V3 aY aZ ba]:=aU
     refine fa ff64_1 u (lv (rv_load1 tf61 u l (bc 1 _ u)) (mv u ?_))
     obtain⟨ab,bd,be⟩:=ob aQ
     refine li underlying61 tf118 bb bd fun bf bg bQ bh bi=>?_
     obtain⟨rfl,bj,bR⟩:=bh
     have bk:AtK _ bf bg [sv ab.Name,sv ab.Text]:=bi
     refine fa ff118_0 u (lv (rv_load1 tf9 u l (bk 0 _ u)) ?_)
     obtain⟨bS,bl,bm⟩:=ob be
     refine lk co187 (ok_spec_l7Put F l.e1 aa bj bl) ?_
     rintro bT bU ⟨bn,bo,bp,bq,rfl,ac,br⟩
     have bs:=(l.c1 ac).t1
     refine av u (nb (qe_seq (wc_region (mv u (lv (rv_add u u) (av u (wl_nil ?_)))))))
     cases oi bm
     exact qd ⟨_,u,bn,bo,bp,bq,u,bs,(R.trans ac.le),br,(w64_rng _)⟩
    refine wc_exit (qe_then_exit (qe_then_exit ?_))
    cases oi W
    cases ax _ u
    refine qe_block_eq ?_
    cases oi au
    exact qd ⟨G,H,I,J,u,l,R,aa⟩
   rintro _ bV ⟨y,B,C,D,rfl,bu,bv,bx⟩
   refine qe_block (qe_seq (wc_region (mv u (lv (rv_add u u) (av u (wl_nil ?_))))))
   cases oi aq
   exact qd ⟨_,u,y,B,C,D,u,bu,(x.trans bv),bx,(w64_rng _)⟩
  refine wc_exit (qe_then_exit (qe_then_exit ?_))
  cases oi V
  cases am _ u
  refine qe_block_eq ?_
  cases oi ak
  exact qd ⟨f,i,k,c,u,X,x,Y⟩
 rintro _ bW ⟨m,o,q,s,rfl,bz,bX,bA⟩
 refine qr (mv u (av u (nq (wc_ret ?_))))
 cases oi ai
 exact ey results140 ⟨m,o,q,s,u,bz,bA⟩

theorem ok_spec_l1Words {q0:Str}{r:(List GWord)}(hS:SH w K [] w K [])(bY:q0.length≤maxLen)(hm:M.spec_l1Words F q0=some r):
  Calls prog 58 #[sv q0] w fun e w'=>∃a_1 n_2 c_3 K',e= .returned (V3 a_1 n_2 c_3)∧SH w K [] w' K' [tail (V3 a_1 n_2 c_3) 114 4]∧SliceAt tGWord K' a_1 n_2 c_3 r:=by
 rw [M.spec_l1Words] at hm
 refine ci func58 u ntmps58 (sr (lv (r_n u) (nr (b0 tGWord underlying110 tf114 hS fun a2 w3 W ca aB aC=>(av u (nsr (lv (r_0 u) (nq ?_))))))))
 obtain⟨o8,h9,aF⟩:=ob hm
 refine wc_cutg (fun E' w'=>∃B C D G,E'=[(3,V3 B C D)]∧SH w K [] w' G [tail (V3 B C D) 114 4]∧KLe W G∧SliceAt tGWord G B C D o8) ?_ ?_
 ·refine wc_block ?_
  obtain⟨cb,aG,aH⟩:=ob h9
  refine qw (fun (a:(List GWord)×Int) E' w'=>∃c d f H,E'=[(0,sv q0),(3,V3 c d f),(4,V6 a.2)]∧SH w K [] w' H [tail (V3 c d f) 114 4]∧KLe W H∧SliceAt tGWord H c d f a.1∧rng64 a.2) aG ⟨a2,0,0,W,u,aC,kr,aB,d_0⟩ ?_
  rintro a _ cc cd aI aJ ⟨c,d,f,H,rfl,ap,X,I,aq⟩
  refine wc_seq (sr (mv u (mv u (lv (rv_slen underlying9 u) (lv (rv_lss u u) (nq (wcc aI u (fun aK Y=>?_) (fun aK Y=>?_))))))))
  ·refine wc_skip (qs (wc_block (sr (b0 tU8 underlying50 tf5 ap fun aL ce aa s aM aN=>(av u (nr (mv u (av u (ns ?_)))))))))
   obtain⟨k,aO,aP⟩:=ob Y
   refine wc_cutg (fun E' w'=>∃J O R l,E'=[(0,sv q0),(3,V3 c d f),(4,V6 k.1),(5,V3 J O R),(6,V6 a.2)]∧SH w K [] w' l [tail (V3 c d f) 114 4,tail (V3 J O R) 5 1]∧KLe aa l∧rng64 k.1∧SliceAt tU8 l J O R k.2) ?_ ?_
   ·refine wc_block ?_
    obtain⟨cf,aQ,aR⟩:=ob aO
    refine qw (fun (S:Int×(List UInt8)) E' w'=>∃m o q x,E'=[(0,sv q0),(3,V3 c d f),(4,V6 S.1),(5,V3 m o q),(6,V6 a.2)]∧SH w K [] w' x [tail (V3 c d f) 114 4,tail (V3 m o q) 5 1]∧KLe aa x∧rng64 S.1∧SliceAt tU8 x m o q S.2) aQ ⟨aL,0,0,aa,u,aN.f1,kr,aq,aM⟩ ?_
    rintro S _ cg ch aS aT ⟨m,o,q,x,rfl,ab,ar,aU,au⟩
    refine wc_seq (wc_seq ?_)
    obtain⟨aV,aW,aX⟩:=ob aS
    refine wc_cutg (IV w K [] x [(0,sv q0),(3,V3 c d f),(4,V6 S.1),(5,V3 m o q),(6,V6 a.2),(26,.bool aV)] [tail (V3 c d f) 114 4,tail (V3 m o q) 5 1]) ?_ ?_
    ·refine wc_region (mv u (mv u (lv (rv_slen underlying9 u) (lv (rv_lss u u) (mv u (bt aW (fun i ac=>?_) (fun i ac=>?_)))))))
     ·refine lg i (rv_move u) (lg i (rv_move u) ?_)
      obtain⟨aY,aZ,ba⟩:=ob ac
      refine lg i (rv_sidx underlying9 u u aZ) ?_
      obtain⟨cj,bb,bc⟩:=ob ba
      refine wl_call (wg u u i) u (rt_call (vs:=[iv8 aY]) co109 u) (ok_spec_l1Fold F ab.enter0 bb) ?_
      rintro ck cl ⟨bd,rfl,aw⟩
      refine⟨_,u,?_⟩
      have be:=(ab.c0 aw).t2
      refine lg i (rv_bne (b:=(0:UInt8)) u u) (lv (rv_pick_t u i u) (wl_nil ?_))
      cases oi bc
      exact qd ⟨bd,u,be,aw.le⟩
     iterate 5 refine lu i ?_
     refine lv (p_f u i u) (wl_nil ?_)
     cases oi ac
     exact qd ⟨x,u,ab,kr⟩
    rintro _ cm ⟨bf,rfl,ad,V⟩
    refine qe_seq (wcc aX u (fun bg ae=>?_) (fun bg ae=>?_))
    ·refine wc_skip (qe_seq (wc_block (sr (mv u (mv u (mv u ?_))))))
     obtain⟨cn,bh,bi⟩:=ob ae
     refine lv (rv_sidx underlying9 u u bh) ?_
     obtain⟨af,bj,bk⟩:=ob bi
     refine lk co109 (ok_spec_l1Fold F ad.enter0 bj) ?_
     rintro cp cq ⟨cr,rfl,ag⟩
     have bl:=(ad.c0 ag).t2
     refine lb tU8 (iv8 af) [iv8 af] af underlying50 tf5 u bl fun ct cu cv ax bm bn=>?_
     obtain⟨cw,bo,bp⟩:=ob bk
     refine lp underlying50 tf5 (au.mono ((V.trans ag.le).trans ax)) bm bo bn.f2 fun bq br bs cx bu bv bx bz=>(av u (nq (wc_region (mv u (lv (rv_add u u) (av u (nb ?_)))))))
     cases oi bp
     exact qd ⟨_,u,bq,br,bs,bu,u,bz.f2.s,((((ar.trans V).trans ag.le).trans ax).trans bv),(w64_rng _),bx⟩
    refine wc_exit (qe_then_exit (qe_then_exit ?_))
    cases oi ae
    cases aT _ u
    refine qe_block_eq ?_
    cases oi aR
    exact qd ⟨m,o,q,bf,u,ad,(ar.trans V),aU,(au.mono V)⟩
   rintro _ cy ⟨J,O,R,l,rfl,ay,y,bA,ah⟩
   refine qs (sr (mv u (lv (rv_len underlying50 u ah) (lv (rv_gtr u u) (nq ?_)))))
   obtain⟨T,bB,bC⟩:=ob aP
   refine wc_cutg (fun E' w'=>∃ai aj ak U,E'=[(0,sv q0),(3,V3 c d f),(4,V6 k.1),(5,V3 ai aj ak),(6,V6 a.2)]∧SH w K [] w' U [tail (V3 c d f) 114 4]∧KLe l U∧SliceAt tU8 U ai aj ak T) ?_ ?_
   ·refine wcc bB u (fun bD al=>?_) (fun bD al=>?_)
    ·refine wc_region (mv u ?_)
     obtain⟨cz,bE,bF⟩:=ob al
     refine wl_sl_h (t:=tU8) wn u underlying50 tf5 u u ah bE fun bG bH bI bJ=>(av u (wl_nil ?_))
     cases oi bF
     exact qd ⟨bG,bH,bI,l,u,ay.s,kr,bJ⟩
    refine wc_skip ?_
    cases oi al
    exact qd ⟨J,O,R,l,u,ay.s,kr,ah⟩
   rintro _ cA ⟨ai,aj,ak,U,rfl,am,A,an⟩
   refine qr (mv u (lv (rv_len underlying50 u an) (lv (rv_gtr u u) (nq (wcc bC u (fun bK ao=>?_) (fun bK ao=>?_))))))
   ·refine wc_region (mv u (mv u (lv (rv_b2s underlying50 underlying5 underlying9 u an am) (mv u (lv (rv_len underlying110 u (I.mono ((s.trans y).trans A))) (mv u (mv u (lv (rv_build (cs:=#[sv T,V6 (a.1.length:Int),V6 a.2,V6 k.1]) sp114 tf114 u (by kernel_rfl)) (lb tGWord (.agg #[sv T,V6 (a.1.length:Int),V6 a.2,V6 k.1]) [sv T,V6 (a.1.length:Int),V6 a.2,V6 k.1] (GWord.mk T (a.1.length:Int) a.2 k.1) underlying110 tf114 ⟨u,(SliceAt.max an),(rng_nat (SliceAt.max (I.mono ((s.trans y).trans A)))),aq,bA⟩ am fun cB cC cD az bL bM=>?_)))))))))
    obtain⟨cE,bN,bO⟩:=ob ao
    refine lp underlying110 tf114 (SliceAt.mono (((s.trans y).trans A).trans az) I) bL bN bM.f1 fun bP bQ bR cF bS bT bU bV=>(av u (nb (qe_seq (wc_region (mv u (lv (rv_add u u) (av u (wl_nil ?_))))))))
    cases oi bO
    exact qd ⟨_,u,bP,bQ,bR,bS,u,bV.s,(((((X.trans s).trans y).trans A).trans az).trans bT),bU,(w64_rng _)⟩
   refine wc_skip (qe_block (qe_seq (wc_region (mv u (lv (rv_add u u) (av u (wl_nil ?_)))))))
   cases oi ao
   exact qd ⟨_,u,c,d,f,U,u,am,(((X.trans s).trans y).trans A),(I.mono ((s.trans y).trans A)),(w64_rng _)⟩
  refine wc_exit (qe_then_exit (qe_then_exit ?_))
  cases oi Y
  cases aJ _ u
  refine qe_block_eq ?_
  cases oi aH
  exact qd ⟨c,d,f,H,u,ap,X,I⟩
 rintro _ cG ⟨B,C,D,G,rfl,bW,cH,bX⟩
 refine qr (mv u (av u (nq (wc_ret ?_))))
 cases oi aF
 exact ey results58 ⟨B,C,D,G,u,bW,bX⟩

theorem ok_spec_l2Plain {q0:GConf}{q1:Str}{r:(List GTerm)}(hS:SH w K [] w K [])(ac:SliceAt tStr K A a b q0.Stops)(bQ:SliceAt tGSyn K B c d q0.Syns)(ak:q1.length≤maxLen)(hm:M.spec_l2Plain F q0 q1=some r):
  Calls prog 110 #[.agg #[V3 A a b,V3 B c d],sv q1] w fun e w'=>∃a_1 n_2 c_3 K',e= .returned (V3 a_1 n_2 c_3)∧SH w K [] w' K' [tail (V3 a_1 n_2 c_3) 104 2]∧SliceAt tGTerm K' a_1 n_2 c_3 r:=by
 rw [M.spec_l2Plain] at hm
 refine ci func110 u ntmps110 (sr (bx u hS fun s bR al=>?_))
 have am:SH _ _ _ _ _ [obj s [V3 A a b,V3 B c d] 38]:=al
 refine lv (r_n u) (nr (b0 tGTerm underlying101 tf104 am fun an bS bT ad ao ae=>(av u (nr (mv u ?_)))))
 obtain⟨bU,ap,aq⟩:=ob hm
 refine lk co58 (ok_spec_l1Words F ae.enter0 ak ap) ?_
 rintro bV bW ⟨af,ag,ah,V,rfl,O,R⟩
 have ar:=(ae.c0 O).t3
 refine av u (nsr (lv (r_0 u) (nq ?_)))
 obtain⟨au,aw,ax⟩:=ob aq
 refine wc_cutg (fun E' w'=>∃x y C D,E'=[(5,V3 x y C)]∧SH w K [] w' D [tail (V3 x y C) 104 2]∧KLe V D∧SliceAt tGTerm D x y C au) ?_ ?_
 ·refine wc_block ?_
  obtain⟨bX,ay,az⟩:=ob aw
  have aA:=ar.f1.f2.sb (sk (sk (sd sz)))
  refine qw (fun (G:(List GTerm)×Int) E' w'=>∃l m o H,E'=[(2,pt s),(5,V3 l m o),(6,V3 af ag ah),(7,V6 G.2)]∧SH w K [] w' H [obj s [V3 A a b,V3 B c d] 38,tail (V3 l m o) 104 2]∧KLe V H∧SliceAt tGTerm H l m o G.1∧rng64 G.2) ay ⟨an,0,0,V,u,aA,kr,(ao.mono O.le),d_0⟩ ?_
  rintro G _ bY bZ aB aC ⟨l,m,o,H,rfl,S,f,W,ca⟩
  refine wc_seq (sr (mv u (mv u (lv (rv_len underlying110 u (R.mono f)) (lv (rv_lss u u) (nq (wcc aB u (fun aD X=>?_) (fun aD X=>?_))))))))
  ·refine wc_skip (qs (wc_block (sr (mv u (mv u ?_)))))
   obtain⟨T,aE,aF⟩:=ob X
   refine li underlying110 tf114 (R.mono f) aE fun aG aH cb aI aJ=>?_
   obtain⟨rfl,aK,cc,cd,ce⟩:=aI
   have aL:AtK _ aG aH [sv T.Text,V6 T.At,V6 T.From,V6 T.To]:=aJ
   refine fa ff114_0 u (lv (rv_load1 tf9 u S (aL 0 _ u)) ?_)
   obtain⟨I,aM,aN⟩:=ob aF
   refine lk co114 (ok_spec_l2Stem F S.enter0 aK aM) ?_
   rintro cf cg ⟨aO,rfl,i,ai⟩
   have aP:=(S.c0 i).t2
   refine av u (ns ?_)
   obtain⟨aQ,aR,aS⟩:=ob aN
   refine wc_cutg (IV w K [] aO [(2,pt s),(5,V3 l m o),(6,V3 af ag ah),(7,V6 G.2),(8,sv I),(39,.bool aQ)] [obj s [V3 A a b,V3 B c d] 38,tail (V3 l m o) 104 2]) ?_ ?_
   ·refine wc_quiet mixed (by kernel_rfl) aP (kv (rv_fieldAddr ff38_0 u) (kh (rq_loadm1 tf22 u m0 u) (km u (km u ?_))))
    obtain⟨U,aT,aU⟩:=ob aR
    refine ki underlying110 tf114 (R.mono (f.trans i.le)) aT fun aV aW ch aX aY=>?_
    obtain⟨rfl,aZ,cj,ck,cl⟩:=aX
    have ba:AtK _ aV aW [sv U.Text,V6 U.At,V6 U.From,V6 U.To]:=aY
    refine kv (rv_fieldAddr ff114_0 u) (kh (rq_load1 tf9 u (ba 0 _ u)) ?_)
    obtain⟨cm,bb,bc⟩:=ob aU
    refine kc co60 (fun _ _ bd be=>(ok_spec_l2Has F) bd.enter0 (SliceAt.mono ((((ad.trans O.le).trans f).trans i.le).trans be) ac) aZ bb) (kv (rv_not u) (km u (bt bc (fun k Y=>?_) (fun k Y=>?_))))
    ·refine kg k (rv_fieldAddr ff38_0 u) (kgh k (rq_loadm1 tf22 u m0 u) (kg k (rv_move u) ?_))
     obtain⟨cn,bf,bg⟩:=ob Y
     refine kcg k co60 (fun _ _ bh bi=>(ok_spec_l2Has F) bh.enter0 (SliceAt.mono ((((ad.trans O.le).trans f).trans i.le).trans bi) ac) ai bf) (kg k (rv_not u) (kv (rv_pick_t u k u) (wq_nil ?_)))
     rintro cp ⟨bj,bk,bl⟩
     cases oi bg
     exact qd ⟨bj,u,bk,bl⟩
    iterate 5 refine kn k ?_
    refine kv (p_f u k u) (wq_nil ?_)
    rintro cq ⟨bm,bn,bo⟩
    cases oi Y
    exact qd ⟨bm,u,bn,bo⟩
   rintro _ cr ⟨bp,rfl,aa,J⟩
   refine qe_seq (wcc aS u (fun bq ab=>?_) (fun bq ab=>?_))
   ·refine wc_region (mv u (mv u (mv u (mv u ?_))))
    obtain⟨q,br,bs⟩:=ob ab
    refine li underlying110 tf114 (R.mono ((f.trans i.le).trans J)) br fun bu bv ct bz bA=>?_
    obtain⟨rfl,cu,bB,cv,cw⟩:=bz
    have bC:AtK _ bu bv [sv q.Text,V6 q.At,V6 q.From,V6 q.To]:=bA
    refine fa ff114_1 u (lv (rv_load1 tf3 u aa (bC 1 _ u)) (lv (rv_build (cs:=#[sv I,V6 q.At]) sp104 tf104 u (by kernel_rfl)) (lb tGTerm (.agg #[sv I,V6 q.At]) [sv I,V6 q.At] (GTerm.mk I q.At) underlying101 tf104 ⟨u,ai,bB⟩ aa fun cx cy cz aj bD bE=>?_)))
    obtain⟨cA,bF,bG⟩:=ob bs
    refine lp underlying101 tf104 (W.mono ((i.le.trans J).trans aj)) bD bF bE.f2 fun bH bI bJ cB bK bL bM bN=>(av u (nb (qe_seq (wc_region (mv u (lv (rv_add u u) (av u (wl_nil ?_))))))))
    cases oi bG
    exact qd ⟨_,u,bH,bI,bJ,bK,u,bN.f2.s,((((f.trans i.le).trans J).trans aj).trans bL),bM,(w64_rng _)⟩
   refine wc_skip (qe_block (qe_seq (wc_region (mv u (lv (rv_add u u) (av u (wl_nil ?_)))))))
   cases oi ab
   exact qd ⟨_,u,l,m,o,bp,u,aa,((f.trans i.le).trans J),(W.mono (i.le.trans J)),(w64_rng _)⟩
  refine wc_exit (qe_then_exit (qe_then_exit ?_))
  cases oi X
  cases aC _ u
  refine qe_block_eq ?_
  cases oi az
  exact qd ⟨l,m,o,H,u,S.s,f,W⟩
 rintro _ cC ⟨x,y,C,D,rfl,bO,cD,bP⟩
 refine qr (mv u (av u (nq (wc_ret ?_))))
 cases oi ax
 exact ey results110 ⟨x,y,C,D,u,bO,bP⟩
end Go.Proofs.YtpdfkjjmcnhakaaGreatDoor
