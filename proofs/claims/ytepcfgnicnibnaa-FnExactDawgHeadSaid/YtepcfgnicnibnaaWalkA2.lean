/-
 Walks of the functions. Printed by gen.py.
-/
import Derived.Test.YtepcfgnicnibnaaWalkA0
import Derived.Test.YtepcfgnicnibnaaWalkA1
set_option linter.unusedVariables false
set_option linter.unusedSectionVars false
set_option maxRecDepth 100000
namespace Go.Proofs.Ytepcfgnicnibnaa
set_option maxHeartbeats 4000000
open Go Go.Fk Go.RowKit Try
variable (F:Nat){w:World}{K:KMap}{Z:List Nat}{g1 g2 g3:Nat}{A B C D G H I J O R S T:Option Addr}{a b c d f i k l m n o p q s v x y aa ab ac ad ae af ag:Nat}
variable [dr:Dr]

theorem ok_stringslite_HasPrefix {q0:Str}{q1:Str}{r:Bool}(hS:SH w K [] w K [])(f:q0.length≤maxLen)(i:q1.length≤maxLen)(hm:M.stringslite_HasPrefix F q0 q1=some r):
  Calls prog 88 #[sv q0,sv q1] w (R_b w K r):=by
 rw [M.stringslite_HasPrefix] at hm
 refine ci func88 u ntmps88 (sr (lv (r_f u) (nr (mv u (lv (rv_slen underlying9 u) (mv u (lv (rv_slen underlying9 u) (lv (rv_geq u u) (mv u ?_)))))))))
 refine bt hm (fun a b=>?_) (fun a b=>?_)
 ·refine lg a (rv_move u) (lg a (rv_move u) (lg a (rv_slen underlying9 u) ?_))
  obtain⟨k,c,d⟩:=ob b
  refine lg a (rv_ssl_h underlying9 u u c) (lg a (rv_move u) (lg a (rv_seql u u) (lv (rv_pick_t u a u) (av u (nq (wc_ret ?_))))))
  cases oi d
  exact ey results88 ⟨K,u,hS⟩
 iterate 6 refine lu a ?_
 refine lv (p_f u a u) (av u (nq (wc_ret ?_)))
 cases oi b
 exact ey results88 ⟨K,u,hS⟩

theorem ok_strings_HasPrefix {q0:Str}{q1:Str}{r:Bool}(hS:SH w K [] w K [])(a:q0.length≤maxLen)(b:q1.length≤maxLen)(hm:M.strings_HasPrefix F q0 q1=some r):
  Calls prog 54 #[sv q0,sv q1] w (R_b w K r):=by
 rw [M.strings_HasPrefix] at hm
 refine ci func54 u ntmps54 (sr (lv (r_f u) (nr (mv u (mv u ?_)))))
 obtain⟨l,c,d⟩:=ob hm
 refine lk co88 (ok_stringslite_HasPrefix F hS.enter0 a b c) ?_
 rintro m o ⟨f,rfl,i⟩
 have k:=(hS.c0 i).t0
 refine av u (nq (wc_ret ?_))
 cases oi d
 exact ey results54 ⟨f,u,k⟩

theorem ok_impl_DawgHead {q0:List GState}{q1:Str}{r:(List Str)}(hS:SH w K [] w K [])(T:SliceAt tGState K A a b q0)(U:q1.length≤maxLen)(hm:M.impl_DawgHead F q0 q1=some r):
  Calls prog 19 #[V3 A a b,sv q1] w fun e w'=>∃a_1 n_2 c_3 K',e= .returned (V3 a_1 n_2 c_3)∧SH w K [] w' K' [tail (V3 a_1 n_2 c_3) 9 1]∧SliceAt tStr K' a_1 n_2 c_3 r:=by
 rw [M.impl_DawgHead] at hm
 refine ci func19 u ntmps19 (sr (lv (r_n u) (nr (mv u ?_))))
 obtain⟨V,W,X⟩:=ob hm
 refine lk co53 (ok_impl_wordsIn F hS.enter0 T W) ?_
 rintro aR aS ⟨Y,aa,ab,K9,rfl,ac,y⟩
 have ad:=(hS.c0 ac).t1
 refine mv u (lv (rv_extract u u) (lv (rv_extract u u) (av u (av u (nr (b0 tStr underlying35 tf9 ad fun ae aU G B af ag=>(av u (nsr (mv u ?_)))))))))
 refine lv (rv_len underlying35 u (y.mono B)) (lv (r_m u) (nq ?_))
 obtain⟨ah,ai,aj⟩:=ob X
 refine wc_cutg (fun E' w'=>∃k l m o,E'=[(7,V3 k l m)]∧SH w K [] w' o [tail (V3 k l m) 9 1]∧KLe G o∧SliceAt tStr o k l m ah) ?_ ?_
 ·refine wc_block ?_
  obtain⟨aV,ak,al⟩:=ob ai
  have am:=ag.sb (sk (sd sz))
  refine qF (fun (J:Nat) (H:(List Str)) E' w'=>∃c d f i,E'=[(1,sv q1),(7,V3 c d f),(16,V3 Y aa ab),(17,V6 (V.1.length:Int)),(18,V6 ((J:Nat):Int))]∧SH w K [] w' i [tail (V3 c d f) 9 1]∧KLe G i∧SliceAt tStr i c d f H) ak ⟨ae,0,0,G,u,am,kr,af⟩ ?_ ?_
  ·rintro J H _ an aW hi50 ao ⟨c,d,f,i,rfl,q,s,C⟩
   refine sr (lv (rv_lss u u) (ns (wc_cond_t u (decide_eq_true (by omega)) (wc_skip (qe_seq (wc_seq (wc_block (sr ?_))))))))
   obtain⟨D,ap,aq⟩:=ob ao
   refine li underlying35 tf9 (y.mono (B.trans s)) ap fun ar au aX aw ax=>?_
   obtain⟨rfl,O⟩:=aw
   have ay:AtK _ ar au [sv D]:=ax
   refine lv (rv_load1 tf9 u q (ay 0 _ u)) (av u (nr (mv u (mv u ?_))))
   obtain⟨aY,az,aA⟩:=ob aq
   refine lk co54 (ok_strings_HasPrefix F q.enter0 O U az) ?_
   rintro aZ ba ⟨aB,rfl,x⟩
   have R:=(q.c0 x).t1
   refine nq (wcc aA u (fun aC I=>?_) (fun aC I=>?_))
   ·refine wc_region (mv u (mv u (lb tStr (sv D) [sv D] D underlying35 tf9 ⟨u,O⟩ R fun bb bc bd S aD aE=>?_)))
    obtain⟨be,aF,aG⟩:=ob I
    refine lp underlying35 tf9 (C.mono (x.le.trans S)) aD aF aE.f1 fun aH aI aJ bf aK aL aM aN=>(av u (nb (qg (lv (rv_add_to u u (w64_succ hi50 (SliceAt.max (y.mono B)))) (mv u (wl_nil ?_))))))
    cases oi aG
    exact qd ⟨aH,aI,aJ,aK,u,aN.s,(((s.trans x.le).trans S).trans aL),aM⟩
   refine wc_skip (qe_block (qg (lv (rv_add_to u u (w64_succ hi50 (SliceAt.max (y.mono B)))) (mv u (wl_nil ?_)))))
   cases oi I
   exact qd ⟨c,d,f,aB,u,R,(s.trans x.le),(C.mono x.le)⟩
  rintro H _ an aO ⟨c,d,f,i,rfl,q,s,C⟩
  subst aO
  refine sr (lv (rv_lss u u) (ns (wc_cond_f u (decide_eq_false (by omega)) (wc_exit (qe_then_exit (qe_then_exit (qe_block_eq ?_)))))))
  cases oi al
  exact qd ⟨c,d,f,i,u,q,s,C⟩
 rintro _ bg ⟨k,l,m,o,rfl,aP,bh,aQ⟩
 refine qr (mv u (av u (nq (wc_ret ?_))))
 cases oi aj
 exact ey results19 ⟨k,l,m,o,u,aP,aQ⟩

theorem ok_laws_eqStringS {q0:List Str}{q1:List Str}{r:Bool}(hS:SH w K [] w K [])(k:SliceAt tStr K A a b q0)(x:SliceAt tStr K B c d q1)(hm:M.laws_eqStringS F q0 q1=some r):
  Calls prog 20 #[V3 A a b,V3 B c d] w (R_b w K r):=by
 rw [M.laws_eqStringS] at hm
 refine ci func20 u ntmps20 (sr (lv (r_f u) (nsr (mv u (lv (rv_len underlying35 u k) (mv u (lv (rv_len underlying35 u x) (lv (rv_neq u u) (nq ?_)))))))))
 refine wc_cond u (fun l=>?_) (fun l=>?_)
 ·have m:=cond_t l hm
  refine sr (lv (r_f u) (nq (rr ?_)))
  cases oi m
  exact ey results20 ⟨K,u,hS⟩
 have m:=cond_f l hm
 refine wc_skip (qs (sr (lv (r_0 u) (nq ?_))))
 obtain⟨I,J,i⟩:=ob m
 refine wc_cutg (IE I w K [] K [] []) ?_ ?_
 ·refine wc_block ?_
  obtain⟨ap,O,y⟩:=ob J
  refine qw (fun (o:Int)=>IW w K [] K [(0,V3 A a b),(1,V3 B c d),(5,V6 o)] [] (rng64 o)) O ⟨K,u,hS,kr,d_0⟩ ?_
  rintro o _ aq ar R C ⟨S,rfl,D,f,au⟩
  refine wc_seq (sr (mv u (mv u (lv (rv_len underlying35 u (k.mono f)) (lv (rv_lss u u) (nq (wcc R u (fun T q=>?_) (fun T q=>?_))))))))
  ·refine wc_skip (qs (wc_block (wc_seq (wc_quiet mixed (by kernel_rfl) D (km u (km u ?_))))))
   obtain⟨U,V,W⟩:=ob q
   refine ki underlying35 tf9 (k.mono f) V fun X Y aw aa ab=>?_
   obtain⟨rfl,ax⟩:=aa
   have ac:AtK _ X Y [sv U]:=ab
   refine kh (rq_load1 tf9 u (ac 0 _ u)) (km u (km u ?_))
   obtain⟨ad,ae,af⟩:=ob W
   refine ki underlying35 tf9 (x.mono f) ae fun ag ah ay ai aj=>?_
   obtain⟨rfl,az⟩:=ai
   have ak:AtK _ ag ah [sv ad]:=aj
   refine kh (rq_load1 tf9 u (ak 0 _ u)) (kv (rv_sneq u u) (wq_nil ?_))
   rintro aA ⟨G,H,al⟩
   refine qe_seq (wcc af u (fun am s=>?_) (fun am s=>?_))
   ·refine sr (lv (r_f u) (nq (wc_ret (qe_block_ret (qe_then_ret (qe_then_ret ?_))))))
    cases oi s
    cases C _ u
    refine qe_block_ret (qe_then_ret ?_)
    cases oi y
    refine qe_then_ret ?_
    cases oi i
    exact ey results20 ⟨G,u,H⟩
   refine wc_skip (qe_block (qe_seq (wc_region (mv u (lv (rv_add u u) (av u (wl_nil ?_)))))))
   cases oi s
   exact qd ⟨_,u,G,u,H,(f.trans al),(w64_rng _)⟩
  refine wc_exit (qe_then_exit (qe_then_exit ?_))
  cases oi q
  cases C _ u
  refine qe_block_eq ?_
  cases oi y
  exact qe_mid' ⟨_,S,u,u,D,f⟩ trivial
 rintro _ aB ⟨aC,an,rfl,rfl,ao,aD⟩
 have i:=elim_l i
 refine qr (lv (r_t u) (nq (wc_ret ?_)))
 cases oi i
 exact ey results20 ⟨an,u,ao⟩

theorem ok_laws_eqArc {q0:GArc}{q1:GArc}{r:Bool}(hS:SH w K [] w K [])(o:rng64 q0.To)(q:rng64 q1.To)(hm:M.laws_eqArc F q0 q1=some r):
  Calls prog 109 #[.agg #[iv8 q0.Byte,V6 q0.To],.agg #[iv8 q1.Byte,V6 q1.To]] w (R_b w K r):=by
 rw [M.laws_eqArc] at hm
 refine ci func109 u ntmps109 (sr (bx u hS fun g3 s f=>?_))
 have i:SH _ _ _ _ _ [obj g3 [iv8 q0.Byte,V6 q0.To] 116]:=f
 refine bx u i fun k x l=>?_
 have a:SH _ _ _ _ _ [obj k [iv8 q1.Byte,V6 q1.To] 116,_]:=l
 refine lv (r_f u) (nsr (fl ff116_0 u tf5 m1 a u (fl ff116_0 u tf5 m0 a u (lv (rv_bne u u) (nq (wc_cond u (fun b=>?_) (fun b=>?_)))))))
 ·have c:=cond_t b hm
  refine sr (lv (r_f u) (nq (rr ?_)))
  cases oi c
  exact ey results109 ⟨K,u,a.s⟩
 have c:=cond_f b hm
 refine wc_skip (qs (sr (fl ff116_1 u tf3 m1 a u (fl ff116_1 u tf3 m0 a u (lv (rv_neq u u) (nq (wcc c u (fun m d=>?_) (fun m d=>?_))))))))
 ·refine sr (lv (r_f u) (nq (rr ?_)))
  cases oi d
  exact ey results109 ⟨K,u,a.s⟩
 refine wc_skip (qr (lv (r_t u) (nq (wc_ret ?_))))
 cases oi d
 exact ey results109 ⟨K,u,a.s⟩

theorem ok_laws_eqArcS {q0:List GArc}{q1:List GArc}{r:Bool}(hS:SH w K [] w K [])(k:SliceAt tGArc K A a b q0)(x:SliceAt tGArc K B c d q1)(hm:M.laws_eqArcS F q0 q1=some r):
  Calls prog 89 #[V3 A a b,V3 B c d] w (R_b w K r):=by
 rw [M.laws_eqArcS] at hm
 refine ci func89 u ntmps89 (sr (lv (r_f u) (nsr (mv u (lv (rv_len underlying76 u k) (mv u (lv (rv_len underlying76 u x) (lv (rv_neq u u) (nq ?_)))))))))
 refine wc_cond u (fun l=>?_) (fun l=>?_)
 ·have m:=cond_t l hm
  refine sr (lv (r_f u) (nq (rr ?_)))
  cases oi m
  exact ey results89 ⟨K,u,hS⟩
 have m:=cond_f l hm
 refine wc_skip (qs (sr (lv (r_0 u) (nq ?_))))
 obtain⟨O,R,i⟩:=ob m
 refine wc_cutg (IE O w K [] K [] []) ?_ ?_
 ·refine wc_block ?_
  obtain⟨ax,S,y⟩:=ob R
  refine qw (fun (o:Int)=>IW w K [] K [(0,V3 A a b),(1,V3 B c d),(5,V6 o)] [] (rng64 o)) S ⟨K,u,hS,kr,d_0⟩ ?_
  rintro o _ ay az T C ⟨U,rfl,D,f,aA⟩
  refine wc_seq (sr (mv u (mv u (lv (rv_len underlying76 u (k.mono f)) (lv (rv_lss u u) (nq (wcc T u (fun V q=>?_) (fun V q=>?_))))))))
  ·refine wc_skip (qs (wc_block (wc_seq (wc_quiet mixed (by kernel_rfl) D (km u (km u ?_))))))
   obtain⟨G,W,X⟩:=ob q
   refine ki underlying76 tf116 (k.mono f) W fun Y aa aB ab ac=>?_
   obtain⟨rfl,ad⟩:=ab
   have ae:AtK _ Y aa [iv8 G.Byte,V6 G.To]:=ac
   refine kh (rq_loadS tf116 u ae u) (km u (km u ?_))
   obtain⟨H,af,ag⟩:=ob X
   refine ki underlying76 tf116 (x.mono f) af fun ah ai aC aj ak=>?_
   obtain⟨rfl,al⟩:=aj
   have am:AtK _ ah ai [iv8 H.Byte,V6 H.To]:=ak
   refine kh (rq_loadS tf116 u am u) ?_
   obtain⟨aD,an,ao⟩:=ob ag
   refine kc co109 (fun _ _ ap aE=>(ok_laws_eqArc F) ap.enter0 ad al an) (kv (rv_not u) (wq_nil ?_))
   rintro aF ⟨I,J,aq⟩
   refine qe_seq (wcc ao u (fun ar s=>?_) (fun ar s=>?_))
   ·refine sr (lv (r_f u) (nq (wc_ret (qe_block_ret (qe_then_ret (qe_then_ret ?_))))))
    cases oi s
    cases C _ u
    refine qe_block_ret (qe_then_ret ?_)
    cases oi y
    refine qe_then_ret ?_
    cases oi i
    exact ey results89 ⟨I,u,J⟩
   refine wc_skip (qe_block (qe_seq (wc_region (mv u (lv (rv_add u u) (av u (wl_nil ?_)))))))
   cases oi s
   exact qd ⟨_,u,I,u,J,(f.trans aq),(w64_rng _)⟩
  refine wc_exit (qe_then_exit (qe_then_exit ?_))
  cases oi q
  cases C _ u
  refine qe_block_eq ?_
  cases oi y
  exact qe_mid' ⟨_,U,u,u,D,f⟩ trivial
 rintro _ aG ⟨aH,au,rfl,rfl,aw,aI⟩
 have i:=elim_l i
 refine qr (lv (r_t u) (nq (wc_ret ?_)))
 cases oi i
 exact ey results89 ⟨au,u,aw⟩

theorem ok_laws_eqState {q0:GState}{q1:GState}{r:Bool}(hS:SH w K [] w K [])(T:rng64 q0.Many)(s:SliceAt tGArc K A a b q0.Arcs)(U:rng64 q1.Many)(x:SliceAt tGArc K B c d q1.Arcs)(hm:M.laws_eqState F q0 q1=some r):
  Calls prog 55 #[.agg #[.bool q0.Final,V6 q0.Many,V3 A a b],.agg #[.bool q1.Final,V6 q1.Many,V3 B c d]] w (R_b w K r):=by
 rw [M.laws_eqState] at hm
 refine ci func55 u ntmps55 (sr (bx u hS fun y V C=>?_))
 have D:SH _ _ _ _ _ [obj y [.bool q0.Final,V6 q0.Many,V3 A a b] 78]:=C
 refine bx u D fun G W H=>?_
 have f:SH _ _ _ _ _ [obj G [.bool q1.Final,V6 q1.Many,V3 B c d] 78,_]:=H
 refine lv (r_f u) (nsr (fl ff78_0 u tf4 m1 f u (fl ff78_0 u tf4 m0 f u (lv (rv_boolne underlying4 u u) (nq (wc_cond u (fun i=>?_) (fun i=>?_)))))))
 ·have k:=cond_t i hm
  refine sr (lv (r_f u) (nq (rr ?_)))
  cases oi k
  exact ey results55 ⟨K,u,f.s⟩
 have k:=cond_f i hm
 refine wc_skip (qs (sr (fl ff78_1 u tf3 m1 f u (fl ff78_1 u tf3 m0 f u (lv (rv_neq u u) (nq (wcc k u (fun I l=>?_) (fun I l=>?_))))))))
 ·refine sr (lv (r_f u) (nq (rr ?_)))
  cases oi l
  exact ey results55 ⟨K,u,f.s⟩
 refine wc_skip (qs (sr (fl ff78_2 u tf76 m1 f u (fl ff78_2 u tf76 m0 f u ?_))))
 obtain⟨X,J,O⟩:=ob l
 refine lk co89 (ok_laws_eqArcS F f.enter0 s x J) ?_
 rintro Y aa ⟨o,rfl,R⟩
 have q:=(f.c0 R).t2
 refine lv (rv_not u) (nq (wcc O u (fun S m=>?_) (fun S m=>?_)))
 ·refine sr (lv (r_f u) (nq (rr ?_)))
  cases oi m
  exact ey results55 ⟨o,u,q.s⟩
 refine wc_skip (qr (lv (r_t u) (nq (wc_ret ?_))))
 cases oi m
 exact ey results55 ⟨o,u,q.s⟩

theorem ok_laws_eqStateS {q0:List GState}{q1:List GState}{r:Bool}(hS:SH w K [] w K [])(k:SliceAt tGState K A a b q0)(x:SliceAt tGState K B c d q1)(hm:M.laws_eqStateS F q0 q1=some r):
  Calls prog 21 #[V3 A a b,V3 B c d] w (R_b w K r):=by
 rw [M.laws_eqStateS] at hm
 refine ci func21 u ntmps21 (sr (lv (r_f u) (nsr (mv u (lv (rv_len underlying37 u k) (mv u (lv (rv_len underlying37 u x) (lv (rv_neq u u) (nq ?_)))))))))
 refine wc_cond u (fun l=>?_) (fun l=>?_)
 ·have m:=cond_t l hm
  refine sr (lv (r_f u) (nq (rr ?_)))
  cases oi m
  exact ey results21 ⟨K,u,hS⟩
 have m:=cond_f l hm
 refine wc_skip (qs (sr (lv (r_0 u) (nq ?_))))
 obtain⟨R,S,i⟩:=ob m
 refine wc_cutg (IE R w K [] K [] []) ?_ ?_
 ·refine wc_block ?_
  obtain⟨aG,T,y⟩:=ob S
  refine qw (fun (o:Int)=>IW w K [] K [(0,V3 A a b),(1,V3 B c d),(5,V6 o)] [] (rng64 o)) T ⟨K,u,hS,kr,d_0⟩ ?_
  rintro o _ aH aI U C ⟨V,rfl,D,f,aJ⟩
  refine wc_seq (sr (mv u (mv u (lv (rv_len underlying37 u (k.mono f)) (lv (rv_lss u u) (nq (wcc U u (fun W q=>?_) (fun W q=>?_))))))))
  ·refine wc_skip (qs (wc_block (wc_seq (wc_quiet mixed (by kernel_rfl) D (km u (km u ?_))))))
   obtain⟨G,X,Y⟩:=ob q
   refine ki underlying37 tf78 (k.mono f) X fun aa ab aK ac ad=>?_
   obtain⟨ae,af,ag,rfl,ah,ai⟩:=ac
   have aj:AtK _ aa ab [.bool G.Final,V6 G.Many,V3 ae af ag]:=ad
   refine kh (rq_loadS tf78 u aj u) (km u (km u ?_))
   obtain⟨H,ak,al⟩:=ob Y
   refine ki underlying37 tf78 (x.mono f) ak fun am an aL ao ap=>?_
   obtain⟨aq,ar,au,rfl,aw,ax⟩:=ao
   have ay:AtK _ am an [.bool H.Final,V6 H.Many,V3 aq ar au]:=ap
   refine kh (rq_loadS tf78 u ay u) ?_
   obtain⟨aM,az,aA⟩:=ob al
   refine kc co55 (fun _ _ aB I=>(ok_laws_eqState F) aB.enter0 ah (ai.mono I) aw (ax.mono I) az) (kv (rv_not u) (wq_nil ?_))
   rintro aN ⟨J,O,aC⟩
   refine qe_seq (wcc aA u (fun aD s=>?_) (fun aD s=>?_))
   ·refine sr (lv (r_f u) (nq (wc_ret (qe_block_ret (qe_then_ret (qe_then_ret ?_))))))
    cases oi s
    cases C _ u
    refine qe_block_ret (qe_then_ret ?_)
    cases oi y
    refine qe_then_ret ?_
    cases oi i
    exact ey results21 ⟨J,u,O⟩
   refine wc_skip (qe_block (qe_seq (wc_region (mv u (lv (rv_add u u) (av u (wl_nil ?_)))))))
   cases oi s
   exact qd ⟨_,u,J,u,O,(f.trans aC),(w64_rng _)⟩
  refine wc_exit (qe_then_exit (qe_then_exit ?_))
  cases oi q
  cases C _ u
  refine qe_block_eq ?_
  cases oi y
  exact qe_mid' ⟨_,V,u,u,D,f⟩ trivial
 rintro _ aO ⟨aP,aE,rfl,rfl,aF,aQ⟩
 have i:=elim_l i
 refine qr (lv (r_t u) (nq (wc_ret ?_)))
 cases oi i
 exact ey results21 ⟨aE,u,aF⟩

theorem ok_laws_markArcS {B:List Nat}{KM:KMap}{q0:List GArc}{q1:Int}{r:Int}(hS:SH w K Z w K [mkI B KM])(d:SliceAt tGArc (KM.only B) A a b q0)(s:rng64 q1)(hm:M.laws_markArcS F q0 q1=some r):
  Calls prog 56 #[V3 A a b,V6 q1] w fun e w'=>∃K',e= .returned (V6 r)∧SH w K Z w' K' [mkI B KM]∧rng64 r:=by
 rw [M.laws_markArcS] at hm
 refine ci func56 u ntmps56 (sr (lv (r_0 u) (nsr (lv (r_0 u) (nq ?_)))))
 obtain⟨i,x,y⟩:=ob hm
 refine wc_cutg (IW w K Z K [(1,V6 i)] [mkI B KM] (rng64 i)) ?_ ?_
 ·refine wc_block ?_
  obtain⟨ak,C,D⟩:=ob x
  refine qw (fun (c:Int×Int)=>IW w K Z K [(0,V3 A a b),(1,V6 c.1),(5,V6 c.2)] [mkI B KM] (rng64 c.1∧rng64 c.2)) C ⟨K,u,hS,kr,s,d_0⟩ ?_
  rintro c _ al am G H ⟨k,rfl,l,m,I,an⟩
  refine wc_seq (sr (mv u (mv u (lv (rv_len underlying76 u d) (lv (rv_lss u u) (nq (wcc G u (fun J f=>?_) (fun J f=>?_))))))))
  ·refine wc_skip (qs (wc_block (sr (mv u (mv u (mv u (lv (rv_i2b underlying3 underlying5 u) ?_)))))))
   obtain⟨o,O,R⟩:=ob f
   refine li underlying76 tf116 d O fun S T ao U V=>?_
   obtain⟨rfl,ap⟩:=U
   have W:AtK _ S T [iv8 o.Byte,V6 o.To]:=V
   refine fa ff116_0 u (mk_store (v:=iv8 (byteOfI c.1)) wn tf5 u u u l (W 0 _ u) u fun aq X=>(nr (mv u (lv (rv_add u u) (av u (nr (mv u (mv u (mv u ?_)))))))))
   obtain⟨q,Y,aa⟩:=ob R
   refine li underlying76 tf116 d Y fun ab ac ar ad ae=>?_
   obtain⟨rfl,au⟩:=ad
   have af:AtK _ ab ac [iv8 q.Byte,V6 q.To]:=ae
   refine fa ff116_1 u (mk_store (v:=V6 (w64 (c.1+(1:Int)))) wn tf3 u u u X (af 1 _ u) u fun aw ag=>(nq (wc_region (mv u (lv (rv_add u u) (av u (nb (qe_seq (wc_region ?_)))))))))
   refine mv u (lv (rv_add u u) (av u (wl_nil ?_)))
   cases oi aa
   exact qd ⟨_,u,k,u,ag,m,(w64_rng _),(w64_rng _)⟩
  refine wc_exit (qe_then_exit (qe_then_exit ?_))
  cases oi f
  cases H _ u
  refine qe_block_eq ?_
  cases oi D
  exact qd ⟨k,u,l,m,I⟩
 rintro _ ax ⟨K9,rfl,ai,ay,aj⟩
 refine qr (mv u (av u (nq (wc_ret ?_))))
 cases oi y
 exact ey results56 ⟨K9,u,ai,aj⟩

theorem ok_laws_markStateS {B:List Nat}{KM:KMap}{q0:List GState}{q1:Int}{r:Int}(hS:SH w K Z w K [mkI B KM])(d:SliceAt tGState (KM.only B) A a b q0)(y:rng64 q1)(hm:M.laws_markStateS F q0 q1=some r):
  Calls prog 22 #[V3 A a b,V6 q1] w fun e w'=>∃K',e= .returned (V6 r)∧SH w K Z w' K' [mkI B KM]∧rng64 r:=by
 rw [M.laws_markStateS] at hm
 refine ci func22 u ntmps22 (sr (lv (r_0 u) (nsr (lv (r_0 u) (nq ?_)))))
 obtain⟨k,C,D⟩:=ob hm
 refine wc_cutg (IW w K Z K [(1,V6 k)] [mkI B KM] (rng64 k)) ?_ ?_
 ·refine wc_block ?_
  obtain⟨aO,G,H⟩:=ob C
  refine qw (fun (c:Int×Int)=>IW w K Z K [(0,V3 A a b),(1,V6 c.1),(5,V6 c.2)] [mkI B KM] (rng64 c.1∧rng64 c.2)) G ⟨K,u,hS,kr,y,d_0⟩ ?_
  rintro c _ aP aQ I J ⟨O,rfl,l,m,R,aR⟩
  refine wc_seq (sr (mv u (mv u (lv (rv_len underlying37 u d) (lv (rv_lss u u) (nq (wcc I u (fun S f=>?_) (fun S f=>?_))))))))
  ·refine wc_skip (qs (wc_block (sr (mv u (mv u (mv u ?_))))))
   obtain⟨T,U,V⟩:=ob f
   refine lv (rv_rem u u U) (lv (rv_eql u u) ?_)
   obtain⟨o,W,X⟩:=ob V
   refine li underlying37 tf78 d W fun Y aa aS ab ac=>?_
   obtain⟨ad,ae,af,rfl,aT,aU⟩:=ab
   have ag:AtK _ Y aa [.bool o.Final,V6 o.Many,V3 ad ae af]:=ac
   refine fa ff78_0 u (mk_store (v:=.bool (T==(0:Int))) wn tf4 u u u l (ag 0 _ u) u fun aV ah=>(nr (mv u (lv (rv_add u u) (av u (nr (mv u (mv u (mv u ?_)))))))))
   obtain⟨q,ai,aj⟩:=ob X
   refine li underlying37 tf78 d ai fun ak al aW am an=>?_
   obtain⟨ao,ap,aq,rfl,aX,aY⟩:=am
   have ar:AtK _ ak al [.bool q.Final,V6 q.Many,V3 ao ap aq]:=an
   refine fa ff78_1 u (mk_store (v:=V6 (w64 (c.1+(1:Int)))) wn tf3 u u u ah (ar 1 _ u) u fun aZ i=>(nr (mv u (lv (rv_add u u) (av u (nq (wc_region (mv u (mv u ?_)))))))))
   obtain⟨s,au,aw⟩:=ob aj
   refine li underlying37 tf78 d au fun ax ay ba az aA=>?_
   obtain⟨aB,aC,aD,rfl,bb,aE⟩:=az
   have aF:AtK _ ax ay [.bool s.Final,V6 s.Many,V3 aB aC aD]:=aA
   refine fa ff78_2 u (lv (mk_load tf76 u i (aF 2 _ u)) (mv u ?_))
   obtain⟨bc,aG,aH⟩:=ob aw
   refine lk co56 (ok_laws_markArcS F i.e1 aE (w64_rng _) aG) ?_
   rintro bd be ⟨aI,rfl,x,aJ⟩
   have aK:=(i.c1 x).t1
   refine av u (nb (qe_seq (wc_region (mv u (lv (rv_add u u) (av u (wl_nil ?_)))))))
   cases oi aH
   exact qd ⟨_,u,aI,u,aK,(m.trans x.le),aJ,(w64_rng _)⟩
  refine wc_exit (qe_then_exit (qe_then_exit ?_))
  cases oi f
  cases J _ u
  refine qe_block_eq ?_
  cases oi H
  exact qd ⟨O,u,l,m,R⟩
 rintro _ bf ⟨K9,rfl,aM,bg,aN⟩
 refine qr (mv u (av u (nq (wc_ret ?_))))
 cases oi D
 exact ey results22 ⟨K9,u,aM,aN⟩

theorem ok_laws_markText {q0:Int}{r:Str}(hS:SH w K [] w K [])(y:rng64 q0)(hm:M.laws_markText F q0=some r):
  Calls prog 57 #[V6 q0] w fun e w'=>∃K',e= .returned (sv r)∧SH w K [] w' K' []∧r.length≤maxLen:=by
 rw [M.laws_markText] at hm
 refine ci func57 u ntmps57 (sr (lv (r_s u) (nsr (mv u (lv (rv_leq u u) (nq (wc_cond u (fun b=>?_) (fun b=>?_))))))))
 ·have c:=cond_t b hm
  refine sr (lv (rv_assign (v:=sv [109,48]) u) (nq (rr ?_)))
  cases oi c
  exact ey results57 ⟨K,u,hS,(by decide :([109,48]:Str).length≤maxLen)⟩
 have c:=cond_f b hm
 refine wc_skip (qr (lv (r_s u) (ns ?_)))
 obtain⟨i,A,B⟩:=ob c
 refine wc_cutg (IW w K [] K [(3,sv i)] [] (i.length≤maxLen)) ?_ ?_
 ·refine wc_block ?_
  obtain⟨ac,C,D⟩:=ob A
  refine qw (fun (a:Int×Str)=>IW w K [] K [(0,V6 a.1),(3,sv a.2)] [] (rng64 a.1∧a.2.length≤maxLen)) C ⟨K,u,hS,kr,y,(by decide :([]:Str).length≤maxLen)⟩ ?_
  rintro a _ ad ae G H ⟨I,rfl,k,l,af,J⟩
  refine wc_seq (sr (mv u (lv (rv_gtr u u) (nq (wcc G u (fun O d=>?_) (fun O d=>?_))))))
  ·refine wc_skip (qe_seq (wc_block (sr (mv u ?_))))
   obtain⟨f,R,S⟩:=ob d
   refine lv (rv_rem u u R) (lv (rv_add u u) (lv (rv_i2b underlying3 underlying5 u) (lb tU8 (iv8 (byteOfI (w64 ((48:Int)+f)))) [iv8 (byteOfI (w64 ((48:Int)+f)))] (byteOfI (w64 ((48:Int)+f))) underlying117 tf5 u k fun ag ah T U V m=>(lv (rv_b2s underlying117 underlying5 underlying9 u V m) (mv u ?_)))))
   obtain⟨ai,o,W⟩:=ob S
   refine lv (rv_sadd u u o) (av u (nq (wc_region (mv u ?_))))
   obtain⟨aj,q,X⟩:=ob W
   refine lv (rv_quo u u q) (av u (nb ?_))
   cases oi X
   exact qd ⟨_,u,T,u,m.s,(l.trans U),(rng_quo q),(len_cat o)⟩
  refine wc_exit (qe_then_exit (qe_then_exit ?_))
  cases oi d
  cases H _ u
  refine qe_block_eq ?_
  cases oi D
  exact qd ⟨I,u,k,l,J⟩
 rintro _ w9 ⟨Y,rfl,aa,al,am⟩
 refine qr (mv u ?_)
 obtain⟨an,x,ab⟩:=ob B
 refine lv (rv_sadd (s:=([109]:Str)) u u x) (av u (nq (wc_ret ?_)))
 cases oi ab
 exact ey results57 ⟨Y,u,aa,(len_cat x)⟩

theorem ok_laws_markStringS {B:List Nat}{KM:KMap}{q0:List Str}{q1:Int}{r:Int}(hS:SH w K Z w K [mkI B KM])(i:SliceAt tStr (KM.only B) A a b q0)(q:rng64 q1)(hm:M.laws_markStringS F q0 q1=some r):
  Calls prog 23 #[V3 A a b,V6 q1] w fun e w'=>∃K',e= .returned (V6 r)∧SH w K Z w' K' [mkI B KM]∧rng64 r:=by
 rw [M.laws_markStringS] at hm
 refine ci func23 u ntmps23 (sr (lv (r_0 u) (nsr (lv (r_0 u) (nq ?_)))))
 obtain⟨k,s,x⟩:=ob hm
 refine wc_cutg (IW w K Z K [(1,V6 k)] [mkI B KM] (rng64 k)) ?_ ?_
 ·refine wc_block ?_
  obtain⟨ah,y,C⟩:=ob s
  refine qw (fun (c:Int×Int)=>IW w K Z K [(0,V3 A a b),(1,V6 c.1),(5,V6 c.2)] [mkI B KM] (rng64 c.1∧rng64 c.2)) y ⟨K,u,hS,kr,q,d_0⟩ ?_
  rintro c _ ai aj D G ⟨H,rfl,d,l,m,ak⟩
  refine wc_seq (sr (mv u (mv u (lv (rv_len underlying35 u i) (lv (rv_lss u u) (nq (wcc D u (fun I f=>?_) (fun I f=>?_))))))))
  ·refine wc_skip (qs (wc_block (sr (mv u (mv u (mv u ?_))))))
   obtain⟨J,O,R⟩:=ob f
   refine lk co57 (ok_laws_markText F d.enter0 m O) ?_
   rintro al am ⟨S,rfl,o,an⟩
   have T:=(d.c0 o).t1
   obtain⟨U,V,W⟩:=ob R
   refine li underlying35 tf9 i V fun X Y ao aa ab=>?_
   obtain⟨rfl,ap⟩:=aa
   have ac:AtK _ X Y [sv U]:=ab
   refine mk_store (v:=sv J) wn tf9 u u u T (ac 0 _ u) u fun aq ad=>(nq (wc_region (mv u (lv (rv_add u u) (av u (nb (qe_seq (wc_region (mv u ?_)))))))))
   refine lv (rv_add u u) (av u (wl_nil ?_))
   cases oi W
   exact qd ⟨_,u,S,u,ad,(l.trans o.le),(w64_rng _),(w64_rng _)⟩
  refine wc_exit (qe_then_exit (qe_then_exit ?_))
  cases oi f
  cases G _ u
  refine qe_block_eq ?_
  cases oi C
  exact qd ⟨H,u,d,l,m⟩
 rintro _ ar ⟨K9,rfl,af,au,ag⟩
 refine qr (mv u (av u (nq (wc_ret ?_))))
 cases oi x
 exact ey results23 ⟨K9,u,af,ag⟩

theorem xm_laws_markStringS (F:Nat){w:World}{K:KMap}{g0 n2 c3:Nat}{cs0:List Value}{p0_a:List Str}{p1_k r:Int}(hS:SH w K (List.flatMap Item.gs [obj g0 cs0 9]) w K [obj g0 cs0 9])(hs4:RowN tStr K cs0 p0_a)(hn0:n2=p0_a.length)(hx0:n2≤maxLen)(hr5:rng64 p1_k)(hm:M.laws_markStringS F p0_a p1_k=some r):
  Calls Try.prog 23 #[.slice (some ⟨g0,0,none⟩) n2 c3,.int .i64 p1_k] w fun e w'=>∃(cs':List Value) (K':KMap),e= .returned (.int .i64 r)∧SH w K (List.flatMap Item.gs [obj g0 cs0 9]) w' K' [obj g0 cs' 9]∧RowN tStr K' cs' (marksStr F p0_a.length p1_k)∧cs'.length=cs0.length∧rng64 r:=by
 have hml:(marksStr F p0_a.length p1_k).length=p0_a.length:=by unfold marksStr;rw [List.length_map,List.length_range]
 rw [M.laws_markStringS] at hm
 refine calls_in Try.func23 rfl Try.ntmps23 rfl ?_
 refine sr ?_
 refine wl_val wn rfl (rv_assign (v:=.int .i64 0) rfl) ?_
 refine nsr ?_
 refine wl_val wn rfl (rv_assign (v:=.int .i64 0) rfl) ?_
 refine nq ?_
 obtain⟨o6,h7,h8⟩:=ob hm
 refine wc_cutg (fun E' w'=>∃(K9:KMap) (cs9:List Value),E'=[(1,.int .i64 o6)]∧SH w K (List.flatMap Item.gs [obj g0 cs0 9]) w' K9 [obj g0 cs9 9]∧KLe K K9∧rng64 o6∧RowN tStr K9 cs9 (marksStr F p0_a.length p1_k)∧cs9.length=cs0.length) ?_ ?_
 ·refine wc_block ?_
  obtain⟨r15,h16,h17⟩:=ob h7
  refine wc_while' (fun (s14:Int×Int) E' w'=>∃(K18:KMap) (cs18:List Value) (i18:Nat),E'=[(0,.slice (some ⟨g0,0,none⟩) n2 c3),(1,.int .i64 s14.1),(5,.int .i64 s14.2)]∧SH w K (List.flatMap Item.gs [obj g0 cs0 9]) w' K18 [obj g0 cs18 9]∧KLe K K18∧rng64 s14.1∧rng64 s14.2∧s14.2=(i18:Int)∧i18≤p0_a.length∧s14.1=kapStr p1_k i18∧RowN tStr K18 cs18 ((marksStr F p0_a.length p1_k).take i18++p0_a.drop i18)∧cs18.length=cs0.length) h16 ⟨K,cs0,0,rfl,hS,(KLe.refl _),hr5,d_0,rfl,Nat.zero_le _,rfl,hs4,rfl⟩ ⟨rfl,rfl,rfl,trivial⟩ ?_
  rintro s14 _ w20 r24 h25 hx26 ⟨K18,cs18,i18,rfl,hS21,hl19,hr22,hr23,hj0,hi0,hk0,hrow0,hcl0⟩
  refine wc_seq ?_
  refine sr ?_
  refine vm rfl rfl ?_
  refine vm rfl rfl ?_
  refine wl_val wn rfl (rv_lenRow Try.underlying35 rfl hn0) ?_
  refine wl_val wn rfl (rv_lss rfl rfl) ?_
  refine nq ?_
  refine wc_cond rfl (fun hb27=>?_) (fun hb27=>?_)
  ·have h28:=cond_t hb27 h25
   refine wc_skip ?_
   refine qs ?_
   refine wc_block ?_
   refine sr ?_
   refine vm rfl rfl ?_
   refine vm rfl rfl ?_
   refine vm rfl rfl ?_
   obtain⟨r29,hx30,h31⟩:=ob h28
   refine wl_call wn rfl (rt_call (vs:=[.int .i64 s14.1]) co57 rfl) ((ok_laws_markText F) hS21.enter0 hr22 hx30) ?_
   rintro e36 w33 ⟨K32,rfl,hS34,hl35⟩
   refine⟨_,rfl,?_⟩
   have hS37:SH _ _ _ _ _ [_]:=SH.call0 hS21 hS34
   obtain⟨x38,hx39,h40⟩:=ob h31
   refine wl_val wn rfl (rv_indexRow (t:=tStr) (xs:=p0_a) Try.underlying35 tf9 rfl rfl hn0 hx39) ?_
   refine wl_storeN (t:=tStr) (i:=s14.2) (off:=0) (e':=r29) wn tf9 (by exact rfl) rfl rfl hS37 (hrow0.mono hS34.le) (mid_get hj0 hml hx39) (by decide) (fun u hu=>by obtain⟨rfl,_⟩:=hu;exact⟨sv r29,⟨rfl,hl35⟩,rfl⟩) ?_
   intro csm1 w48 hrowm1 hclm1 hS49
   refine nq ?_
   refine wc_region ?_
   refine vm rfl rfl ?_
   refine wl_val wn rfl (rv_add rfl rfl) ?_
   refine va rfl rfl ?_
   refine nb ?_
   refine qe_seq ?_
   refine wc_region ?_
   refine vm rfl rfl ?_
   refine wl_val wn rfl (rv_add rfl rfl) ?_
   refine va rfl rfl ?_
   refine wl_nil ?_
   obtain rfl:=oi h40
   obtain⟨gj0,gj1,gj2⟩:=getI_some hx39
   have hlt0:i18<p0_a.length:=by omega
   have hz0:(marksStr F p0_a.length p1_k)[i18]? =some r29:=by unfold marksStr;rw [List.getElem?_map,List.getElem?_range hlt0];show some ((M.laws_markText F (kapStr p1_k i18)).getD [])=_;rw [←hk0,hx30];rfl
   rw [mid_set1 hj0 hml hx39 hz0] at hrowm1
   have hmx0:p0_a.length≤maxLen:=hn0▸hx0
   exact qe_mid' ⟨_,rfl,K32,csm1,i18+1,rfl,hS49,(hl19.trans hS34.le),(w64_rng _),(w64_rng _),(by rw [hj0];exact w64_next (Nat.lt_of_lt_of_le hlt0 hmx0)),hlt0,(by rw [hk0];rfl),hrowm1,hclm1.trans hcl0⟩ ⟨rfl,rfl,rfl,trivial⟩
  ·have h28:=cond_f hb27 h25
   refine wc_exit ?_
   refine qe_then_exit ?_
   refine qe_then_exit ?_
   obtain rfl:=oi h28
   have e50:=hx26 _ rfl
   subst e50
   refine qe_block_eq ?_
   obtain rfl:=oi h17
   have hge0:p0_a.length≤i18:=by have:=of_decide_eq_false hb27;omega
   rw [mid_end hml hge0] at hrow0
   exact qe_mid' ⟨K18,cs18,rfl,hS21,hl19,hr22,hrow0,hcl0⟩ ⟨rfl,trivial⟩
 ·rintro _ w11 ⟨K9,cs9,rfl,hS12,hl10,hr13,hrowF,hclF⟩
  refine qr ?_
  refine vm rfl rfl ?_
  refine va rfl rfl ?_
  refine nq ?_
  refine wc_ret ?_
  obtain rfl:=oi h8
  exact qe_ret (vs:=[_]) Try.results23 ⟨rfl,trivial⟩ ⟨cs9,K9,rfl,hS12,hrowF,hclF,hr13⟩

theorem xc_laws_markStringS (F:Nat){w0 w:World}{K0 K:KMap}{L:List Fk.Item}{a:Option Addr}{n c:Nat}{xs:List Str}{k r:Int}(h0:Holds K0 w0)(hS:SH w0 K0 [] w K (tail (.slice a n c) 9 tStr.size::L))(hs:SliceAt tStr K a n c xs)(hk:rng64 k)(hm:M.laws_markStringS F xs k=some r):
  Calls Try.prog 23 #[.slice a n c,.int .i64 k] w fun e w'=>∃K',e= .returned (.int .i64 r)∧SH w0 K0 [] w' K' (tail (.slice a n c) 9 tStr.size::L)∧SliceAt tStr K' a n c (marksStr F xs.length k)∧KLe (K.but (tail (.slice a n c) 9 tStr.size).gs) K'∧rng64 r:=by
 refine xmark_call (t:=tStr) (fun h=>h) h0 hS hs (by unfold marksStr;rw [List.length_map,List.length_range]) (fun g cs K1 h1 h2=>xm_laws_markStringS F h1 h2 hs.1 (Nat.le_trans hs.2.1 hs.2.2.1) hk hm) fun hn K1 h1=>?_
 have hx:xs=[]:=List.length_eq_zero_iff.1 (hs.1.symm.trans hn)
 subst hx
 exact(ok_laws_markStringS F h1 (SliceAt.nil _ _) hk hm).mono fun e w' ⟨K2,he,h2,hr⟩=>⟨K2,he,h2,hr⟩

theorem ok_laws_heldStringS {q0:List Str}{q1:Int}{r:Int}(hS:SH w K [] w K [])(s:SliceAt tStr K A a b q0)(G:rng64 q1)(hm:M.laws_heldStringS F q0 q1=some r):
  Calls prog 24 #[V3 A a b,V6 q1] w (R_i w K r):=by
 rw [M.laws_heldStringS] at hm
 refine ci func24 u ntmps24 (sr (lv (r_0 u) (nsr (lv (r_0 u) (nq ?_)))))
 obtain⟨H,I,d⟩:=ob hm
 refine wc_cutg (fun E' w'=>∃f i,H= .inl f∧E'=[(1,V6 f)]∧SH w K [] w' i []∧KLe K i∧rng64 f) ?_ ?_
 ·refine wc_block ?_
  obtain⟨ai,J,x⟩:=ob I
  refine qw (fun (c:Int×Int)=>IW w K [] K [(0,V3 A a b),(1,V6 c.1),(5,V6 c.2)] [] (rng64 c.1∧rng64 c.2)) J ⟨K,u,hS,kr,G,d_0⟩ ?_
  rintro c _ aj ak O y ⟨R,rfl,l,k,m,al⟩
  refine wc_seq (sr (mv u (mv u (lv (rv_len underlying35 u (s.mono k)) (lv (rv_lss u u) (nq (wcc O u (fun S o=>?_) (fun S o=>?_))))))))
  ·refine wc_skip (qs (wc_block (wc_seq (wc_seq (wc_quiet mixed (by kernel_rfl) l (km u (km u ?_)))))))
   obtain⟨T,U,V⟩:=ob o
   refine ki underlying35 tf9 (s.mono k) U fun W X am Y aa=>?_
   obtain⟨rfl,an⟩:=Y
   have ab:AtK _ W X [sv T]:=aa
   refine kh (rq_load1 tf9 u (ab 0 _ u)) (km u ?_)
   obtain⟨ao,B,ac⟩:=ob V
   refine kd co57 (fun _ _ ad ap=>(ok_laws_markText F) ad.enter0 m B) ?_
   obtain⟨_,_,_,⟨_,_,_,aq⟩,_⟩:=(ok_laws_markText F) l.enter0 m B []
   refine kv (rv_sneq u u) (wq_nil ?_)
   rintro ar ⟨C,D,ae⟩
   refine qe_seq (wcc ac u (fun af q=>?_) (fun af q=>?_))
   ·refine sr (lv (rv_assign (v:=V6 (-1)) u) (nq (rr (qe_block_ret (qe_then_ret (qe_then_ret ?_))))))
    cases oi q
    cases y _ u
    refine qe_block_ret (qe_then_ret ?_)
    cases oi x
    refine qe_then_ret ?_
    cases oi d
    exact ey results24 ⟨C,u,D,(by decide :rng64 (-1))⟩
   refine wc_skip (qe_seq (wc_region (mv u (lv (rv_add u u) (av u (nb (qe_seq (wc_region (mv u ?_)))))))))
   refine lv (rv_add u u) (av u (wl_nil ?_))
   cases oi q
   exact qd ⟨_,u,C,u,D,(k.trans ae),(w64_rng _),(w64_rng _)⟩
  refine wc_exit (qe_then_exit (qe_then_exit ?_))
  cases oi o
  cases y _ u
  refine qe_block_eq ?_
  cases oi x
  exact qd ⟨_,R,u,u,l,k,m⟩
 rintro _ au ⟨f,i,rfl,rfl,ag,aw,ah⟩
 have d:=elim_l d
 refine qr (mv u (av u (nq (wc_ret ?_))))
 cases oi d
 exact ey results24 ⟨i,u,ag,ah⟩

theorem ok_laws_FnExactDawgHead {q0:List GState}{q1:Str}{r:Bool}(hS:SH w K [] w K [])(q:SliceAt tGState K A a b q0)(H:q1.length≤maxLen)(hm:M.laws_FnExactDawgHead F q0 q1=some r):
  Calls prog 4 #[V3 A a b,sv q1] w (R_b w K r):=by
 rw [M.laws_FnExactDawgHead] at hm
 refine ci func4 u ntmps4 (sr (lv (r_f u) (nsr (mv u (lv (rv_slen underlying9 u) (lv (rv_gtr u u) (nq (wc_cond u (fun I=>?_) (fun I=>?_)))))))))
 ·have J:=cond_t I hm
  refine sr (lv (r_t u) (nq (rr ?_)))
  cases oi J
  exact ey results4 ⟨K,u,hS⟩
 have J:=cond_f I hm
 refine wc_skip (qr (lv (rv_assign (v:=V6 1048576) u) (nr (mv u (mv u ?_)))))
 obtain⟨r8,aO,aP⟩:=ob J
 refine lk co16 (ok_laws_szStateS F hS.enter0 q (by decide :rng64 1048576) aO) ?_
 rintro ca cb ⟨aQ,rfl,s,cc⟩
 have O:=(hS.c0 s).t0
 refine av u (nsr (mv u (lv (rv_lss u u) (nq (wcc aP u (fun aR R=>?_) (fun aR R=>?_))))))
 ·refine sr (lv (r_t u) (nq (rr ?_)))
  cases oi R
  exact ey results4 ⟨aQ,u,O⟩
 refine wc_skip (qr (mv u ?_))
 obtain⟨cd,aS,aT⟩:=ob R
 refine lk co18 ((bag_laws_toStateS F) O.enter0 (q.mono s.le) aS) ?_
 rintro ce cf ⟨cg,ch,cj,ck,B25,rfl,y,aU⟩
 have aV:=aU.mono only_le
 have au:=(O.c0 y).t1
 refine mv u ?_
 obtain⟨cl,aW,aX⟩:=ob aT
 refine lk co17 (ok_spec_DawgHead F au.enter0 aV H aW) ?_
 rintro cm cn ⟨S,T,U,cp,rfl,B,V⟩
 have x:=(au.c0 B).t2
 refine av u (nr (mv u ?_))
 obtain⟨cq,aY,aZ⟩:=ob aX
 refine lk co18 ((bag_laws_toStateS F) x.enter0 (q.mono ((s.le.trans y.le).trans B.le)) aY) ?_
 rintro cr cs ⟨ct,cu,cv,cw,B51,rfl,c,aw⟩
 have ax:=aw.mono only_le
 have C:=(x.c0 c).t3
 refine av u (nr (mv u (mv u ?_)))
 obtain⟨cx,ba,bb⟩:=ob aZ
 refine lk co19 (ok_impl_DawgHead F C.enter0 ax H ba) ?_
 rintro cy cz ⟨W,X,Y,cA,rfl,f,ay⟩
 have az:=(C.c0 f).t4
 refine av u (nsr (mv u (mv u ?_)))
 obtain⟨cB,bc,bd⟩:=ob bb
 refine lk co20 (ok_laws_eqStringS F az.enter0 ay (V.mono (c.le.trans f.le)) bc) ?_
 rintro cC cD ⟨be,rfl,i⟩
 have aa:=(az.c0 i).t4
 refine lv (rv_not u) (nq (wcc bd u (fun bf ab=>?_) (fun bf ab=>?_)))
 ·refine sr (lv (r_f u) (nq (rr ?_)))
  cases oi ab
  exact ey results4 ⟨be,u,aa.s⟩
 refine wc_skip (qs (sr (mv u (mv u ?_))))
 obtain⟨cE,bg,bh⟩:=ob ab
 refine lk co18 ((bag_laws_toStateS F) aa.enter0 (SliceAt.mono (((((s.le.trans y.le).trans B.le).trans c.le).trans f.le).trans i.le) q) bg) ?_
 rintro cF cG ⟨cH,cI,cJ,cK,B88,rfl,k,aA⟩
 have bi:=aA.mono only_le
 have aB:=(aa.c0 k).t5
 obtain⟨cL,bj,bk⟩:=ob bh
 refine lk co21 (ok_laws_eqStateS F aB.enter0 (ax.mono ((f.le.trans i.le).trans k.le)) bi bj) ?_
 rintro cM cN ⟨bl,rfl,l⟩
 have aC:=(aB.c0 l).t5
 refine lv (rv_not u) (nq (wcc bk u (fun bm ac=>?_) (fun bm ac=>?_)))
 ·refine sr (lv (r_f u) (nq (rr ?_)))
  cases oi ac
  exact ey results4 ⟨bl,u,aC.s⟩
 refine wc_skip (qr (lv (rv_assign (v:=V6 1) u) (nr (mv u (mv u ?_)))))
 obtain⟨cO,bn,bo⟩:=ob ac
 have ad:=aC.f2.f2.f1
 have aD:=SH.flat_but (t:=tStr) (fun h=>h) ad (ay.mono ((i.le.trans k.le).trans l.le))
 have hd114: ∀b∈B88,b∉B51:=SH.bag_off ad _ m1
 have bp:=SliceAt.mono (only_but2 hd114) (aA.mono (only_mono l.le fun _ h=>h))
 have cP:=bp.mono only_le
 have hM117:=SH.toMk hS.holds ad
 refine lk co22 (ok_laws_markStateS F hM117.e1 (SliceAt.mono (only_mono (((f.le.trans i.le).trans k.le).trans l.le) fun _ h=>h) aw) (by decide :rng64 1) bn) ?_
 rintro cQ cR ⟨aE,rfl,m,cS⟩
 have ae:SH _ _ _ _ _ [_,_,_,_]:=SH.drop (SH.call (Lin:=[_]) hM117 m)
 refine av u (ns (wc_seq ?_))
 obtain⟨bq,br,bs⟩:=ob bo
 refine wc_cutg (IV w K [] aE [(0,V3 A a b),(1,sv q1),(6,V3 S T U),(8,V3 W X Y),(49,.bool bq)] [tail (V3 S T U) 9 1,tail (V3 W X Y) 9 1,bag B88,bag B25]) ?_ ?_
 ·refine wc_region (mv u (lv (rv_lss u u) (mv u (bt br (fun d af=>?_) (fun d af=>?_)))))
  ·refine lu d (lu d (lu d (lu d (lv (p_t u d u) (wl_nil ?_)))))
   cases oi af
   exact qd ⟨aE,u,ae.f3.f2.f2.f3,kr⟩
  refine lg d (rv_move u) (lg d (rv_move u) ?_)
  obtain⟨cT,bu,bv⟩:=ob af
  refine wl_call (wg u u d) u (rt_call (vs:=[V3 W X Y,V3 S T U]) co20 u) (ok_laws_eqStringS F ae.enter0 (aD.mono m.le) (SliceAt.mono ((le_but ((((c.le.trans f.le).trans i.le).trans k.le).trans l.le) x.holds fun b hb=>(c.bag_new b hb).1).trans m.le) V) bu) ?_
  rintro cU cV ⟨bx,rfl,aF⟩
  refine⟨_,u,?_⟩
  have bz:=(ae.c0 aF).t4
  refine lg d (rv_not u) (lv (rv_pick_f u d u) (wl_nil ?_))
  cases oi bv
  exact qd ⟨bx,u,bz.f3.f2.f2.f3,aF.le⟩
 rintro _ cW ⟨bA,rfl,aG,ag⟩
 refine qe_seq (wcc bs u (fun bB ah=>?_) (fun bB ah=>?_))
 ·refine sr (lv (r_f u) (nq (rr ?_)))
  cases oi ah
  exact ey results4 ⟨bA,u,aG.s⟩
 refine wc_skip (qr (lv (rv_assign (v:=V6 1) u) (nr (mv u (mv u ?_)))))
 obtain⟨cX,bC,bD⟩:=ob ah
 refine lk co23 ((xc_laws_markStringS F) hS.holds aG.f1 (aD.mono (m.le.trans ag)) (by decide :rng64 1) bC) ?_
 rintro cY cZ ⟨da,rfl,bE,aH,aI,db⟩
 have aJ:SH _ _ _ _ _ [_,_,_,_]:=bE
 refine av u (nr (lv (rv_assign (v:=V6 1) u) (nr (mv u (mv u ?_)))))
 obtain⟨dc,bF,bG⟩:=ob bD
 refine lk co24 (ok_laws_heldStringS F aJ.enter0 aH (by decide :rng64 1) bF) ?_
 rintro dd de ⟨aK,rfl,D,df⟩
 have G:=(aJ.c0 D).t4
 refine av u (nsr (mv u (lv (rv_lss u u) (nq (wcc bG u (fun bH ai=>?_) (fun bH ai=>?_))))))
 ·refine sr (lv (r_f u) (nq (rr ?_)))
  cases oi ai
  exact ey results4 ⟨aK,u,G.s⟩
 refine wc_skip (qs (sr (mv u (mv u (lv (rv_neq u u) (nq (wcc ai u (fun bI aj=>?_) (fun bI aj=>?_))))))))
 ·refine sr (lv (r_f u) (nq (rr ?_)))
  cases oi aj
  exact ey results4 ⟨aK,u,G.s⟩
 refine wc_skip (qr (mv u ?_))
 obtain⟨dg,bJ,bK⟩:=ob aj
 refine lk co18 ((bag_laws_toStateS F) G.enter0 (SliceAt.mono (((((s.le.trans y.le).trans B.le).trans (le_but (((le_but ((((c.le.trans f.le).trans i.le).trans k.le).trans l.le) x.holds fun b hb=>(c.bag_new b hb).1).trans m.le).trans ag) (fun b o v e=>C.holds b o v (c.le b o v e)) (SH.tail_new f))).trans aI).trans D.le) q) bJ) ?_
 rintro dh di ⟨dj,dk,dl,dm,B185,rfl,ak,bL⟩
 have bM:=bL.mono only_le
 have aL:=(G.c0 ak).t5
 refine mv u ?_
 obtain⟨dn,bN,bO⟩:=ob bK
 refine lk co19 (ok_impl_DawgHead F aL.enter0 bM H bN) ?_
 rintro dp dq ⟨dr,ds,dt,du,rfl,al,bP⟩
 have aM:=(aL.c0 al).t6
 refine av u (nsr (mv u (mv u ?_)))
 obtain⟨dv,bQ,bR⟩:=ob bO
 refine lk co20 (ok_laws_eqStringS F aM.enter0 bP (SliceAt.mono (((((le_but (((le_but ((((c.le.trans f.le).trans i.le).trans k.le).trans l.le) x.holds fun b hb=>(c.bag_new b hb).1).trans m.le).trans ag) (fun b o v e=>C.holds b o v (c.le b o v e)) (SH.tail_new f)).trans aI).trans D.le).trans ak.le).trans al.le) V) bQ) ?_
 rintro dw dx ⟨bS,rfl,aN⟩
 have am:=(aM.c0 aN).t6
 refine lv (rv_not u) (nq (wcc bR u (fun bT an=>?_) (fun bT an=>?_)))
 ·refine sr (lv (r_f u) (nq (rr ?_)))
  cases oi an
  exact ey results4 ⟨bS,u,am.s⟩
 refine wc_skip (qr (lv (rv_assign (v:=V6 1) u) (nr (mv u (mv u ?_)))))
 obtain⟨dy,bU,bV⟩:=ob an
 refine lk co24 (ok_laws_heldStringS F am.enter0 (SliceAt.mono (((D.le.trans ak.le).trans al.le).trans aN.le) aH) (by decide :rng64 1) bU) ?_
 rintro dz dA ⟨ao,rfl,bW,dB⟩
 have ap:=(am.c0 bW).t6
 refine av u (nsr (mv u (lv (rv_lss u u) (nq (wcc bV u (fun bX aq=>?_) (fun bX aq=>?_))))))
 ·refine sr (lv (r_f u) (nq (rr ?_)))
  cases oi aq
  exact ey results4 ⟨ao,u,ap.s⟩
 refine wc_skip (qs (sr (mv u (mv u (lv (rv_neq u u) (nq (wcc aq u (fun bY ar=>?_) (fun bY ar=>?_))))))))
 ·refine sr (lv (r_f u) (nq (rr ?_)))
  cases oi ar
  exact ey results4 ⟨ao,u,ap.s⟩
 refine wc_skip (qr (lv (r_t u) (nq (wc_ret ?_))))
 cases oi ar
 exact ey results4 ⟨ao,u,ap.s⟩
end Go.Proofs.Ytepcfgnicnibnaa
