/-
 Walks of the functions. Printed by gen.py.
-/
import Derived.Test.YtpjefkdclnmlfaaGreatWalkA4
set_option linter.unusedVariables false
set_option linter.unusedSectionVars false
set_option maxRecDepth 100000
namespace Go.Proofs.YtpjefkdclnmlfaaGreat
set_option maxHeartbeats 4000000
open Go Go.Fk Go.RowKit Tryz
variable (F:Nat){w:World}{K:KMap}{Z:List Nat}{g1 g2 g3:Nat}{A B C D G H I J O R S T:Option Addr}{a b c d f i k l m n o p q s v x y aa ab ac ad ae af ag:Nat}
variable [dr:Dr]

theorem ok_laws_eqPostS {q0:List GPost}{q1:List GPost}{r:Bool}(hS:SH w K [] w K [])(k:SliceAt tGPost K A a b q0)(x:SliceAt tGPost K B c d q1)(hm:M.laws_eqPostS F q0 q1=some r):
  Calls prog 33 #[V3 A a b,V3 B c d] w (R_b w K r):=by
 rw [M.laws_eqPostS] at hm
 refine ci func33 u ntmps33 (sr (lv (r_f u) (nsr (mv u (lv (rv_len underlying61 u k) (mv u (lv (rv_len underlying61 u x) (lv (rv_neq u u) (nq ?_)))))))))
 refine wc_cond u (fun l=>?_) (fun l=>?_)
 ·have m:=cond_t l hm
  refine sr (lv (r_f u) (nq (rr ?_)))
  cases oi m
  exact ey results33 ⟨K,u,hS⟩
 have m:=cond_f l hm
 refine wc_skip (qs (sr (lv (r_0 u) (nq ?_))))
 obtain⟨J,O,i⟩:=ob m
 refine wc_cutg (IE J w K [] K [] []) ?_ ?_
 ·refine wc_block ?_
  obtain⟨aG,R,y⟩:=ob O
  refine qw (fun (o:Int)=>IW w K [] K [(0,V3 A a b),(1,V3 B c d),(5,V6 o)] [] (rng64 o)) R ⟨K,u,hS,kr,d_0⟩ ?_
  rintro o _ aH aI S C ⟨T,rfl,D,f,aJ⟩
  refine wc_seq (sr (mv u (mv u (lv (rv_len underlying61 u (k.mono f)) (lv (rv_lss u u) (nq (wcc S u (fun U q=>?_) (fun U q=>?_))))))))
  ·refine wc_skip (qs (wc_block (wc_seq (wc_quiet mixed (by kernel_rfl) D (km u (km u ?_))))))
   obtain⟨V,W,X⟩:=ob q
   refine ki underlying61 tf134 (k.mono f) W fun Y aa aK ab ac=>?_
   obtain⟨ad,ae,af,rfl,ag,ah⟩:=ab
   have ai:AtK _ Y aa [V6 V.Doc,V3 ad ae af]:=ac
   refine kh (rq_loadS tf134 u ai u) (km u (km u ?_))
   obtain⟨aj,ak,al⟩:=ob X
   refine ki underlying61 tf134 (x.mono f) ak fun am an aL ao ap=>?_
   obtain⟨aq,ar,au,rfl,aw,ax⟩:=ao
   have ay:AtK _ am an [V6 aj.Doc,V3 aq ar au]:=ap
   refine kh (rq_loadS tf134 u ay u) ?_
   obtain⟨aM,az,aA⟩:=ob al
   refine kc co96 (fun _ _ aB G=>(ok_laws_eqPost F) aB.enter0 ag (ah.mono G) aw (ax.mono G) az) (kv (rv_not u) (wq_nil ?_))
   rintro aN ⟨H,I,aC⟩
   refine qe_seq (wcc aA u (fun aD s=>?_) (fun aD s=>?_))
   ·refine sr (lv (r_f u) (nq (wc_ret (qe_block_ret (qe_then_ret (qe_then_ret ?_))))))
    cases oi s
    cases C _ u
    refine qe_block_ret (qe_then_ret ?_)
    cases oi y
    refine qe_then_ret ?_
    cases oi i
    exact ey results33 ⟨H,u,I⟩
   refine wc_skip (qe_block (qe_seq (wc_region (mv u (lv (rv_add u u) (av u (wl_nil ?_)))))))
   cases oi s
   exact qd ⟨_,u,H,u,I,(f.trans aC),(w64_rng _)⟩
  refine wc_exit (qe_then_exit (qe_then_exit ?_))
  cases oi q
  cases C _ u
  refine qe_block_eq ?_
  cases oi y
  exact qe_mid' ⟨_,T,u,u,D,f⟩ trivial
 rintro _ aO ⟨aP,aE,rfl,rfl,aF,aQ⟩
 have i:=elim_l i
 refine qr (lv (r_t u) (nq (wc_ret ?_)))
 cases oi i
 exact ey results33 ⟨aE,u,aF⟩

theorem ok_laws_eqEntry {q0:GEntry}{q1:GEntry}{r:Bool}(hS:SH w K [] w K [])(T:q0.Field.length≤maxLen)(U:q0.Term.length≤maxLen)(s:SliceAt tGPost K A a b q0.Posts)(V:q1.Field.length≤maxLen)(W:q1.Term.length≤maxLen)(x:SliceAt tGPost K B c d q1.Posts)(hm:M.laws_eqEntry F q0 q1=some r):
  Calls prog 156 #[.agg #[sv q0.Field,sv q0.Term,V3 A a b],.agg #[sv q1.Field,sv q1.Term,V3 B c d]] w (R_b w K r):=by
 rw [M.laws_eqEntry] at hm
 refine ci func156 u ntmps156 (sr (bx u hS fun y X C=>?_))
 have D:SH _ _ _ _ _ [obj y [sv q0.Field,sv q0.Term,V3 A a b] 116]:=C
 refine bx u D fun G Y H=>?_
 have f:SH _ _ _ _ _ [obj G [sv q1.Field,sv q1.Term,V3 B c d] 116,_]:=H
 refine lv (r_f u) (nsr (fl ff116_0 u tf9 m1 f u (fl ff116_0 u tf9 m0 f u (lv (rv_sneq u u) (nq (wc_cond u (fun i=>?_) (fun i=>?_)))))))
 ·have k:=cond_t i hm
  refine sr (lv (r_f u) (nq (rr ?_)))
  cases oi k
  exact ey results156 ⟨K,u,f.s⟩
 have k:=cond_f i hm
 refine wc_skip (qs (sr (fl ff116_1 u tf9 m1 f u (fl ff116_1 u tf9 m0 f u (lv (rv_sneq u u) (nq (wcc k u (fun I l=>?_) (fun I l=>?_))))))))
 ·refine sr (lv (r_f u) (nq (rr ?_)))
  cases oi l
  exact ey results156 ⟨K,u,f.s⟩
 refine wc_skip (qs (sr (fl ff116_2 u tf61 m1 f u (fl ff116_2 u tf61 m0 f u ?_))))
 obtain⟨aa,J,O⟩:=ob l
 refine lk co33 (ok_laws_eqPostS F f.enter0 s x J) ?_
 rintro ab ac ⟨o,rfl,R⟩
 have q:=(f.c0 R).t2
 refine lv (rv_not u) (nq (wcc O u (fun S m=>?_) (fun S m=>?_)))
 ·refine sr (lv (r_f u) (nq (rr ?_)))
  cases oi m
  exact ey results156 ⟨o,u,q.s⟩
 refine wc_skip (qr (lv (r_t u) (nq (wc_ret ?_))))
 cases oi m
 exact ey results156 ⟨o,u,q.s⟩

theorem ok_laws_eqEntryS {q0:List GEntry}{q1:List GEntry}{r:Bool}(hS:SH w K [] w K [])(k:SliceAt tGEntry K A a b q0)(x:SliceAt tGEntry K B c d q1)(hm:M.laws_eqEntryS F q0 q1=some r):
  Calls prog 79 #[V3 A a b,V3 B c d] w (R_b w K r):=by
 rw [M.laws_eqEntryS] at hm
 refine ci func79 u ntmps79 (sr (lv (r_f u) (nsr (mv u (lv (rv_len underlying44 u k) (mv u (lv (rv_len underlying44 u x) (lv (rv_neq u u) (nq ?_)))))))))
 refine wc_cond u (fun l=>?_) (fun l=>?_)
 ·have m:=cond_t l hm
  refine sr (lv (r_f u) (nq (rr ?_)))
  cases oi m
  exact ey results79 ⟨K,u,hS⟩
 have m:=cond_f l hm
 refine wc_skip (qs (sr (lv (r_0 u) (nq ?_))))
 obtain⟨R,S,i⟩:=ob m
 refine wc_cutg (IE R w K [] K [] []) ?_ ?_
 ·refine wc_block ?_
  obtain⟨aI,T,y⟩:=ob S
  refine qw (fun (o:Int)=>IW w K [] K [(0,V3 A a b),(1,V3 B c d),(5,V6 o)] [] (rng64 o)) T ⟨K,u,hS,kr,d_0⟩ ?_
  rintro o _ aJ aK U C ⟨V,rfl,D,f,aL⟩
  refine wc_seq (sr (mv u (mv u (lv (rv_len underlying44 u (k.mono f)) (lv (rv_lss u u) (nq (wcc U u (fun W q=>?_) (fun W q=>?_))))))))
  ·refine wc_skip (qs (wc_block (wc_seq (wc_quiet mixed (by kernel_rfl) D (km u (km u ?_))))))
   obtain⟨G,X,Y⟩:=ob q
   refine ki underlying44 tf116 (k.mono f) X fun aa ab aM ac ad=>?_
   obtain⟨ae,af,ag,rfl,ah,ai,aj⟩:=ac
   have ak:AtK _ aa ab [sv G.Field,sv G.Term,V3 ae af ag]:=ad
   refine kh (rq_loadS tf116 u ak u) (km u (km u ?_))
   obtain⟨H,al,am⟩:=ob Y
   refine ki underlying44 tf116 (x.mono f) al fun an ao aN ap aq=>?_
   obtain⟨ar,au,aw,rfl,ax,ay,az⟩:=ap
   have aA:AtK _ an ao [sv H.Field,sv H.Term,V3 ar au aw]:=aq
   refine kh (rq_loadS tf116 u aA u) ?_
   obtain⟨aO,aB,aC⟩:=ob am
   refine kc co156 (fun _ _ aD I=>(ok_laws_eqEntry F) aD.enter0 ah ai (aj.mono I) ax ay (az.mono I) aB) (kv (rv_not u) (wq_nil ?_))
   rintro aP ⟨J,O,aE⟩
   refine qe_seq (wcc aC u (fun aF s=>?_) (fun aF s=>?_))
   ·refine sr (lv (r_f u) (nq (wc_ret (qe_block_ret (qe_then_ret (qe_then_ret ?_))))))
    cases oi s
    cases C _ u
    refine qe_block_ret (qe_then_ret ?_)
    cases oi y
    refine qe_then_ret ?_
    cases oi i
    exact ey results79 ⟨J,u,O⟩
   refine wc_skip (qe_block (qe_seq (wc_region (mv u (lv (rv_add u u) (av u (wl_nil ?_)))))))
   cases oi s
   exact qd ⟨_,u,J,u,O,(f.trans aE),(w64_rng _)⟩
  refine wc_exit (qe_then_exit (qe_then_exit ?_))
  cases oi q
  cases C _ u
  refine qe_block_eq ?_
  cases oi y
  exact qe_mid' ⟨_,V,u,u,D,f⟩ trivial
 rintro _ aQ ⟨aR,aG,rfl,rfl,aH,aS⟩
 have i:=elim_l i
 refine qr (lv (r_t u) (nq (wc_ret ?_)))
 cases oi i
 exact ey results79 ⟨aG,u,aH⟩

theorem ok_laws_eqSeg {q0:GSeg}{q1:GSeg}{r:Bool}(hS:SH w K [] w K [])(H:SliceAt tGDoc K A a b q0.Docs)(I:SliceAt tGEntry K B c d q0.Entries)(J:SliceAt tGDoc K C f i q1.Docs)(O:SliceAt tGEntry K D k l q1.Entries)(hm:M.laws_eqSeg F q0 q1=some r):
  Calls prog 22 #[.agg #[V3 A a b,V3 B c d],.agg #[V3 C f i,V3 D k l]] w (R_b w K r):=by
 rw [M.laws_eqSeg] at hm
 refine ci func22 u ntmps22 (sr (bx u hS fun R af S=>?_))
 have T:SH _ _ _ _ _ [obj R [V3 A a b,V3 B c d] 46]:=S
 refine bx u T fun U ag V=>?_
 have o:SH _ _ _ _ _ [obj U [V3 C f i,V3 D k l] 46,_]:=V
 refine lv (r_f u) (nsr (fl ff46_0 u tf43 m1 o u (fl ff46_0 u tf43 m0 o u ?_)))
 obtain⟨ah,W,X⟩:=ob hm
 refine lk co24 (ok_laws_eqDocS F o.enter0 H J W) ?_
 rintro ai aj ⟨Y,rfl,q⟩
 have m:=(o.c0 q).t2
 refine lv (rv_not u) (nq (wcc X u (fun aa s=>?_) (fun aa s=>?_)))
 ·refine sr (lv (r_f u) (nq (rr ?_)))
  cases oi s
  exact ey results22 ⟨Y,u,m.s⟩
 refine wc_skip (qs (sr (fl ff46_1 u tf44 m1 m u (fl ff46_1 u tf44 m0 m u ?_))))
 obtain⟨ak,ab,ac⟩:=ob s
 refine lk co79 (ok_laws_eqEntryS F m.enter0 (I.mono q.le) (O.mono q.le) ab) ?_
 rintro al am ⟨y,rfl,ad⟩
 have G:=(m.c0 ad).t2
 refine lv (rv_not u) (nq (wcc ac u (fun ae x=>?_) (fun ae x=>?_)))
 ·refine sr (lv (r_f u) (nq (rr ?_)))
  cases oi x
  exact ey results22 ⟨y,u,G.s⟩
 refine wc_skip (qr (lv (r_t u) (nq (wc_ret ?_))))
 cases oi x
 exact ey results22 ⟨y,u,G.s⟩

theorem ok_laws_eqStringS {q0:List Str}{q1:List Str}{r:Bool}(hS:SH w K [] w K [])(k:SliceAt tStr K A a b q0)(x:SliceAt tStr K B c d q1)(hm:M.laws_eqStringS F q0 q1=some r):
  Calls prog 80 #[V3 A a b,V3 B c d] w (R_b w K r):=by
 rw [M.laws_eqStringS] at hm
 refine ci func80 u ntmps80 (sr (lv (r_f u) (nsr (mv u (lv (rv_len underlying22 u k) (mv u (lv (rv_len underlying22 u x) (lv (rv_neq u u) (nq ?_)))))))))
 refine wc_cond u (fun l=>?_) (fun l=>?_)
 ·have m:=cond_t l hm
  refine sr (lv (r_f u) (nq (rr ?_)))
  cases oi m
  exact ey results80 ⟨K,u,hS⟩
 have m:=cond_f l hm
 refine wc_skip (qs (sr (lv (r_0 u) (nq ?_))))
 obtain⟨I,J,i⟩:=ob m
 refine wc_cutg (IE I w K [] K [] []) ?_ ?_
 ·refine wc_block ?_
  obtain⟨ap,O,y⟩:=ob J
  refine qw (fun (o:Int)=>IW w K [] K [(0,V3 A a b),(1,V3 B c d),(5,V6 o)] [] (rng64 o)) O ⟨K,u,hS,kr,d_0⟩ ?_
  rintro o _ aq ar R C ⟨S,rfl,D,f,au⟩
  refine wc_seq (sr (mv u (mv u (lv (rv_len underlying22 u (k.mono f)) (lv (rv_lss u u) (nq (wcc R u (fun T q=>?_) (fun T q=>?_))))))))
  ·refine wc_skip (qs (wc_block (wc_seq (wc_quiet mixed (by kernel_rfl) D (km u (km u ?_))))))
   obtain⟨U,V,W⟩:=ob q
   refine ki underlying22 tf9 (k.mono f) V fun X Y aw aa ab=>?_
   obtain⟨rfl,ax⟩:=aa
   have ac:AtK _ X Y [sv U]:=ab
   refine kh (rq_load1 tf9 u (ac 0 _ u)) (km u (km u ?_))
   obtain⟨ad,ae,af⟩:=ob W
   refine ki underlying22 tf9 (x.mono f) ae fun ag ah ay ai aj=>?_
   obtain⟨rfl,az⟩:=ai
   have ak:AtK _ ag ah [sv ad]:=aj
   refine kh (rq_load1 tf9 u (ak 0 _ u)) (kv (rv_sneq u u) (wq_nil ?_))
   rintro aA ⟨G,H,al⟩
   refine qe_seq (wcc af u (fun am s=>?_) (fun am s=>?_))
   ·refine sr (lv (r_f u) (nq (wc_ret (qe_block_ret (qe_then_ret (qe_then_ret ?_))))))
    cases oi s
    cases C _ u
    refine qe_block_ret (qe_then_ret ?_)
    cases oi y
    refine qe_then_ret ?_
    cases oi i
    exact ey results80 ⟨G,u,H⟩
   refine wc_skip (qe_block (qe_seq (wc_region (mv u (lv (rv_add u u) (av u (wl_nil ?_)))))))
   cases oi s
   exact qd ⟨_,u,G,u,H,(f.trans al),(w64_rng _)⟩
  refine wc_exit (qe_then_exit (qe_then_exit ?_))
  cases oi q
  cases C _ u
  refine qe_block_eq ?_
  cases oi y
  exact qe_mid' ⟨_,S,u,u,D,f⟩ trivial
 rintro _ aB ⟨aC,an,rfl,rfl,ao,aD⟩
 have i:=elim_l i
 refine qr (lv (r_t u) (nq (wc_ret ?_)))
 cases oi i
 exact ey results80 ⟨an,u,ao⟩

theorem ok_laws_eqSyn {q0:GSyn}{q1:GSyn}{r:Bool}(hS:SH w K [] w K [])(o:SliceAt tStr K A a b q0.From)(R:q0.To.length≤maxLen)(q:SliceAt tStr K B c d q1.From)(S:q1.To.length≤maxLen)(hm:M.laws_eqSyn F q0 q1=some r):
  Calls prog 157 #[.agg #[V3 A a b,sv q0.To],.agg #[V3 B c d,sv q1.To]] w (R_b w K r):=by
 rw [M.laws_eqSyn] at hm
 refine ci func157 u ntmps157 (sr (bx u hS fun s T x=>?_))
 have y:SH _ _ _ _ _ [obj s [V3 A a b,sv q0.To] 159]:=x
 refine bx u y fun C U D=>?_
 have i:SH _ _ _ _ _ [obj C [V3 B c d,sv q1.To] 159,_]:=D
 refine lv (r_f u) (nsr (fl ff159_0 u tf22 m1 i u (fl ff159_0 u tf22 m0 i u ?_)))
 obtain⟨V,G,H⟩:=ob hm
 refine lk co80 (ok_laws_eqStringS F i.enter0 o q G) ?_
 rintro W X ⟨k,rfl,I⟩
 have f:=(i.c0 I).t2
 refine lv (rv_not u) (nq (wcc H u (fun J l=>?_) (fun J l=>?_)))
 ·refine sr (lv (r_f u) (nq (rr ?_)))
  cases oi l
  exact ey results157 ⟨k,u,f.s⟩
 refine wc_skip (qs (sr (fl ff159_1 u tf9 m1 f u (fl ff159_1 u tf9 m0 f u (lv (rv_sneq u u) (nq (wcc l u (fun O m=>?_) (fun O m=>?_))))))))
 ·refine sr (lv (r_f u) (nq (rr ?_)))
  cases oi m
  exact ey results157 ⟨k,u,f.s⟩
 refine wc_skip (qr (lv (r_t u) (nq (wc_ret ?_))))
 cases oi m
 exact ey results157 ⟨k,u,f.s⟩

theorem ok_laws_eqSynS {q0:List GSyn}{q1:List GSyn}{r:Bool}(hS:SH w K [] w K [])(k:SliceAt tGSyn K A a b q0)(x:SliceAt tGSyn K B c d q1)(hm:M.laws_eqSynS F q0 q1=some r):
  Calls prog 81 #[V3 A a b,V3 B c d] w (R_b w K r):=by
 rw [M.laws_eqSynS] at hm
 refine ci func81 u ntmps81 (sr (lv (r_f u) (nsr (mv u (lv (rv_len underlying31 u k) (mv u (lv (rv_len underlying31 u x) (lv (rv_neq u u) (nq ?_)))))))))
 refine wc_cond u (fun l=>?_) (fun l=>?_)
 ·have m:=cond_t l hm
  refine sr (lv (r_f u) (nq (rr ?_)))
  cases oi m
  exact ey results81 ⟨K,u,hS⟩
 have m:=cond_f l hm
 refine wc_skip (qs (sr (lv (r_0 u) (nq ?_))))
 obtain⟨J,O,i⟩:=ob m
 refine wc_cutg (IE J w K [] K [] []) ?_ ?_
 ·refine wc_block ?_
  obtain⟨aG,R,y⟩:=ob O
  refine qw (fun (o:Int)=>IW w K [] K [(0,V3 A a b),(1,V3 B c d),(5,V6 o)] [] (rng64 o)) R ⟨K,u,hS,kr,d_0⟩ ?_
  rintro o _ aH aI S C ⟨T,rfl,D,f,aJ⟩
  refine wc_seq (sr (mv u (mv u (lv (rv_len underlying31 u (k.mono f)) (lv (rv_lss u u) (nq (wcc S u (fun U q=>?_) (fun U q=>?_))))))))
  ·refine wc_skip (qs (wc_block (wc_seq (wc_quiet mixed (by kernel_rfl) D (km u (km u ?_))))))
   obtain⟨V,W,X⟩:=ob q
   refine ki underlying31 tf159 (k.mono f) W fun Y aa aK ab ac=>?_
   obtain⟨ad,ae,af,rfl,ag,ah⟩:=ab
   have ai:AtK _ Y aa [V3 ad ae af,sv V.To]:=ac
   refine kh (rq_loadS tf159 u ai u) (km u (km u ?_))
   obtain⟨aj,ak,al⟩:=ob X
   refine ki underlying31 tf159 (x.mono f) ak fun am an aL ao ap=>?_
   obtain⟨aq,ar,au,rfl,aw,ax⟩:=ao
   have ay:AtK _ am an [V3 aq ar au,sv aj.To]:=ap
   refine kh (rq_loadS tf159 u ay u) ?_
   obtain⟨aM,az,aA⟩:=ob al
   refine kc co157 (fun _ _ aB G=>(ok_laws_eqSyn F) aB.enter0 (ag.mono G) ah (aw.mono G) ax az) (kv (rv_not u) (wq_nil ?_))
   rintro aN ⟨H,I,aC⟩
   refine qe_seq (wcc aA u (fun aD s=>?_) (fun aD s=>?_))
   ·refine sr (lv (r_f u) (nq (wc_ret (qe_block_ret (qe_then_ret (qe_then_ret ?_))))))
    cases oi s
    cases C _ u
    refine qe_block_ret (qe_then_ret ?_)
    cases oi y
    refine qe_then_ret ?_
    cases oi i
    exact ey results81 ⟨H,u,I⟩
   refine wc_skip (qe_block (qe_seq (wc_region (mv u (lv (rv_add u u) (av u (wl_nil ?_)))))))
   cases oi s
   exact qd ⟨_,u,H,u,I,(f.trans aC),(w64_rng _)⟩
  refine wc_exit (qe_then_exit (qe_then_exit ?_))
  cases oi q
  cases C _ u
  refine qe_block_eq ?_
  cases oi y
  exact qe_mid' ⟨_,T,u,u,D,f⟩ trivial
 rintro _ aO ⟨aP,aE,rfl,rfl,aF,aQ⟩
 have i:=elim_l i
 refine qr (lv (r_t u) (nq (wc_ret ?_)))
 cases oi i
 exact ey results81 ⟨aE,u,aF⟩

theorem ok_laws_eqConf {q0:GConf}{q1:GConf}{r:Bool}(hS:SH w K [] w K [])(H:SliceAt tStr K A a b q0.Stops)(I:SliceAt tGSyn K B c d q0.Syns)(J:SliceAt tStr K C f i q1.Stops)(O:SliceAt tGSyn K D k l q1.Syns)(hm:M.laws_eqConf F q0 q1=some r):
  Calls prog 23 #[.agg #[V3 A a b,V3 B c d],.agg #[V3 C f i,V3 D k l]] w (R_b w K r):=by
 rw [M.laws_eqConf] at hm
 refine ci func23 u ntmps23 (sr (bx u hS fun R af S=>?_))
 have T:SH _ _ _ _ _ [obj R [V3 A a b,V3 B c d] 33]:=S
 refine bx u T fun U ag V=>?_
 have o:SH _ _ _ _ _ [obj U [V3 C f i,V3 D k l] 33,_]:=V
 refine lv (r_f u) (nsr (fl ff33_0 u tf22 m1 o u (fl ff33_0 u tf22 m0 o u ?_)))
 obtain⟨ah,W,X⟩:=ob hm
 refine lk co80 (ok_laws_eqStringS F o.enter0 H J W) ?_
 rintro ai aj ⟨Y,rfl,q⟩
 have m:=(o.c0 q).t2
 refine lv (rv_not u) (nq (wcc X u (fun aa s=>?_) (fun aa s=>?_)))
 ·refine sr (lv (r_f u) (nq (rr ?_)))
  cases oi s
  exact ey results23 ⟨Y,u,m.s⟩
 refine wc_skip (qs (sr (fl ff33_1 u tf31 m1 m u (fl ff33_1 u tf31 m0 m u ?_))))
 obtain⟨ak,ab,ac⟩:=ob s
 refine lk co81 (ok_laws_eqSynS F m.enter0 (I.mono q.le) (O.mono q.le) ab) ?_
 rintro al am ⟨y,rfl,ad⟩
 have G:=(m.c0 ad).t2
 refine lv (rv_not u) (nq (wcc ac u (fun ae x=>?_) (fun ae x=>?_)))
 ·refine sr (lv (r_f u) (nq (rr ?_)))
  cases oi x
  exact ey results23 ⟨y,u,G.s⟩
 refine wc_skip (qr (lv (r_t u) (nq (wc_ret ?_))))
 cases oi x
 exact ey results23 ⟨y,u,G.s⟩

theorem ok_laws_markText {q0:Int}{r:Str}(hS:SH w K [] w K [])(y:rng64 q0)(hm:M.laws_markText F q0=some r):
  Calls prog 160 #[V6 q0] w fun e w'=>∃K',e= .returned (sv r)∧SH w K [] w' K' []∧r.length≤maxLen:=by
 rw [M.laws_markText] at hm
 refine ci func160 u ntmps160 (sr (lv (r_s u) (nsr (mv u (lv (rv_leq u u) (nq (wc_cond u (fun b=>?_) (fun b=>?_))))))))
 ·have c:=cond_t b hm
  refine sr (lv (rv_assign (v:=sv [109,48]) u) (nq (rr ?_)))
  cases oi c
  exact ey results160 ⟨K,u,hS,(by decide :([109,48]:Str).length≤maxLen)⟩
 have c:=cond_f b hm
 refine wc_skip (qr (lv (r_s u) (ns ?_)))
 obtain⟨i,A,B⟩:=ob c
 refine wc_cutg (IW w K [] K [(3,sv i)] [] (i.length≤maxLen)) ?_ ?_
 ·refine wc_block ?_
  obtain⟨ac,C,D⟩:=ob A
  refine qw (fun (a:Int×Str)=>IW w K [] K [(0,V6 a.1),(3,sv a.2)] [] (rng64 a.1∧a.2.length≤maxLen)) C ⟨K,u,hS,kr,y,(by decide :([]:Str).length≤maxLen)⟩ ?_
  rintro a _ ad ae G H ⟨I,rfl,k,l,af,J⟩
  refine wc_seq (sr (mv u (lv (rv_gtr u u) (nq (wcc G u (fun O d=>?_) (fun O d=>?_))))))
  ·refine wc_skip (qe_seq (wc_block (sr (mv u ?_))))
   obtain⟨f,R,S⟩:=ob d
   refine lv (rv_rem u u R) (lv (rv_add u u) (lv (rv_i2b underlying3 underlying5 u) (lb tU8 (iv8 (byteOfI (w64 ((48:Int)+f)))) [iv8 (byteOfI (w64 ((48:Int)+f)))] (byteOfI (w64 ((48:Int)+f))) underlying69 tf5 u k fun ag ah T U V m=>(lv (rv_b2s underlying69 underlying5 underlying9 u V m) (mv u ?_)))))
   obtain⟨ai,o,W⟩:=ob S
   refine lv (rv_sadd u u o) (av u (nq (wc_region (mv u ?_))))
   obtain⟨aj,q,X⟩:=ob W
   refine lv (rv_quo u u q) (av u (nb ?_))
   cases oi X
   exact qd ⟨_,u,T,u,m.s,(l.trans U),(rng_quo q),(len_cat o)⟩
  refine wc_exit (qe_then_exit (qe_then_exit ?_))
  cases oi d
  cases H _ u
  refine qe_block_eq ?_
  cases oi D
  exact qd ⟨I,u,k,l,J⟩
 rintro _ w9 ⟨Y,rfl,aa,al,am⟩
 refine qr (mv u ?_)
 obtain⟨an,x,ab⟩:=ob B
 refine lv (rv_sadd (s:=([109]:Str)) u u x) (av u (nq (wc_ret ?_)))
 cases oi ab
 exact ey results160 ⟨Y,u,aa,(len_cat x)⟩

theorem ok_laws_markStringS {B:List Nat}{KM:KMap}{q0:List Str}{q1:Int}{r:Int}(hS:SH w K Z w K [mkI B KM])(i:SliceAt tStr (KM.only B) A a b q0)(q:rng64 q1)(hm:M.laws_markStringS F q0 q1=some r):
  Calls prog 83 #[V3 A a b,V6 q1] w fun e w'=>∃K',e= .returned (V6 r)∧SH w K Z w' K' [mkI B KM]∧rng64 r:=by
 rw [M.laws_markStringS] at hm
 refine ci func83 u ntmps83 (sr (lv (r_0 u) (nsr (lv (r_0 u) (nq ?_)))))
 obtain⟨k,s,x⟩:=ob hm
 refine wc_cutg (IW w K Z K [(1,V6 k)] [mkI B KM] (rng64 k)) ?_ ?_
 ·refine wc_block ?_
  obtain⟨ah,y,C⟩:=ob s
  refine qw (fun (c:Int×Int)=>IW w K Z K [(0,V3 A a b),(1,V6 c.1),(5,V6 c.2)] [mkI B KM] (rng64 c.1∧rng64 c.2)) y ⟨K,u,hS,kr,q,d_0⟩ ?_
  rintro c _ ai aj D G ⟨H,rfl,d,l,m,ak⟩
  refine wc_seq (sr (mv u (mv u (lv (rv_len underlying22 u i) (lv (rv_lss u u) (nq (wcc D u (fun I f=>?_) (fun I f=>?_))))))))
  ·refine wc_skip (qs (wc_block (sr (mv u (mv u (mv u ?_))))))
   obtain⟨J,O,R⟩:=ob f
   refine lk co160 (ok_laws_markText F d.enter0 m O) ?_
   rintro al am ⟨S,rfl,o,an⟩
   have T:=(d.c0 o).t1
   obtain⟨U,V,W⟩:=ob R
   refine li underlying22 tf9 i V fun X Y ao aa ab=>?_
   obtain⟨rfl,ap⟩:=aa
   have ac:AtK _ X Y [sv U]:=ab
   refine mk_store (v:=sv J) wn tf9 u u u T (ac 0 _ u) u fun aq ad=>(nq (wc_region (mv u (lv (rv_add u u) (av u (nb (qe_seq (wc_region (mv u ?_)))))))))
   refine lv (rv_add u u) (av u (wl_nil ?_))
   cases oi W
   exact qd ⟨_,u,S,u,ad,(l.trans o.le),(w64_rng _),(w64_rng _)⟩
  refine wc_exit (qe_then_exit (qe_then_exit ?_))
  cases oi f
  cases G _ u
  refine qe_block_eq ?_
  cases oi C
  exact qd ⟨H,u,d,l,m⟩
 rintro _ ar ⟨K9,rfl,af,au,ag⟩
 refine qr (mv u (av u (nq (wc_ret ?_))))
 cases oi x
 exact ey results83 ⟨K9,u,af,ag⟩

theorem ok_laws_markSynS {B:List Nat}{KM:KMap}{q0:List GSyn}{q1:Int}{r:Int}(hS:SH w K Z w K [mkI B KM])(f:SliceAt tGSyn (KM.only B) A a b q0)(x:rng64 q1)(hm:M.laws_markSynS F q0 q1=some r):
  Calls prog 84 #[V3 A a b,V6 q1] w fun e w'=>∃K',e= .returned (V6 r)∧SH w K Z w' K' [mkI B KM]∧rng64 r:=by
 rw [M.laws_markSynS] at hm
 refine ci func84 u ntmps84 (sr (lv (r_0 u) (nsr (lv (r_0 u) (nq ?_)))))
 obtain⟨k,y,C⟩:=ob hm
 refine wc_cutg (IW w K Z K [(1,V6 k)] [mkI B KM] (rng64 k)) ?_ ?_
 ·refine wc_block ?_
  obtain⟨aE,D,G⟩:=ob y
  refine qw (fun (c:Int×Int)=>IW w K Z K [(0,V3 A a b),(1,V6 c.1),(5,V6 c.2)] [mkI B KM] (rng64 c.1∧rng64 c.2)) D ⟨K,u,hS,kr,x,d_0⟩ ?_
  rintro c _ aF aG H I ⟨J,rfl,d,l,m,aH⟩
  refine wc_seq (sr (mv u (mv u (lv (rv_len underlying31 u f) (lv (rv_lss u u) (nq (wcc H u (fun O i=>?_) (fun O i=>?_))))))))
  ·refine wc_skip (qs (wc_block (sr (mv u (mv u ?_)))))
   obtain⟨R,S,T⟩:=ob i
   refine li underlying31 tf159 f S fun U V aI W X=>?_
   obtain⟨Y,aa,ab,rfl,ac,aJ⟩:=W
   have ad:AtK _ U V [V3 Y aa ab,sv R.To]:=X
   refine fa ff159_0 u (lv (mk_load tf22 u d (ad 0 _ u)) (mv u ?_))
   obtain⟨aK,ae,af⟩:=ob T
   refine lk co83 (ok_laws_markStringS F d.e1 ac m ae) ?_
   rintro aL aM ⟨aN,rfl,o,ag⟩
   have q:=(d.c1 o).t1
   refine av u (nr (mv u (mv u (mv u ?_))))
   obtain⟨ah,ai,aj⟩:=ob af
   refine lk co160 (ok_laws_markText F q.enter0 ag ai) ?_
   rintro aO aP ⟨ak,rfl,s,aQ⟩
   have al:=(q.c0 s).t1
   obtain⟨am,an,ao⟩:=ob aj
   refine li underlying31 tf159 f an fun ap aq aR ar au=>?_
   obtain⟨aw,ax,ay,rfl,aS,aT⟩:=ar
   have az:AtK _ ap aq [V3 aw ax ay,sv am.To]:=au
   refine fa ff159_1 u (mk_store (v:=sv ah) wn tf9 u u u al (az 1 _ u) u fun aU aA=>(nq (wc_region (mv u (lv (rv_add u u) (av u (nb (qe_seq (wc_region ?_)))))))))
   refine mv u (lv (rv_add u u) (av u (wl_nil ?_)))
   cases oi ao
   exact qd ⟨_,u,ak,u,aA,((l.trans o.le).trans s.le),(w64_rng _),(w64_rng _)⟩
  refine wc_exit (qe_then_exit (qe_then_exit ?_))
  cases oi i
  cases I _ u
  refine qe_block_eq ?_
  cases oi G
  exact qd ⟨J,u,d,l,m⟩
 rintro _ aV ⟨K9,rfl,aC,aW,aD⟩
 refine qr (mv u (av u (nq (wc_ret ?_))))
 cases oi C
 exact ey results84 ⟨K9,u,aC,aD⟩

theorem ok_laws_markConf {B:List Nat}{KM:KMap}{q0:GConf}{q1:Int}{r:Int}(hS:SH w K Z w K [mkI B KM])(l:SliceAt tStr (KM.only B) A a b q0.Stops)(m:SliceAt tGSyn (KM.only B) C c d q0.Syns)(o:rng64 q1)(hm:M.laws_markConf F q0 q1=some r):
  Calls prog 25 #[.agg #[V3 A a b,V3 C c d],V6 q1] w fun e w'=>∃K',e= .returned (V6 r)∧SH w K Z w' K' [mkI B KM]∧rng64 r:=by
 rw [M.laws_markConf] at hm
 refine ci func25 u ntmps25 (sr (bx u hS fun q T s=>?_))
 have i:SH _ _ _ _ _ [obj q [V3 A a b,V3 C c d] 33,_]:=s
 refine lv (r_0 u) (nr (fl ff33_0 u tf22 m0 i u (mv u ?_)))
 obtain⟨U,x,y⟩:=ob hm
 have k:=i.f1
 refine lk co83 (ok_laws_markStringS F k.e1 l o x) ?_
 rintro V W ⟨X,rfl,D,G⟩
 have f:=(k.c1 D).t2
 refine av u (nr (fl ff33_1 u tf31 m1 f u (mv u ?_)))
 obtain⟨Y,H,I⟩:=ob y
 refine lk co84 (ok_laws_markSynS F f.e1 m G H) ?_
 rintro aa ab ⟨J,rfl,O,R⟩
 have S:=(f.c1 O).t2
 refine av u (nr (mv u (av u (nq (wc_ret ?_)))))
 cases oi I
 exact ey results25 ⟨J,u,S.s,R⟩

theorem ok_laws_markFieldS {B:List Nat}{KM:KMap}{q0:List GField}{q1:Int}{r:Int}(hS:SH w K Z w K [mkI B KM])(d:SliceAt tGField (KM.only B) A a b q0)(C:rng64 q1)(hm:M.laws_markFieldS F q0 q1=some r):
  Calls prog 85 #[V3 A a b,V6 q1] w fun e w'=>∃K',e= .returned (V6 r)∧SH w K Z w' K' [mkI B KM]∧rng64 r:=by
 rw [M.laws_markFieldS] at hm
 refine ci func85 u ntmps85 (sr (lv (r_0 u) (nsr (lv (r_0 u) (nq ?_)))))
 obtain⟨k,D,G⟩:=ob hm
 refine wc_cutg (IW w K Z K [(1,V6 k)] [mkI B KM] (rng64 k)) ?_ ?_
 ·refine wc_block ?_
  obtain⟨ay,H,I⟩:=ob D
  refine qw (fun (c:Int×Int)=>IW w K Z K [(0,V3 A a b),(1,V6 c.1),(5,V6 c.2)] [mkI B KM] (rng64 c.1∧rng64 c.2)) H ⟨K,u,hS,kr,C,d_0⟩ ?_
  rintro c _ az aA J O ⟨R,rfl,f,l,m,aB⟩
  refine wc_seq (sr (mv u (mv u (lv (rv_len underlying74 u d) (lv (rv_lss u u) (nq (wcc J u (fun S i=>?_) (fun S i=>?_))))))))
  ·refine wc_skip (qs (wc_block (sr (mv u (mv u (mv u ?_))))))
   obtain⟨T,U,V⟩:=ob i
   refine lk co160 (ok_laws_markText F f.enter0 m U) ?_
   rintro aC aD ⟨aE,rfl,o,aF⟩
   have W:=(f.c0 o).t1
   obtain⟨q,X,Y⟩:=ob V
   refine li underlying74 tf108 d X fun aa ab aG ac ad=>?_
   obtain⟨rfl,aH,aI⟩:=ac
   have ae:AtK _ aa ab [sv q.Name,sv q.Text]:=ad
   refine fa ff108_0 u (mk_store (v:=sv T) wn tf9 u u u W (ae 0 _ u) u fun aJ s=>(nr (mv u (lv (rv_add u u) (av u (nr (mv u (mv u (mv u ?_)))))))))
   obtain⟨af,ag,ah⟩:=ob Y
   refine lk co160 (ok_laws_markText F s.enter0 (w64_rng _) ag) ?_
   rintro aK aL ⟨ai,rfl,x,aM⟩
   have aj:=(s.c0 x).t1
   obtain⟨y,ak,al⟩:=ob ah
   refine li underlying74 tf108 d ak fun am an aN ao ap=>?_
   obtain⟨rfl,aO,aP⟩:=ao
   have aq:AtK _ am an [sv y.Name,sv y.Text]:=ap
   refine fa ff108_1 u (mk_store (v:=sv af) wn tf9 u u u aj (aq 1 _ u) u fun aQ ar=>(nq (wc_region (mv u (lv (rv_add u u) (av u (nb (qe_seq (wc_region ?_)))))))))
   refine mv u (lv (rv_add u u) (av u (wl_nil ?_)))
   cases oi al
   exact qd ⟨_,u,ai,u,ar,((l.trans o.le).trans x.le),(w64_rng _),(w64_rng _)⟩
  refine wc_exit (qe_then_exit (qe_then_exit ?_))
  cases oi i
  cases O _ u
  refine qe_block_eq ?_
  cases oi I
  exact qd ⟨R,u,f,l,m⟩
 rintro _ aR ⟨K9,rfl,aw,aS,ax⟩
 refine qr (mv u (av u (nq (wc_ret ?_))))
 cases oi G
 exact ey results85 ⟨K9,u,aw,ax⟩

theorem hx_laws_markFieldS (F:Nat){w:World}{K:KMap}{a1:Option Addr}{n2 c3:Nat}{B f0:List Nat}{H:KMap}{p0_a:List GField}{p1_k r:Int}(hS:SH w K (List.flatMap Item.gs [hp B H]) w K [hp B H])(hB0: ∀b∈f0,b∈B)(hN0:f0.Nodup)(ho0:RowO oField H f0 (.slice a1 n2 c3) p0_a)(hr5:rng64 p1_k)(hm:M.laws_markFieldS F p0_a p1_k=some r):
  Calls Tryz.prog 85 #[.slice a1 n2 c3,.int .i64 p1_k] w fun e w'=>∃(K' H':KMap),e= .returned (.int .i64 r)∧SH w K (List.flatMap Item.gs [hp B H]) w' K' [hp B H']∧rng64 r∧RowO oField H' f0 (.slice a1 n2 c3) (mkRow (stepGField F) p1_k p0_a).1∧r=(mkRow (stepGField F) p1_k p0_a).2∧∀b,b∉f0→H' b=H b:=by
 rw [M.laws_markFieldS] at hm
 refine calls_in Tryz.func85 u Tryz.ntmps85 u ?_
 refine sr ?_
 refine wl_val wn u (rv_assign (v:=.int .i64 0) u) ?_
 refine nsr ?_
 refine wl_val wn u (rv_assign (v:=.int .i64 0) u) ?_
 refine nq ?_
 obtain⟨o6,h7,h8⟩:=ob hm
 refine wc_cutg (fun E' w'=>∃(K9 H9:KMap),E'=[(1,.int .i64 o6)]∧SH w K (List.flatMap Item.gs [hp B H]) w' K9 [hp B H9]∧KLe K K9∧rng64 o6∧RowO oField H9 f0 (.slice a1 n2 c3) (mkRow (stepGField F) p1_k p0_a).1∧o6=(mkRow (stepGField F) p1_k p0_a).2∧∀b,b∉f0→H9 b=H b) ?_ ?_
 ·refine wc_block ?_
  obtain⟨r15,h16,h17⟩:=ob h7
  refine wc_while' (fun (s14:Int×Int) E' w'=>∃(K18 H18:KMap) (i18:Nat),E'=[(0,.slice a1 n2 c3),(1,.int .i64 s14.1),(5,.int .i64 s14.2)]∧SH w K (List.flatMap Item.gs [hp B H]) w' K18 [hp B H18]∧KLe K K18∧rng64 s14.1∧rng64 s14.2∧s14.2=(i18:Int)∧s14.1=mkAt (stepGField F) p1_k p0_a i18∧RowO oField H18 f0 (.slice a1 n2 c3) (mkTo (stepGField F) p1_k p0_a i18)∧∀b,b∉f0→H18 b=H b) h16 ⟨K,H,0,u,hS,(KLe.refl _),hr5,d_0,u,u,ho0,fun _ _=>rfl⟩ ⟨u,u,u,trivial⟩ ?_
  rintro s14 _ w20 r24 h25 hx26 ⟨K18,H18,i18,rfl,hS21,hl19,hr22,hr23,hj0,hk0,hoR,hsM⟩
  have hn0:n2=p0_a.length:=hoR.sl.1.trans mkTo_len
  refine wc_seq ?_
  refine sr ?_
  refine vm u u ?_
  refine vm u u ?_
  refine wl_val wn u (rv_lenRow Tryz.underlying74 u hn0) ?_
  refine wl_val wn u (rv_lss u u) ?_
  refine nq ?_
  refine wc_cond u (fun hb27=>?_) (fun hb27=>?_)
  ·have h28:=cond_t hb27 h25
   refine wc_skip ?_
   refine qs ?_
   refine wc_block ?_
   refine sr ?_
   refine vm u u ?_
   refine vm u u ?_
   refine vm u u ?_
   obtain⟨r29,hx30,h31⟩:=ob h28
   refine wl_call wn u (rt_call (vs:=[.int .i64 s14.1]) co160 u) ((ok_laws_markText F) hS21.enter0 hr22 hx30) ?_
   rintro e36 w33 ⟨K32,rfl,hS34,hl35⟩
   refine⟨_,u,?_⟩
   have hS37:SH _ _ _ _ _ [_]:=SH.call0 hS21 hS34
   obtain⟨x38,hx39,h40⟩:=ob h31
   obtain⟨g0,fi0,u0,rfl,_,hgf0,hff0,hgn0,hfn0,hu0,hA0,hcl0⟩:=RowO.at hoR hN0 (mkTo_get (step:=(stepGField F)) (k:=p1_k) hj0 hx39)
   obtain⟨hq0,hf0⟩:=hu0
   subst hf0
   obtain⟨rfl,_⟩:=hq0
   have hE0:El H18 H18 g0 (s14.2.toNat*2) 2 [] [sv x38.Name,sv x38.Text]:=El.start hA0
   refine wl_val wn u (rv_indexRow (t:=tGField) (xs:=p0_a) Tryz.underlying74 tf108 u u hn0 hx39) ?_
   refine wl_val wn u (rv_fieldAddr ff108_0 u) ?_
   refine hp_store (v:=sv r29) wn tf9 (by exact rfl) u u hS37 (hB0 _ hgf0) (hE0.1 0 _ u) ?_
   intro w49 hSq0
   have hS50:SH _ _ _ _ _ [hp B (poke H18 g0 ((s14.2.toNat*2)+0) (sv r29))]:=hSq0
   have hE1:El H18 (poke H18 g0 ((s14.2.toNat*2)+0) (sv r29)) g0 (s14.2.toNat*2) 2 [] [sv r29,sv x38.Text]:=El.poke hE0 (by decide)
   have hsM1:=off_poke (p:=(s14.2.toNat*2)+0) (v:=sv r29) hsM hgf0
   refine nr ?_
   refine vm u u ?_
   refine wl_val wn u (rv_add u u) ?_
   refine va u u ?_
   refine nr ?_
   refine vm u u ?_
   refine vm u u ?_
   refine vm u u ?_
   obtain⟨r51,hx52,h53⟩:=ob h40
   refine wl_call wn u (rt_call (vs:=[.int .i64 (w64 (s14.1+(1:Int)))]) co160 u) ((ok_laws_markText F) hS50.enter0 (w64_rng _) hx52) ?_
   rintro e58 w55 ⟨K54,rfl,hS56,hl57⟩
   refine⟨_,u,?_⟩
   have hS59:SH _ _ _ _ _ [_]:=SH.call0 hS50 hS56
   obtain⟨x60,hx61,h62⟩:=ob h53
   have hxe60:x38=x60:=oi (hx39.symm.trans hx61)
   subst hxe60
   refine wl_val wn u (rv_indexRow (t:=tGField) (xs:=p0_a) Tryz.underlying74 tf108 u u hn0 hx61) ?_
   refine wl_val wn u (rv_fieldAddr ff108_1 u) ?_
   refine hp_store (v:=sv r51) wn tf9 (by exact rfl) u u hS59 (hB0 _ hgf0) (hE1.1 1 _ u) ?_
   intro w71 hSq1
   have hS72:SH _ _ _ _ _ [hp B (poke (poke H18 g0 ((s14.2.toNat*2)+0) (sv r29)) g0 ((s14.2.toNat*2)+1) (sv r51))]:=hSq1
   have hE2:El H18 (poke (poke H18 g0 ((s14.2.toNat*2)+0) (sv r29)) g0 ((s14.2.toNat*2)+1) (sv r51)) g0 (s14.2.toNat*2) 2 [] [sv r29,sv r51]:=El.poke hE1 (by decide)
   have hsM2:=off_poke (p:=(s14.2.toNat*2)+1) (v:=sv r51) hsM1 hgf0
   refine nq ?_
   refine wc_region ?_
   refine vm u u ?_
   refine wl_val wn u (rv_add u u) ?_
   refine va u u ?_
   refine nb ?_
   refine qe_seq ?_
   refine wc_region ?_
   refine vm u u ?_
   refine wl_val wn u (rv_add u u) ?_
   refine va u u ?_
   refine wl_nil ?_
   obtain rfl:=oi h62
   have hnx:=mkTo_next (step:=(stepGField F)) (k:=p1_k) hj0 hx39
   rw [←hk0] at hnx
   have hro:=hcl0 (poke (poke H18 g0 ((s14.2.toNat*2)+0) (sv r29)) g0 ((s14.2.toNat*2)+1) (sv r51)) (.agg #[sv r29,sv r51]) _ (show oField.own _ [] _ (⟨r29,r51⟩:GField) from⟨⟨u,hl35,hl57⟩,u⟩) hE2.1 hE2.2
   obtain⟨ye,hye⟩: ∃y,y=stepGField F s14.1 x38:=⟨_,u⟩
   rw [←hye] at hnx
   unfold stepGField at hye
   rw [hx30,hx52] at hye
   simp only [Option.getD_some] at hye
   subst hye
   obtain⟨hn1,hn2,hn3⟩:=hnx
   have hmx:=Nat.le_trans (Nat.le_of_eq mkTo_len.symm) hoR.sl.max
   exact qe_mid' ⟨_,u,K54,(poke (poke H18 g0 ((s14.2.toNat*2)+0) (sv r29)) g0 ((s14.2.toNat*2)+1) (sv r51)),i18+1,u,hS72,((hl19.trans hS34.le).trans hS56.le),(w64_rng _),(w64_rng _),(by rw [hj0];exact w64_next (Nat.lt_of_lt_of_le hn3 hmx)),hn2,(by rw [←hn1];exact hro),hsM2⟩ ⟨u,u,u,trivial⟩
  ·have h28:=cond_f hb27 h25
   refine wc_exit ?_
   refine qe_then_exit ?_
   refine qe_then_exit ?_
   obtain rfl:=oi h28
   have e73:=hx26 _ u
   subst e73
   refine qe_block_eq ?_
   obtain rfl:=oi h17
   have hge0:p0_a.length≤i18:=by have:=of_decide_eq_false hb27;omega
   obtain⟨he1,he2⟩:=mkTo_end (step:=(stepGField F)) (k:=p1_k) hge0
   rw [he1] at hoR
   rw [he2] at hk0
   exact qe_mid' ⟨K18,H18,u,hS21,hl19,hr22,hoR,hk0,hsM⟩ ⟨u,trivial⟩
 ·rintro _ w11 ⟨K9,H9,rfl,hS12,hl10,hr13,hoF,hkF,hsF⟩
  refine qr ?_
  refine vm u u ?_
  refine va u u ?_
  refine nq ?_
  refine wc_ret ?_
  obtain rfl:=oi h8
  exact qe_ret (vs:=[_]) Tryz.results85 ⟨u,trivial⟩ ⟨K9,H9,u,hS12,hr13,hoF,hkF,hsF⟩

theorem ok_laws_markAttrS {B:List Nat}{KM:KMap}{q0:List GAttr}{q1:Int}{r:Int}(hS:SH w K Z w K [mkI B KM])(d:SliceAt tGAttr (KM.only B) A a b q0)(x:rng64 q1)(hm:M.laws_markAttrS F q0 q1=some r):
  Calls prog 86 #[V3 A a b,V6 q1] w fun e w'=>∃K',e= .returned (V6 r)∧SH w K Z w' K' [mkI B KM]∧rng64 r:=by
 rw [M.laws_markAttrS] at hm
 refine ci func86 u ntmps86 (sr (lv (r_0 u) (nsr (lv (r_0 u) (nq ?_)))))
 obtain⟨k,y,C⟩:=ob hm
 refine wc_cutg (IW w K Z K [(1,V6 k)] [mkI B KM] (rng64 k)) ?_ ?_
 ·refine wc_block ?_
  obtain⟨aq,D,G⟩:=ob y
  refine qw (fun (c:Int×Int)=>IW w K Z K [(0,V3 A a b),(1,V6 c.1),(5,V6 c.2)] [mkI B KM] (rng64 c.1∧rng64 c.2)) D ⟨K,u,hS,kr,x,d_0⟩ ?_
  rintro c _ ar au H I ⟨J,rfl,f,l,m,aw⟩
  refine wc_seq (sr (mv u (mv u (lv (rv_len underlying75 u d) (lv (rv_lss u u) (nq (wcc H u (fun O i=>?_) (fun O i=>?_))))))))
  ·refine wc_skip (qs (wc_block (sr (mv u (mv u (mv u ?_))))))
   obtain⟨R,S,T⟩:=ob i
   refine lk co160 (ok_laws_markText F f.enter0 m S) ?_
   rintro ax ay ⟨U,rfl,o,az⟩
   have V:=(f.c0 o).t1
   obtain⟨q,W,X⟩:=ob T
   refine li underlying75 tf142 d W fun Y aa aA ab ac=>?_
   obtain⟨rfl,aB,aC⟩:=ab
   have ad:AtK _ Y aa [sv q.Name,V6 q.Num]:=ac
   refine fa ff142_0 u (mk_store (v:=sv R) wn tf9 u u u V (ad 0 _ u) u fun aD ae=>(nr (mv u (lv (rv_add u u) (av u (nr (mv u (mv u (mv u ?_)))))))))
   obtain⟨s,af,ag⟩:=ob X
   refine li underlying75 tf142 d af fun ah ai aE aj ak=>?_
   obtain⟨rfl,aF,aG⟩:=aj
   have al:AtK _ ah ai [sv s.Name,V6 s.Num]:=ak
   refine fa ff142_1 u (mk_store (v:=V6 (w64 (c.1+(1:Int)))) wn tf3 u u u ae (al 1 _ u) u fun aH am=>(nq (wc_region (mv u (lv (rv_add u u) (av u (nb (qe_seq (wc_region ?_)))))))))
   refine mv u (lv (rv_add u u) (av u (wl_nil ?_)))
   cases oi ag
   exact qd ⟨_,u,U,u,am,(l.trans o.le),(w64_rng _),(w64_rng _)⟩
  refine wc_exit (qe_then_exit (qe_then_exit ?_))
  cases oi i
  cases I _ u
  refine qe_block_eq ?_
  cases oi G
  exact qd ⟨J,u,f,l,m⟩
 rintro _ aI ⟨K9,rfl,ao,aJ,ap⟩
 refine qr (mv u (av u (nq (wc_ret ?_))))
 cases oi C
 exact ey results86 ⟨K9,u,ao,ap⟩

theorem hx_laws_markAttrS (F:Nat){w:World}{K:KMap}{a1:Option Addr}{n2 c3:Nat}{B f0:List Nat}{H:KMap}{p0_a:List GAttr}{p1_k r:Int}(hS:SH w K (List.flatMap Item.gs [hp B H]) w K [hp B H])(hB0: ∀b∈f0,b∈B)(hN0:f0.Nodup)(ho0:RowO oAttr H f0 (.slice a1 n2 c3) p0_a)(hr5:rng64 p1_k)(hm:M.laws_markAttrS F p0_a p1_k=some r):
  Calls Tryz.prog 86 #[.slice a1 n2 c3,.int .i64 p1_k] w fun e w'=>∃(K' H':KMap),e= .returned (.int .i64 r)∧SH w K (List.flatMap Item.gs [hp B H]) w' K' [hp B H']∧rng64 r∧RowO oAttr H' f0 (.slice a1 n2 c3) (mkRow (stepGAttr F) p1_k p0_a).1∧r=(mkRow (stepGAttr F) p1_k p0_a).2∧∀b,b∉f0→H' b=H b:=by
 rw [M.laws_markAttrS] at hm
 refine calls_in Tryz.func86 u Tryz.ntmps86 u ?_
 refine sr ?_
 refine wl_val wn u (rv_assign (v:=.int .i64 0) u) ?_
 refine nsr ?_
 refine wl_val wn u (rv_assign (v:=.int .i64 0) u) ?_
 refine nq ?_
 obtain⟨o6,h7,h8⟩:=ob hm
 refine wc_cutg (fun E' w'=>∃(K9 H9:KMap),E'=[(1,.int .i64 o6)]∧SH w K (List.flatMap Item.gs [hp B H]) w' K9 [hp B H9]∧KLe K K9∧rng64 o6∧RowO oAttr H9 f0 (.slice a1 n2 c3) (mkRow (stepGAttr F) p1_k p0_a).1∧o6=(mkRow (stepGAttr F) p1_k p0_a).2∧∀b,b∉f0→H9 b=H b) ?_ ?_
 ·refine wc_block ?_
  obtain⟨r15,h16,h17⟩:=ob h7
  refine wc_while' (fun (s14:Int×Int) E' w'=>∃(K18 H18:KMap) (i18:Nat),E'=[(0,.slice a1 n2 c3),(1,.int .i64 s14.1),(5,.int .i64 s14.2)]∧SH w K (List.flatMap Item.gs [hp B H]) w' K18 [hp B H18]∧KLe K K18∧rng64 s14.1∧rng64 s14.2∧s14.2=(i18:Int)∧s14.1=mkAt (stepGAttr F) p1_k p0_a i18∧RowO oAttr H18 f0 (.slice a1 n2 c3) (mkTo (stepGAttr F) p1_k p0_a i18)∧∀b,b∉f0→H18 b=H b) h16 ⟨K,H,0,u,hS,(KLe.refl _),hr5,d_0,u,u,ho0,fun _ _=>rfl⟩ ⟨u,u,u,trivial⟩ ?_
  rintro s14 _ w20 r24 h25 hx26 ⟨K18,H18,i18,rfl,hS21,hl19,hr22,hr23,hj0,hk0,hoR,hsM⟩
  have hn0:n2=p0_a.length:=hoR.sl.1.trans mkTo_len
  refine wc_seq ?_
  refine sr ?_
  refine vm u u ?_
  refine vm u u ?_
  refine wl_val wn u (rv_lenRow Tryz.underlying75 u hn0) ?_
  refine wl_val wn u (rv_lss u u) ?_
  refine nq ?_
  refine wc_cond u (fun hb27=>?_) (fun hb27=>?_)
  ·have h28:=cond_t hb27 h25
   refine wc_skip ?_
   refine qs ?_
   refine wc_block ?_
   refine sr ?_
   refine vm u u ?_
   refine vm u u ?_
   refine vm u u ?_
   obtain⟨r29,hx30,h31⟩:=ob h28
   refine wl_call wn u (rt_call (vs:=[.int .i64 s14.1]) co160 u) ((ok_laws_markText F) hS21.enter0 hr22 hx30) ?_
   rintro e36 w33 ⟨K32,rfl,hS34,hl35⟩
   refine⟨_,u,?_⟩
   have hS37:SH _ _ _ _ _ [_]:=SH.call0 hS21 hS34
   obtain⟨x38,hx39,h40⟩:=ob h31
   obtain⟨g0,fi0,u0,rfl,_,hgf0,hff0,hgn0,hfn0,hu0,hA0,hcl0⟩:=RowO.at hoR hN0 (mkTo_get (step:=(stepGAttr F)) (k:=p1_k) hj0 hx39)
   obtain⟨hq0,hf0⟩:=hu0
   subst hf0
   obtain⟨rfl,_⟩:=hq0
   have hE0:El H18 H18 g0 (s14.2.toNat*2) 2 [] [sv x38.Name,.int .i64 x38.Num]:=El.start hA0
   refine wl_val wn u (rv_indexRow (t:=tGAttr) (xs:=p0_a) Tryz.underlying75 tf142 u u hn0 hx39) ?_
   refine wl_val wn u (rv_fieldAddr ff142_0 u) ?_
   refine hp_store (v:=sv r29) wn tf9 (by exact rfl) u u hS37 (hB0 _ hgf0) (hE0.1 0 _ u) ?_
   intro w49 hSq0
   have hS50:SH _ _ _ _ _ [hp B (poke H18 g0 ((s14.2.toNat*2)+0) (sv r29))]:=hSq0
   have hE1:El H18 (poke H18 g0 ((s14.2.toNat*2)+0) (sv r29)) g0 (s14.2.toNat*2) 2 [] [sv r29,.int .i64 x38.Num]:=El.poke hE0 (by decide)
   have hsM1:=off_poke (p:=(s14.2.toNat*2)+0) (v:=sv r29) hsM hgf0
   refine nr ?_
   refine vm u u ?_
   refine wl_val wn u (rv_add u u) ?_
   refine va u u ?_
   refine nr ?_
   refine vm u u ?_
   refine vm u u ?_
   refine vm u u ?_
   obtain⟨x51,hx52,h53⟩:=ob h40
   have hxe51:x38=x51:=oi (hx39.symm.trans hx52)
   subst hxe51
   refine wl_val wn u (rv_indexRow (t:=tGAttr) (xs:=p0_a) Tryz.underlying75 tf142 u u hn0 hx52) ?_
   refine wl_val wn u (rv_fieldAddr ff142_1 u) ?_
   refine hp_store (v:=.int .i64 (w64 (s14.1+(1:Int)))) wn tf3 (by exact rfl) u u hS50 (hB0 _ hgf0) (hE1.1 1 _ u) ?_
   intro w62 hSq1
   have hS63:SH _ _ _ _ _ [hp B (poke (poke H18 g0 ((s14.2.toNat*2)+0) (sv r29)) g0 ((s14.2.toNat*2)+1) (.int .i64 (w64 (s14.1+(1:Int)))))]:=hSq1
   have hE2:El H18 (poke (poke H18 g0 ((s14.2.toNat*2)+0) (sv r29)) g0 ((s14.2.toNat*2)+1) (.int .i64 (w64 (s14.1+(1:Int))))) g0 (s14.2.toNat*2) 2 [] [sv r29,.int .i64 (w64 (s14.1+(1:Int)))]:=El.poke hE1 (by decide)
   have hsM2:=off_poke (p:=(s14.2.toNat*2)+1) (v:=.int .i64 (w64 (s14.1+(1:Int)))) hsM1 hgf0
   refine nq ?_
   refine wc_region ?_
   refine vm u u ?_
   refine wl_val wn u (rv_add u u) ?_
   refine va u u ?_
   refine nb ?_
   refine qe_seq ?_
   refine wc_region ?_
   refine vm u u ?_
   refine wl_val wn u (rv_add u u) ?_
   refine va u u ?_
   refine wl_nil ?_
   obtain rfl:=oi h53
   have hnx:=mkTo_next (step:=(stepGAttr F)) (k:=p1_k) hj0 hx39
   rw [←hk0] at hnx
   have hro:=hcl0 (poke (poke H18 g0 ((s14.2.toNat*2)+0) (sv r29)) g0 ((s14.2.toNat*2)+1) (.int .i64 (w64 (s14.1+(1:Int))))) (.agg #[sv r29,.int .i64 (w64 (s14.1+(1:Int)))]) _ (show oAttr.own _ [] _ (⟨r29,(w64 (s14.1+(1:Int)))⟩:GAttr) from⟨⟨u,hl35,(w64_rng _)⟩,u⟩) hE2.1 hE2.2
   obtain⟨ye,hye⟩: ∃y,y=stepGAttr F s14.1 x38:=⟨_,u⟩
   rw [←hye] at hnx
   unfold stepGAttr at hye
   rw [hx30] at hye
   simp only [Option.getD_some] at hye
   subst hye
   obtain⟨hn1,hn2,hn3⟩:=hnx
   have hmx:=Nat.le_trans (Nat.le_of_eq mkTo_len.symm) hoR.sl.max
   exact qe_mid' ⟨_,u,K32,(poke (poke H18 g0 ((s14.2.toNat*2)+0) (sv r29)) g0 ((s14.2.toNat*2)+1) (.int .i64 (w64 (s14.1+(1:Int))))),i18+1,u,hS63,(hl19.trans hS34.le),(w64_rng _),(w64_rng _),(by rw [hj0];exact w64_next (Nat.lt_of_lt_of_le hn3 hmx)),hn2,(by rw [←hn1];exact hro),hsM2⟩ ⟨u,u,u,trivial⟩
  ·have h28:=cond_f hb27 h25
   refine wc_exit ?_
   refine qe_then_exit ?_
   refine qe_then_exit ?_
   obtain rfl:=oi h28
   have e64:=hx26 _ u
   subst e64
   refine qe_block_eq ?_
   obtain rfl:=oi h17
   have hge0:p0_a.length≤i18:=by have:=of_decide_eq_false hb27;omega
   obtain⟨he1,he2⟩:=mkTo_end (step:=(stepGAttr F)) (k:=p1_k) hge0
   rw [he1] at hoR
   rw [he2] at hk0
   exact qe_mid' ⟨K18,H18,u,hS21,hl19,hr22,hoR,hk0,hsM⟩ ⟨u,trivial⟩
 ·rintro _ w11 ⟨K9,H9,rfl,hS12,hl10,hr13,hoF,hkF,hsF⟩
  refine qr ?_
  refine vm u u ?_
  refine va u u ?_
  refine nq ?_
  refine wc_ret ?_
  obtain rfl:=oi h8
  exact qe_ret (vs:=[_]) Tryz.results86 ⟨u,trivial⟩ ⟨K9,H9,u,hS12,hr13,hoF,hkF,hsF⟩

theorem ok_laws_markDocS {B:List Nat}{KM:KMap}{q0:List GDoc}{q1:Int}{r:Int}(hS:SH w K Z w K [mkI B KM])(d:SliceAt tGDoc (KM.only B) A a b q0)(x:rng64 q1)(hm:M.laws_markDocS F q0 q1=some r):
  Calls prog 26 #[V3 A a b,V6 q1] w fun e w'=>∃K',e= .returned (V6 r)∧SH w K Z w' K' [mkI B KM]∧rng64 r:=by
 rw [M.laws_markDocS] at hm
 refine ci func26 u ntmps26 (sr (lv (r_0 u) (nsr (lv (r_0 u) (nq ?_)))))
 obtain⟨l,y,C⟩:=ob hm
 refine wc_cutg (IW w K Z K [(1,V6 l)] [mkI B KM] (rng64 l)) ?_ ?_
 ·refine wc_block ?_
  obtain⟨aZ,D,G⟩:=ob y
  refine qw (fun (c:Int×Int)=>IW w K Z K [(0,V3 A a b),(1,V6 c.1),(5,V6 c.2)] [mkI B KM] (rng64 c.1∧rng64 c.2)) D ⟨K,u,hS,kr,x,d_0⟩ ?_
  rintro c _ ba bb H I ⟨J,rfl,m,o,O,bc⟩
  refine wc_seq (sr (mv u (mv u (lv (rv_len underlying43 u d) (lv (rv_lss u u) (nq (wcc H u (fun R f=>?_) (fun R f=>?_))))))))
  ·refine wc_skip (qs (wc_block (sr (mv u (mv u (mv u ?_))))))
   obtain⟨S,T,U⟩:=ob f
   refine li underlying43 tf77 d T fun V W bd X Y=>?_
   obtain⟨aa,ab,ac,ad,ae,af,rfl,be,bf,bg⟩:=X
   have ag:AtK _ V W [V6 S.Id,V3 aa ab ac,V3 ad ae af]:=Y
   refine fa ff77_0 u (mk_store (v:=V6 c.1) wn tf3 u u u m (ag 0 _ u) u fun bh i=>(nr (mv u (lv (rv_add u u) (av u (nr (mv u (mv u ?_))))))))
   obtain⟨ah,ai,aj⟩:=ob U
   refine li underlying43 tf77 d ai fun ak al bi am an=>?_
   obtain⟨ao,ap,aq,ar,au,aw,rfl,bj,ax,bk⟩:=am
   have ay:AtK _ ak al [V6 ah.Id,V3 ao ap aq,V3 ar au aw]:=an
   refine fa ff77_1 u (lv (mk_load tf74 u i (ay 1 _ u)) (mv u ?_))
   obtain⟨bl,az,aA⟩:=ob aj
   refine lk co85 (ok_laws_markFieldS F i.e1 ax (w64_rng _) az) ?_
   rintro bm bn ⟨bo,rfl,q,aB⟩
   have k:=(i.c1 q).t1
   refine av u (nq (wc_region (mv u (mv u ?_))))
   obtain⟨aC,aD,aE⟩:=ob aA
   refine li underlying43 tf77 d aD fun aF aG bp aH aI=>?_
   obtain⟨aJ,aK,aL,aM,aN,aO,rfl,bq,br,aP⟩:=aH
   have aQ:AtK _ aF aG [V6 aC.Id,V3 aJ aK aL,V3 aM aN aO]:=aI
   refine fa ff77_2 u (lv (mk_load tf75 u k (aQ 2 _ u)) (mv u ?_))
   obtain⟨bs,aR,aS⟩:=ob aE
   refine lk co86 (ok_laws_markAttrS F k.e1 aP aB aR) ?_
   rintro bu bv ⟨aT,rfl,s,aU⟩
   have aV:=(k.c1 s).t1
   refine av u (nb (qe_seq (wc_region (mv u (lv (rv_add u u) (av u (wl_nil ?_)))))))
   cases oi aS
   exact qd ⟨_,u,aT,u,aV,((o.trans q.le).trans s.le),aU,(w64_rng _)⟩
  refine wc_exit (qe_then_exit (qe_then_exit ?_))
  cases oi f
  cases I _ u
  refine qe_block_eq ?_
  cases oi G
  exact qd ⟨J,u,m,o,O⟩
 rintro _ bx ⟨K9,rfl,aX,bz,aY⟩
 refine qr (mv u (av u (nq (wc_ret ?_))))
 cases oi C
 exact ey results26 ⟨K9,u,aX,aY⟩

theorem hx_laws_markDocS (F:Nat){w:World}{K:KMap}{a1:Option Addr}{n2 c3:Nat}{B f0:List Nat}{H:KMap}{p0_a:List GDoc}{p1_k r:Int}(hS:SH w K (List.flatMap Item.gs [hp B H]) w K [hp B H])(hB0: ∀b∈f0,b∈B)(hN0:f0.Nodup)(ho0:RowO oDoc H f0 (.slice a1 n2 c3) p0_a)(hr5:rng64 p1_k)(hm:M.laws_markDocS F p0_a p1_k=some r):
  Calls Tryz.prog 26 #[.slice a1 n2 c3,.int .i64 p1_k] w fun e w'=>∃(K' H':KMap),e= .returned (.int .i64 r)∧SH w K (List.flatMap Item.gs [hp B H]) w' K' [hp B H']∧rng64 r∧RowO oDoc H' f0 (.slice a1 n2 c3) (mkRow (stepGDoc F) p1_k p0_a).1∧r=(mkRow (stepGDoc F) p1_k p0_a).2∧∀b,b∉f0→H' b=H b:=by
 rw [M.laws_markDocS] at hm
 refine calls_in Tryz.func26 rfl Tryz.ntmps26 rfl ?_
 refine sr ?_
 refine wl_val wn rfl (rv_assign (v:=.int .i64 0) rfl) ?_
 refine nsr ?_
 refine wl_val wn rfl (rv_assign (v:=.int .i64 0) rfl) ?_
 refine nq ?_
 obtain⟨o6,h7,h8⟩:=ob hm
 refine wc_cutg (fun E' w'=>∃(K9 H9:KMap),E'=[(1,.int .i64 o6)]∧SH w K (List.flatMap Item.gs [hp B H]) w' K9 [hp B H9]∧KLe K K9∧rng64 o6∧RowO oDoc H9 f0 (.slice a1 n2 c3) (mkRow (stepGDoc F) p1_k p0_a).1∧o6=(mkRow (stepGDoc F) p1_k p0_a).2∧∀b,b∉f0→H9 b=H b) ?_ ?_
 ·refine wc_block ?_
  obtain⟨r15,h16,h17⟩:=ob h7
  refine wc_while' (fun (s14:Int×Int) E' w'=>∃(K18 H18:KMap) (i18:Nat),E'=[(0,.slice a1 n2 c3),(1,.int .i64 s14.1),(5,.int .i64 s14.2)]∧SH w K (List.flatMap Item.gs [hp B H]) w' K18 [hp B H18]∧KLe K K18∧rng64 s14.1∧rng64 s14.2∧s14.2=(i18:Int)∧s14.1=mkAt (stepGDoc F) p1_k p0_a i18∧RowO oDoc H18 f0 (.slice a1 n2 c3) (mkTo (stepGDoc F) p1_k p0_a i18)∧∀b,b∉f0→H18 b=H b) h16 ⟨K,H,0,rfl,hS,(KLe.refl _),hr5,d_0,rfl,rfl,ho0,fun _ _=>rfl⟩ ⟨rfl,rfl,rfl,trivial⟩ ?_
  rintro s14 _ w20 r24 h25 hx26 ⟨K18,H18,i18,rfl,hS21,hl19,hr22,hr23,hj0,hk0,hoR,hsM⟩
  have hn0:n2=p0_a.length:=hoR.sl.1.trans mkTo_len
  refine wc_seq ?_
  refine sr ?_
  refine vm rfl rfl ?_
  refine vm rfl rfl ?_
  refine wl_val wn rfl (rv_lenRow Tryz.underlying43 rfl hn0) ?_
  refine wl_val wn rfl (rv_lss rfl rfl) ?_
  refine nq ?_
  refine wc_cond rfl (fun hb27=>?_) (fun hb27=>?_)
  ·have h28:=cond_t hb27 h25
   refine wc_skip ?_
   refine qs ?_
   refine wc_block ?_
   refine sr ?_
   refine vm rfl rfl ?_
   refine vm rfl rfl ?_
   refine vm rfl rfl ?_
   obtain⟨x29,hx30,h31⟩:=ob h28
   obtain⟨g0,fi0,u0,rfl,_,hgf0,hff0,hgn0,hfn0,hu0,hA0,hcl0⟩:=RowO.at hoR hN0 (mkTo_get (step:=(stepGDoc F)) (k:=p1_k) hj0 hx30)
   obtain⟨v1,v2,fj1,fj2,rfl,_,hor1,hor2,rfl⟩:=hu0
   obtain⟨av1,nv1,cv1,rfl⟩:=hor1.val
   obtain⟨av2,nv2,cv2,rfl⟩:=hor2.val
   have hE0:El H18 H18 g0 (s14.2.toNat*3) 3 (fj1++fj2) [.int .i64 x29.Id,.slice av1 nv1 cv1,.slice av2 nv2 cv2]:=El.start hA0
   obtain⟨hnj1,hnj2,hdj⟩:=List.nodup_append.1 hfn0
   refine wl_val wn rfl (rv_indexRow (t:=tGDoc) (xs:=p0_a) Tryz.underlying43 tf77 rfl rfl hn0 hx30) ?_
   refine wl_val wn rfl (rv_fieldAddr ff77_0 rfl) ?_
   refine hp_store (v:=.int .i64 s14.1) wn tf3 (by exact rfl) rfl rfl hS21 (hB0 _ hgf0) (hE0.1 0 _ rfl) ?_
   intro w47 hSq0
   have hS48:SH _ _ _ _ _ [hp B (poke H18 g0 ((s14.2.toNat*3)+0) (.int .i64 s14.1))]:=hSq0
   have hE1:El H18 (poke H18 g0 ((s14.2.toNat*3)+0) (.int .i64 s14.1)) g0 (s14.2.toNat*3) 3 (fj1++fj2) [.int .i64 s14.1,.slice av1 nv1 cv1,.slice av2 nv2 cv2]:=El.poke hE0 (by decide)
   have hor1_1:=RowO.poke (p:=(s14.2.toNat*3)+0) (u:=.int .i64 s14.1) hor1 (fun h=>hgn0 (List.mem_append_left _ h))
   have hor2_1:=RowO.poke (p:=(s14.2.toNat*3)+0) (u:=.int .i64 s14.1) hor2 (fun h=>hgn0 (List.mem_append_right _ h))
   have hsM1:=off_poke (p:=(s14.2.toNat*3)+0) (v:=.int .i64 s14.1) hsM hgf0
   refine nr ?_
   refine vm rfl rfl ?_
   refine wl_val wn rfl (rv_add rfl rfl) ?_
   refine va rfl rfl ?_
   refine nr ?_
   refine vm rfl rfl ?_
   refine vm rfl rfl ?_
   obtain⟨x49,hx50,h51⟩:=ob h31
   have hxe49:x29=x49:=oi (hx30.symm.trans hx50)
   subst hxe49
   refine wl_val wn rfl (rv_indexRow (t:=tGDoc) (xs:=p0_a) Tryz.underlying43 tf77 rfl rfl hn0 hx50) ?_
   refine wl_val wn rfl (rv_fieldAddr ff77_1 rfl) ?_
   refine wl_val wn rfl (hp_load tf74 (by exact rfl) hS48 (hB0 _ hgf0) (hE1.1 1 _ rfl)) ?_
   refine vm rfl rfl ?_
   obtain⟨r67,hx68,h69⟩:=ob h51
   refine wl_call wn rfl (rt_call (vs:=[.slice av1 nv1 cv1,.int .i64 (w64 (s14.1+(1:Int)))]) co85 rfl) ((hx_laws_markFieldS F) (SH.enter (Lin:=[_]) hS48) (fun b hb=>hB0 b (hff0 b (List.mem_append_left _ hb))) hnj1 hor1_1 (w64_rng _) hx68) ?_
   rintro e74 w71 ⟨K70,H70,rfl,hS72,hr73,hor1_2,hke1,hsm1⟩
   have hE2:El H18 H70 g0 (s14.2.toNat*3) 3 (fj1++fj2) [.int .i64 s14.1,.slice av1 nv1 cv1,.slice av2 nv2 cv2]:=El.sub hE1 (fun h=>hgn0 (List.mem_append_left _ h)) (fun _ h=>List.mem_append_left _ h) hsm1
   have hor2_2:=RowO.sub hor2_1 hsm1 (fun b hb hb'=>hdj b hb' b hb rfl)
   have hsM2:=off_sub hsM1 hsm1 (fun b hb=>hff0 b ((fun _ h=>List.mem_append_left _ h) b hb))
   refine⟨_,rfl,?_⟩
   have hS75:SH _ _ _ _ _ [_]:=SH.call (Lin:=[_]) hS48 hS72
   refine va rfl rfl ?_
   refine nq ?_
   refine wc_region ?_
   refine vm rfl rfl ?_
   refine vm rfl rfl ?_
   obtain⟨x76,hx77,h78⟩:=ob h69
   have hxe76:x29=x76:=oi (hx30.symm.trans hx77)
   subst hxe76
   refine wl_val wn rfl (rv_indexRow (t:=tGDoc) (xs:=p0_a) Tryz.underlying43 tf77 rfl rfl hn0 hx77) ?_
   refine wl_val wn rfl (rv_fieldAddr ff77_2 rfl) ?_
   refine wl_val wn rfl (hp_load tf75 (by exact rfl) hS75 (hB0 _ hgf0) (hE2.1 2 _ rfl)) ?_
   refine vm rfl rfl ?_
   obtain⟨r94,hx95,h96⟩:=ob h78
   refine wl_call wn rfl (rt_call (vs:=[.slice av2 nv2 cv2,.int .i64 r67]) co86 rfl) ((hx_laws_markAttrS F) (SH.enter (Lin:=[_]) hS75) (fun b hb=>hB0 b (hff0 b (List.mem_append_right _ hb))) hnj2 hor2_2 hr73 hx95) ?_
   rintro e101 w98 ⟨K97,H97,rfl,hS99,hr100,hor2_3,hke2,hsm2⟩
   have hE3:El H18 H97 g0 (s14.2.toNat*3) 3 (fj1++fj2) [.int .i64 s14.1,.slice av1 nv1 cv1,.slice av2 nv2 cv2]:=El.sub hE2 (fun h=>hgn0 (List.mem_append_right _ h)) (fun _ h=>List.mem_append_right _ h) hsm2
   have hor1_3:=RowO.sub hor1_2 hsm2 (fun b hb hb'=>hdj b hb b hb' rfl)
   have hsM3:=off_sub hsM2 hsm2 (fun b hb=>hff0 b ((fun _ h=>List.mem_append_right _ h) b hb))
   refine⟨_,rfl,?_⟩
   have hS102:SH _ _ _ _ _ [_]:=SH.call (Lin:=[_]) hS75 hS99
   refine va rfl rfl ?_
   refine nb ?_
   refine qe_seq ?_
   refine wc_region ?_
   refine vm rfl rfl ?_
   refine wl_val wn rfl (rv_add rfl rfl) ?_
   refine va rfl rfl ?_
   refine wl_nil ?_
   obtain rfl:=oi h96
   have hnx:=mkTo_next (step:=(stepGDoc F)) (k:=p1_k) hj0 hx30
   rw [←hk0] at hnx
   have hro:=hcl0 H97 (.agg #[.int .i64 s14.1,.slice av1 nv1 cv1,.slice av2 nv2 cv2]) _ (show oDoc.own _ (fj1++fj2) _ (⟨s14.1,_,_⟩:GDoc) from⟨_,_,fj1,fj2,rfl,hr22,hor1_3,hor2_3,rfl⟩) hE3.1 hE3.2
   obtain⟨ye,hye⟩: ∃y,y=stepGDoc F s14.1 x29:=⟨_,rfl⟩
   rw [←hye] at hnx
   unfold stepGDoc at hye
   rw [←hke1,←hke2] at hye
   subst hye
   obtain⟨hn1,hn2,hn3⟩:=hnx
   have hmx:=Nat.le_trans (Nat.le_of_eq mkTo_len.symm) hoR.sl.max
   exact qe_mid' ⟨_,rfl,K97,H97,i18+1,rfl,hS102,((hl19.trans hS72.le).trans hS99.le),hr100,(w64_rng _),(by rw [hj0];exact w64_next (Nat.lt_of_lt_of_le hn3 hmx)),hn2,(by rw [←hn1];exact hro),hsM3⟩ ⟨rfl,rfl,rfl,trivial⟩
  ·have h28:=cond_f hb27 h25
   refine wc_exit ?_
   refine qe_then_exit ?_
   refine qe_then_exit ?_
   obtain rfl:=oi h28
   have e103:=hx26 _ rfl
   subst e103
   refine qe_block_eq ?_
   obtain rfl:=oi h17
   have hge0:p0_a.length≤i18:=by have:=of_decide_eq_false hb27;omega
   obtain⟨he1,he2⟩:=mkTo_end (step:=(stepGDoc F)) (k:=p1_k) hge0
   rw [he1] at hoR
   rw [he2] at hk0
   exact qe_mid' ⟨K18,H18,rfl,hS21,hl19,hr22,hoR,hk0,hsM⟩ ⟨rfl,trivial⟩
 ·rintro _ w11 ⟨K9,H9,rfl,hS12,hl10,hr13,hoF,hkF,hsF⟩
  refine qr ?_
  refine vm rfl rfl ?_
  refine va rfl rfl ?_
  refine nq ?_
  refine wc_ret ?_
  obtain rfl:=oi h8
  exact qe_ret (vs:=[_]) Tryz.results26 ⟨rfl,trivial⟩ ⟨K9,H9,rfl,hS12,hr13,hoF,hkF,hsF⟩

theorem hx_laws_markIntS (F:Nat){w:World}{K:KMap}{a1:Option Addr}{n2 c3:Nat}{B f0:List Nat}{H:KMap}{p0_a:List Int}{p1_k r:Int}(hS:SH w K (List.flatMap Item.gs [hp B H]) w K [hp B H])(hB0: ∀b∈f0,b∈B)(hN0:f0.Nodup)(ho0:RowO oInt H f0 (.slice a1 n2 c3) p0_a)(hr5:rng64 p1_k)(hm:M.laws_markIntS F p0_a p1_k=some r):
  Calls Tryz.prog 97 #[.slice a1 n2 c3,.int .i64 p1_k] w fun e w'=>∃(K' H':KMap),e= .returned (.int .i64 r)∧SH w K (List.flatMap Item.gs [hp B H]) w' K' [hp B H']∧rng64 r∧RowO oInt H' f0 (.slice a1 n2 c3) (mkRow (stepInt F) p1_k p0_a).1∧r=(mkRow (stepInt F) p1_k p0_a).2∧∀b,b∉f0→H' b=H b:=by
 rw [M.laws_markIntS] at hm
 refine calls_in Tryz.func97 u Tryz.ntmps97 u ?_
 refine sr ?_
 refine wl_val wn u (rv_assign (v:=.int .i64 0) u) ?_
 refine nsr ?_
 refine wl_val wn u (rv_assign (v:=.int .i64 0) u) ?_
 refine nq ?_
 obtain⟨o6,h7,h8⟩:=ob hm
 refine wc_cutg (fun E' w'=>∃(K9 H9:KMap),E'=[(1,.int .i64 o6)]∧SH w K (List.flatMap Item.gs [hp B H]) w' K9 [hp B H9]∧KLe K K9∧rng64 o6∧RowO oInt H9 f0 (.slice a1 n2 c3) (mkRow (stepInt F) p1_k p0_a).1∧o6=(mkRow (stepInt F) p1_k p0_a).2∧∀b,b∉f0→H9 b=H b) ?_ ?_
 ·refine wc_block ?_
  obtain⟨r15,h16,h17⟩:=ob h7
  refine wc_while' (fun (s14:Int×Int) E' w'=>∃(K18 H18:KMap) (i18:Nat),E'=[(0,.slice a1 n2 c3),(1,.int .i64 s14.1),(5,.int .i64 s14.2)]∧SH w K (List.flatMap Item.gs [hp B H]) w' K18 [hp B H18]∧KLe K K18∧rng64 s14.1∧rng64 s14.2∧s14.2=(i18:Int)∧s14.1=mkAt (stepInt F) p1_k p0_a i18∧RowO oInt H18 f0 (.slice a1 n2 c3) (mkTo (stepInt F) p1_k p0_a i18)∧∀b,b∉f0→H18 b=H b) h16 ⟨K,H,0,u,hS,(KLe.refl _),hr5,d_0,u,u,ho0,fun _ _=>rfl⟩ ⟨u,u,u,trivial⟩ ?_
  rintro s14 _ w20 r24 h25 hx26 ⟨K18,H18,i18,rfl,hS21,hl19,hr22,hr23,hj0,hk0,hoR,hsM⟩
  have hn0:n2=p0_a.length:=hoR.sl.1.trans mkTo_len
  refine wc_seq ?_
  refine sr ?_
  refine vm u u ?_
  refine vm u u ?_
  refine wl_val wn u (rv_lenRow Tryz.underlying71 u hn0) ?_
  refine wl_val wn u (rv_lss u u) ?_
  refine nq ?_
  refine wc_cond u (fun hb27=>?_) (fun hb27=>?_)
  ·have h28:=cond_t hb27 h25
   refine wc_skip ?_
   refine qs ?_
   refine wc_block ?_
   refine sr ?_
   refine vm u u ?_
   refine vm u u ?_
   refine vm u u ?_
   obtain⟨x29,hx30,h31⟩:=ob h28
   obtain⟨g0,fi0,u0,rfl,_,hgf0,hff0,hgn0,hfn0,hu0,hA0,hcl0⟩:=RowO.at hoR hN0 (mkTo_get (step:=(stepInt F)) (k:=p1_k) hj0 hx30)
   obtain⟨hq0,hf0⟩:=hu0
   subst hf0
   obtain⟨rfl,_⟩:=hq0
   have hE0:El H18 H18 g0 (s14.2.toNat*1) 1 [] [.int .i64 x29]:=El.start hA0
   refine wl_val wn u (rv_indexRow (t:=tInt) (xs:=p0_a) Tryz.underlying71 tf3 u u hn0 hx30) ?_
   refine hp_store (v:=.int .i64 s14.1) wn tf3 (by exact rfl) u u hS21 (hB0 _ hgf0) (hE0.1 0 _ u) ?_
   intro w39 hSq0
   have hS40:SH _ _ _ _ _ [hp B (poke H18 g0 ((s14.2.toNat*1)+0) (.int .i64 s14.1))]:=hSq0
   have hE1:El H18 (poke H18 g0 ((s14.2.toNat*1)+0) (.int .i64 s14.1)) g0 (s14.2.toNat*1) 1 [] [.int .i64 s14.1]:=El.poke hE0 (by decide)
   have hsM1:=off_poke (p:=(s14.2.toNat*1)+0) (v:=.int .i64 s14.1) hsM hgf0
   refine nq ?_
   refine wc_region ?_
   refine vm u u ?_
   refine wl_val wn u (rv_add u u) ?_
   refine va u u ?_
   refine nb ?_
   refine qe_seq ?_
   refine wc_region ?_
   refine vm u u ?_
   refine wl_val wn u (rv_add u u) ?_
   refine va u u ?_
   refine wl_nil ?_
   obtain rfl:=oi h31
   have hnx:=mkTo_next (step:=(stepInt F)) (k:=p1_k) hj0 hx30
   rw [←hk0] at hnx
   have hro:=hcl0 (poke H18 g0 ((s14.2.toNat*1)+0) (.int .i64 s14.1)) (.int .i64 s14.1) _ (show oInt.own _ [] _ (s14.1:Int) from⟨⟨u,hr22⟩,u⟩) hE1.1 hE1.2
   obtain⟨ye,hye⟩: ∃y,y=stepInt F s14.1 x29:=⟨_,u⟩
   rw [←hye] at hnx
   unfold stepInt at hye
   subst hye
   obtain⟨hn1,hn2,hn3⟩:=hnx
   have hmx:=Nat.le_trans (Nat.le_of_eq mkTo_len.symm) hoR.sl.max
   exact qe_mid' ⟨_,u,K18,(poke H18 g0 ((s14.2.toNat*1)+0) (.int .i64 s14.1)),i18+1,u,hS40,hl19,(w64_rng _),(w64_rng _),(by rw [hj0];exact w64_next (Nat.lt_of_lt_of_le hn3 hmx)),hn2,(by rw [←hn1];exact hro),hsM1⟩ ⟨u,u,u,trivial⟩
  ·have h28:=cond_f hb27 h25
   refine wc_exit ?_
   refine qe_then_exit ?_
   refine qe_then_exit ?_
   obtain rfl:=oi h28
   have e41:=hx26 _ u
   subst e41
   refine qe_block_eq ?_
   obtain rfl:=oi h17
   have hge0:p0_a.length≤i18:=by have:=of_decide_eq_false hb27;omega
   obtain⟨he1,he2⟩:=mkTo_end (step:=(stepInt F)) (k:=p1_k) hge0
   rw [he1] at hoR
   rw [he2] at hk0
   exact qe_mid' ⟨K18,H18,u,hS21,hl19,hr22,hoR,hk0,hsM⟩ ⟨u,trivial⟩
 ·rintro _ w11 ⟨K9,H9,rfl,hS12,hl10,hr13,hoF,hkF,hsF⟩
  refine qr ?_
  refine vm u u ?_
  refine va u u ?_
  refine nq ?_
  refine wc_ret ?_
  obtain rfl:=oi h8
  exact qe_ret (vs:=[_]) Tryz.results97 ⟨u,trivial⟩ ⟨K9,H9,u,hS12,hr13,hoF,hkF,hsF⟩

end Go.Proofs.YtpjefkdclnmlfaaGreat
