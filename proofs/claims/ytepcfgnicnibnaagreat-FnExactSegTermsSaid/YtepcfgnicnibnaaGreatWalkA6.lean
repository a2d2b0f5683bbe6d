/-
 Walks of the functions. Printed by gen.py.
-/
import Derived.Test.YtepcfgnicnibnaaGreatWalkA5
set_option linter.unusedVariables false
set_option linter.unusedSectionVars false
set_option maxRecDepth 100000
namespace Go.Proofs.YtepcfgnicnibnaaGreat
set_option maxHeartbeats 4000000
open Go Go.Fk Go.RowKit Tryz
variable (F:Nat){w:World}{K:KMap}{Z:List Nat}{g1 g2 g3:Nat}{A B C D G H I J O R S T:Option Addr}{a b c d f i k l m n o p q s v x y aa ab ac ad ae af ag:Nat}
variable [dr:Dr]

theorem ok_laws_eqSyn {q0:GSyn}{q1:GSyn}{r:Bool}(hS:SH w K [] w K [])(o:SliceAt tStr K A a b q0.From)(R:q0.To.length≤maxLen)(q:SliceAt tStr K B c d q1.From)(S:q1.To.length≤maxLen)(hm:M.laws_eqSyn F q0 q1=some r):
  Calls prog 80 #[.agg #[V3 A a b,sv q0.To],.agg #[V3 B c d,sv q1.To]] w (R_b w K r):=by
 rw [M.laws_eqSyn] at hm
 refine ci func80 u ntmps80 (sr (bx u hS fun s T x=>?_))
 have y:SH _ _ _ _ _ [obj s [V3 A a b,sv q0.To] 102]:=x
 refine bx u y fun C U D=>?_
 have i:SH _ _ _ _ _ [obj C [V3 B c d,sv q1.To] 102,_]:=D
 refine lv (r_f u) (nsr (fl ff102_0 u tf22 m1 i u (fl ff102_0 u tf22 m0 i u ?_)))
 obtain⟨V,G,H⟩:=ob hm
 refine lk co16 (ok_laws_eqStringS F i.enter0 o q G) ?_
 rintro W X ⟨k,rfl,I⟩
 have f:=(i.c0 I).t2
 refine lv (rv_not u) (nq (wcc H u (fun J l=>?_) (fun J l=>?_)))
 ·refine sr (lv (r_f u) (nq (rr ?_)))
  cases oi l
  exact ey results80 ⟨k,u,f.s⟩
 refine wc_skip (qs (sr (fl ff102_1 u tf9 m1 f u (fl ff102_1 u tf9 m0 f u (lv (rv_sneq u u) (nq (wcc l u (fun O m=>?_) (fun O m=>?_))))))))
 ·refine sr (lv (r_f u) (nq (rr ?_)))
  cases oi m
  exact ey results80 ⟨k,u,f.s⟩
 refine wc_skip (qr (lv (r_t u) (nq (wc_ret ?_))))
 cases oi m
 exact ey results80 ⟨k,u,f.s⟩

theorem ok_laws_eqSynS {q0:List GSyn}{q1:List GSyn}{r:Bool}(hS:SH w K [] w K [])(k:SliceAt tGSyn K A a b q0)(x:SliceAt tGSyn K B c d q1)(hm:M.laws_eqSynS F q0 q1=some r):
  Calls prog 42 #[V3 A a b,V3 B c d] w (R_b w K r):=by
 rw [M.laws_eqSynS] at hm
 refine ci func42 u ntmps42 (sr (lv (r_f u) (nsr (mv u (lv (rv_len underlying31 u k) (mv u (lv (rv_len underlying31 u x) (lv (rv_neq u u) (nq ?_)))))))))
 refine wc_cond u (fun l=>?_) (fun l=>?_)
 ·have m:=cond_t l hm
  refine sr (lv (r_f u) (nq (rr ?_)))
  cases oi m
  exact ey results42 ⟨K,u,hS⟩
 have m:=cond_f l hm
 refine wc_skip (qs (sr (lv (r_0 u) (nq ?_))))
 obtain⟨J,O,i⟩:=ob m
 refine wc_cutg (IE J w K [] K [] []) ?_ ?_
 ·refine wc_block ?_
  obtain⟨aG,R,y⟩:=ob O
  refine qw (fun (o:Int)=>IW w K [] K [(0,V3 A a b),(1,V3 B c d),(5,V6 o)] [] (rng64 o)) R ⟨K,u,hS,kr,d_0⟩ ?_
  rintro o _ aH aI S C ⟨T,rfl,D,f,aJ⟩
  refine wc_seq (sr (mv u (mv u (lv (rv_len underlying31 u (k.mono f)) (lv (rv_lss u u) (nq (wcc S u (fun U q=>?_) (fun U q=>?_))))))))
  ·refine wc_skip (qs (wc_block (wc_seq (wc_quiet mixed (by kernel_rfl) D (km u (km u ?_))))))
   obtain⟨V,W,X⟩:=ob q
   refine ki underlying31 tf102 (k.mono f) W fun Y aa aK ab ac=>?_
   obtain⟨ad,ae,af,rfl,ag,ah⟩:=ab
   have ai:AtK _ Y aa [V3 ad ae af,sv V.To]:=ac
   refine kh (rq_loadS tf102 u ai u) (km u (km u ?_))
   obtain⟨aj,ak,al⟩:=ob X
   refine ki underlying31 tf102 (x.mono f) ak fun am an aL ao ap=>?_
   obtain⟨aq,ar,au,rfl,aw,ax⟩:=ao
   have ay:AtK _ am an [V3 aq ar au,sv aj.To]:=ap
   refine kh (rq_loadS tf102 u ay u) ?_
   obtain⟨aM,az,aA⟩:=ob al
   refine kc co80 (fun _ _ aB G=>(ok_laws_eqSyn F) aB.enter0 (ag.mono G) ah (aw.mono G) ax az) (kv (rv_not u) (wq_nil ?_))
   rintro aN ⟨H,I,aC⟩
   refine qe_seq (wcc aA u (fun aD s=>?_) (fun aD s=>?_))
   ·refine sr (lv (r_f u) (nq (wc_ret (qe_block_ret (qe_then_ret (qe_then_ret ?_))))))
    cases oi s
    cases C _ u
    refine qe_block_ret (qe_then_ret ?_)
    cases oi y
    refine qe_then_ret ?_
    cases oi i
    exact ey results42 ⟨H,u,I⟩
   refine wc_skip (qe_block (qe_seq (wc_region (mv u (lv (rv_add u u) (av u (wl_nil ?_)))))))
   cases oi s
   exact qd ⟨_,u,H,u,I,(f.trans aC),(w64_rng _)⟩
  refine wc_exit (qe_then_exit (qe_then_exit ?_))
  cases oi q
  cases C _ u
  refine qe_block_eq ?_
  cases oi y
  exact qe_mid' ⟨_,T,u,u,D,f⟩ trivial
 rintro _ aO ⟨aP,aE,rfl,rfl,aF,aQ⟩
 have i:=elim_l i
 refine qr (lv (r_t u) (nq (wc_ret ?_)))
 cases oi i
 exact ey results42 ⟨aE,u,aF⟩

theorem ok_laws_eqConf {q0:GConf}{q1:GConf}{r:Bool}(hS:SH w K [] w K [])(H:SliceAt tStr K A a b q0.Stops)(I:SliceAt tGSyn K B c d q0.Syns)(J:SliceAt tStr K C f i q1.Stops)(O:SliceAt tGSyn K D k l q1.Syns)(hm:M.laws_eqConf F q0 q1=some r):
  Calls prog 17 #[.agg #[V3 A a b,V3 B c d],.agg #[V3 C f i,V3 D k l]] w (R_b w K r):=by
 rw [M.laws_eqConf] at hm
 refine ci func17 u ntmps17 (sr (bx u hS fun R af S=>?_))
 have T:SH _ _ _ _ _ [obj R [V3 A a b,V3 B c d] 33]:=S
 refine bx u T fun U ag V=>?_
 have o:SH _ _ _ _ _ [obj U [V3 C f i,V3 D k l] 33,_]:=V
 refine lv (r_f u) (nsr (fl ff33_0 u tf22 m1 o u (fl ff33_0 u tf22 m0 o u ?_)))
 obtain⟨ah,W,X⟩:=ob hm
 refine lk co16 (ok_laws_eqStringS F o.enter0 H J W) ?_
 rintro ai aj ⟨Y,rfl,q⟩
 have m:=(o.c0 q).t2
 refine lv (rv_not u) (nq (wcc X u (fun aa s=>?_) (fun aa s=>?_)))
 ·refine sr (lv (r_f u) (nq (rr ?_)))
  cases oi s
  exact ey results17 ⟨Y,u,m.s⟩
 refine wc_skip (qs (sr (fl ff33_1 u tf31 m1 m u (fl ff33_1 u tf31 m0 m u ?_))))
 obtain⟨ak,ab,ac⟩:=ob s
 refine lk co42 (ok_laws_eqSynS F m.enter0 (I.mono q.le) (O.mono q.le) ab) ?_
 rintro al am ⟨y,rfl,ad⟩
 have G:=(m.c0 ad).t2
 refine lv (rv_not u) (nq (wcc ac u (fun ae x=>?_) (fun ae x=>?_)))
 ·refine sr (lv (r_f u) (nq (rr ?_)))
  cases oi x
  exact ey results17 ⟨y,u,G.s⟩
 refine wc_skip (qr (lv (r_t u) (nq (wc_ret ?_))))
 cases oi x
 exact ey results17 ⟨y,u,G.s⟩

theorem ok_laws_eqField {q0:GField}{q1:GField}{r:Bool}(hS:SH w K [] w K [])(q:q0.Name.length≤maxLen)(s:q0.Text.length≤maxLen)(x:q1.Name.length≤maxLen)(y:q1.Text.length≤maxLen)(hm:M.laws_eqField F q0 q1=some r):
  Calls prog 162 #[.agg #[sv q0.Name,sv q0.Text],.agg #[sv q1.Name,sv q1.Text]] w (R_b w K r):=by
 rw [M.laws_eqField] at hm
 refine ci func162 u ntmps162 (sr (bx u hS fun f A i=>?_))
 have k:SH _ _ _ _ _ [obj f [sv q0.Name,sv q0.Text] 148]:=i
 refine bx u k fun l B m=>?_
 have a:SH _ _ _ _ _ [obj l [sv q1.Name,sv q1.Text] 148,_]:=m
 refine lv (r_f u) (nsr (fl ff148_0 u tf9 m1 a u (fl ff148_0 u tf9 m0 a u (lv (rv_sneq u u) (nq (wc_cond u (fun b=>?_) (fun b=>?_)))))))
 ·have c:=cond_t b hm
  refine sr (lv (r_f u) (nq (rr ?_)))
  cases oi c
  exact ey results162 ⟨K,u,a.s⟩
 have c:=cond_f b hm
 refine wc_skip (qs (sr (fl ff148_1 u tf9 m1 a u (fl ff148_1 u tf9 m0 a u (lv (rv_sneq u u) (nq (wcc c u (fun o d=>?_) (fun o d=>?_))))))))
 ·refine sr (lv (r_f u) (nq (rr ?_)))
  cases oi d
  exact ey results162 ⟨K,u,a.s⟩
 refine wc_skip (qr (lv (r_t u) (nq (wc_ret ?_))))
 cases oi d
 exact ey results162 ⟨K,u,a.s⟩

theorem ok_laws_eqFieldS {q0:List GField}{q1:List GField}{r:Bool}(hS:SH w K [] w K [])(k:SliceAt tGField K A a b q0)(x:SliceAt tGField K B c d q1)(hm:M.laws_eqFieldS F q0 q1=some r):
  Calls prog 124 #[V3 A a b,V3 B c d] w (R_b w K r):=by
 rw [M.laws_eqFieldS] at hm
 refine ci func124 u ntmps124 (sr (lv (r_f u) (nsr (mv u (lv (rv_len underlying93 u k) (mv u (lv (rv_len underlying93 u x) (lv (rv_neq u u) (nq ?_)))))))))
 refine wc_cond u (fun l=>?_) (fun l=>?_)
 ·have m:=cond_t l hm
  refine sr (lv (r_f u) (nq (rr ?_)))
  cases oi m
  exact ey results124 ⟨K,u,hS⟩
 have m:=cond_f l hm
 refine wc_skip (qs (sr (lv (r_0 u) (nq ?_))))
 obtain⟨O,R,i⟩:=ob m
 refine wc_cutg (IE O w K [] K [] []) ?_ ?_
 ·refine wc_block ?_
  obtain⟨az,S,y⟩:=ob R
  refine qw (fun (o:Int)=>IW w K [] K [(0,V3 A a b),(1,V3 B c d),(5,V6 o)] [] (rng64 o)) S ⟨K,u,hS,kr,d_0⟩ ?_
  rintro o _ aA aB T C ⟨U,rfl,D,f,aC⟩
  refine wc_seq (sr (mv u (mv u (lv (rv_len underlying93 u (k.mono f)) (lv (rv_lss u u) (nq (wcc T u (fun V q=>?_) (fun V q=>?_))))))))
  ·refine wc_skip (qs (wc_block (wc_seq (wc_quiet mixed (by kernel_rfl) D (km u (km u ?_))))))
   obtain⟨G,W,X⟩:=ob q
   refine ki underlying93 tf148 (k.mono f) W fun Y aa aD ab ac=>?_
   obtain⟨rfl,ad,ae⟩:=ab
   have af:AtK _ Y aa [sv G.Name,sv G.Text]:=ac
   refine kh (rq_loadS tf148 u af u) (km u (km u ?_))
   obtain⟨H,ag,ah⟩:=ob X
   refine ki underlying93 tf148 (x.mono f) ag fun ai aj aE ak al=>?_
   obtain⟨rfl,am,an⟩:=ak
   have ao:AtK _ ai aj [sv H.Name,sv H.Text]:=al
   refine kh (rq_loadS tf148 u ao u) ?_
   obtain⟨aF,ap,aq⟩:=ob ah
   refine kc co162 (fun _ _ ar aG=>(ok_laws_eqField F) ar.enter0 ad ae am an ap) (kv (rv_not u) (wq_nil ?_))
   rintro aH ⟨I,J,au⟩
   refine qe_seq (wcc aq u (fun aw s=>?_) (fun aw s=>?_))
   ·refine sr (lv (r_f u) (nq (wc_ret (qe_block_ret (qe_then_ret (qe_then_ret ?_))))))
    cases oi s
    cases C _ u
    refine qe_block_ret (qe_then_ret ?_)
    cases oi y
    refine qe_then_ret ?_
    cases oi i
    exact ey results124 ⟨I,u,J⟩
   refine wc_skip (qe_block (qe_seq (wc_region (mv u (lv (rv_add u u) (av u (wl_nil ?_)))))))
   cases oi s
   exact qd ⟨_,u,I,u,J,(f.trans au),(w64_rng _)⟩
  refine wc_exit (qe_then_exit (qe_then_exit ?_))
  cases oi q
  cases C _ u
  refine qe_block_eq ?_
  cases oi y
  exact qe_mid' ⟨_,U,u,u,D,f⟩ trivial
 rintro _ aI ⟨aJ,ax,rfl,rfl,ay,aK⟩
 have i:=elim_l i
 refine qr (lv (r_t u) (nq (wc_ret ?_)))
 cases oi i
 exact ey results124 ⟨ax,u,ay⟩

theorem ok_laws_eqAttr {q0:GAttr}{q1:GAttr}{r:Bool}(hS:SH w K [] w K [])(q:q0.Name.length≤maxLen)(s:rng64 q0.Num)(x:q1.Name.length≤maxLen)(y:rng64 q1.Num)(hm:M.laws_eqAttr F q0 q1=some r):
  Calls prog 163 #[.agg #[sv q0.Name,V6 q0.Num],.agg #[sv q1.Name,V6 q1.Num]] w (R_b w K r):=by
 rw [M.laws_eqAttr] at hm
 refine ci func163 u ntmps163 (sr (bx u hS fun f A i=>?_))
 have k:SH _ _ _ _ _ [obj f [sv q0.Name,V6 q0.Num] 150]:=i
 refine bx u k fun l B m=>?_
 have a:SH _ _ _ _ _ [obj l [sv q1.Name,V6 q1.Num] 150,_]:=m
 refine lv (r_f u) (nsr (fl ff150_0 u tf9 m1 a u (fl ff150_0 u tf9 m0 a u (lv (rv_sneq u u) (nq (wc_cond u (fun b=>?_) (fun b=>?_)))))))
 ·have c:=cond_t b hm
  refine sr (lv (r_f u) (nq (rr ?_)))
  cases oi c
  exact ey results163 ⟨K,u,a.s⟩
 have c:=cond_f b hm
 refine wc_skip (qs (sr (fl ff150_1 u tf3 m1 a u (fl ff150_1 u tf3 m0 a u (lv (rv_neq u u) (nq (wcc c u (fun o d=>?_) (fun o d=>?_))))))))
 ·refine sr (lv (r_f u) (nq (rr ?_)))
  cases oi d
  exact ey results163 ⟨K,u,a.s⟩
 refine wc_skip (qr (lv (r_t u) (nq (wc_ret ?_))))
 cases oi d
 exact ey results163 ⟨K,u,a.s⟩

theorem ok_laws_eqAttrS {q0:List GAttr}{q1:List GAttr}{r:Bool}(hS:SH w K [] w K [])(k:SliceAt tGAttr K A a b q0)(x:SliceAt tGAttr K B c d q1)(hm:M.laws_eqAttrS F q0 q1=some r):
  Calls prog 125 #[V3 A a b,V3 B c d] w (R_b w K r):=by
 rw [M.laws_eqAttrS] at hm
 refine ci func125 u ntmps125 (sr (lv (r_f u) (nsr (mv u (lv (rv_len underlying94 u k) (mv u (lv (rv_len underlying94 u x) (lv (rv_neq u u) (nq ?_)))))))))
 refine wc_cond u (fun l=>?_) (fun l=>?_)
 ·have m:=cond_t l hm
  refine sr (lv (r_f u) (nq (rr ?_)))
  cases oi m
  exact ey results125 ⟨K,u,hS⟩
 have m:=cond_f l hm
 refine wc_skip (qs (sr (lv (r_0 u) (nq ?_))))
 obtain⟨O,R,i⟩:=ob m
 refine wc_cutg (IE O w K [] K [] []) ?_ ?_
 ·refine wc_block ?_
  obtain⟨az,S,y⟩:=ob R
  refine qw (fun (o:Int)=>IW w K [] K [(0,V3 A a b),(1,V3 B c d),(5,V6 o)] [] (rng64 o)) S ⟨K,u,hS,kr,d_0⟩ ?_
  rintro o _ aA aB T C ⟨U,rfl,D,f,aC⟩
  refine wc_seq (sr (mv u (mv u (lv (rv_len underlying94 u (k.mono f)) (lv (rv_lss u u) (nq (wcc T u (fun V q=>?_) (fun V q=>?_))))))))
  ·refine wc_skip (qs (wc_block (wc_seq (wc_quiet mixed (by kernel_rfl) D (km u (km u ?_))))))
   obtain⟨G,W,X⟩:=ob q
   refine ki underlying94 tf150 (k.mono f) W fun Y aa aD ab ac=>?_
   obtain⟨rfl,ad,ae⟩:=ab
   have af:AtK _ Y aa [sv G.Name,V6 G.Num]:=ac
   refine kh (rq_loadS tf150 u af u) (km u (km u ?_))
   obtain⟨H,ag,ah⟩:=ob X
   refine ki underlying94 tf150 (x.mono f) ag fun ai aj aE ak al=>?_
   obtain⟨rfl,am,an⟩:=ak
   have ao:AtK _ ai aj [sv H.Name,V6 H.Num]:=al
   refine kh (rq_loadS tf150 u ao u) ?_
   obtain⟨aF,ap,aq⟩:=ob ah
   refine kc co163 (fun _ _ ar aG=>(ok_laws_eqAttr F) ar.enter0 ad ae am an ap) (kv (rv_not u) (wq_nil ?_))
   rintro aH ⟨I,J,au⟩
   refine qe_seq (wcc aq u (fun aw s=>?_) (fun aw s=>?_))
   ·refine sr (lv (r_f u) (nq (wc_ret (qe_block_ret (qe_then_ret (qe_then_ret ?_))))))
    cases oi s
    cases C _ u
    refine qe_block_ret (qe_then_ret ?_)
    cases oi y
    refine qe_then_ret ?_
    cases oi i
    exact ey results125 ⟨I,u,J⟩
   refine wc_skip (qe_block (qe_seq (wc_region (mv u (lv (rv_add u u) (av u (wl_nil ?_)))))))
   cases oi s
   exact qd ⟨_,u,I,u,J,(f.trans au),(w64_rng _)⟩
  refine wc_exit (qe_then_exit (qe_then_exit ?_))
  cases oi q
  cases C _ u
  refine qe_block_eq ?_
  cases oi y
  exact qe_mid' ⟨_,U,u,u,D,f⟩ trivial
 rintro _ aI ⟨aJ,ax,rfl,rfl,ay,aK⟩
 have i:=elim_l i
 refine qr (lv (r_t u) (nq (wc_ret ?_)))
 cases oi i
 exact ey results125 ⟨ax,u,ay⟩

theorem ok_laws_eqDoc {q0:GDoc}{q1:GDoc}{r:Bool}(hS:SH w K [] w K [])(ah:rng64 q0.Id)(J:SliceAt tGField K A a b q0.Fields)(O:SliceAt tGAttr K B c d q0.Nums)(ai:rng64 q1.Id)(R:SliceAt tGField K C f i q1.Fields)(S:SliceAt tGAttr K D k l q1.Nums)(hm:M.laws_eqDoc F q0 q1=some r):
  Calls prog 81 #[.agg #[V6 q0.Id,V3 A a b,V3 B c d],.agg #[V6 q1.Id,V3 C f i,V3 D k l]] w (R_b w K r):=by
 rw [M.laws_eqDoc] at hm
 refine ci func81 u ntmps81 (sr (bx u hS fun T aj U=>?_))
 have V:SH _ _ _ _ _ [obj T [V6 q0.Id,V3 A a b,V3 B c d] 96]:=U
 refine bx u V fun W ak X=>?_
 have m:SH _ _ _ _ _ [obj W [V6 q1.Id,V3 C f i,V3 D k l] 96,_]:=X
 refine lv (r_f u) (nsr (fl ff96_0 u tf3 m1 m u (fl ff96_0 u tf3 m0 m u (lv (rv_neq u u) (nq (wc_cond u (fun q=>?_) (fun q=>?_)))))))
 ·have s:=cond_t q hm
  refine sr (lv (r_f u) (nq (rr ?_)))
  cases oi s
  exact ey results81 ⟨K,u,m.s⟩
 have s:=cond_f q hm
 refine wc_skip (qs (sr (fl ff96_1 u tf93 m1 m u (fl ff96_1 u tf93 m0 m u ?_))))
 obtain⟨al,Y,aa⟩:=ob s
 refine lk co124 (ok_laws_eqFieldS F m.enter0 J R Y) ?_
 rintro am an ⟨ab,rfl,x⟩
 have o:=(m.c0 x).t2
 refine lv (rv_not u) (nq (wcc aa u (fun ac y=>?_) (fun ac y=>?_)))
 ·refine sr (lv (r_f u) (nq (rr ?_)))
  cases oi y
  exact ey results81 ⟨ab,u,o.s⟩
 refine wc_skip (qs (sr (fl ff96_2 u tf94 m1 o u (fl ff96_2 u tf94 m0 o u ?_))))
 obtain⟨ao,ad,ae⟩:=ob y
 refine lk co125 (ok_laws_eqAttrS F o.enter0 (O.mono x.le) (S.mono x.le) ad) ?_
 rintro ap aq ⟨H,rfl,af⟩
 have I:=(o.c0 af).t2
 refine lv (rv_not u) (nq (wcc ae u (fun ag G=>?_) (fun ag G=>?_)))
 ·refine sr (lv (r_f u) (nq (rr ?_)))
  cases oi G
  exact ey results81 ⟨H,u,I.s⟩
 refine wc_skip (qr (lv (r_t u) (nq (wc_ret ?_))))
 cases oi G
 exact ey results81 ⟨H,u,I.s⟩

theorem ok_laws_eqDocS {q0:List GDoc}{q1:List GDoc}{r:Bool}(hS:SH w K [] w K [])(l:SliceAt tGDoc K A a b q0)(y:SliceAt tGDoc K B c d q1)(hm:M.laws_eqDocS F q0 q1=some r):
  Calls prog 43 #[V3 A a b,V3 B c d] w (R_b w K r):=by
 rw [M.laws_eqDocS] at hm
 refine ci func43 u ntmps43 (sr (lv (r_f u) (nsr (mv u (lv (rv_len underlying48 u l) (mv u (lv (rv_len underlying48 u y) (lv (rv_neq u u) (nq ?_)))))))))
 refine wc_cond u (fun m=>?_) (fun m=>?_)
 ·have o:=cond_t m hm
  refine sr (lv (r_f u) (nq (rr ?_)))
  cases oi o
  exact ey results43 ⟨K,u,hS⟩
 have o:=cond_f m hm
 refine wc_skip (qs (sr (lv (r_0 u) (nq ?_))))
 obtain⟨J,O,i⟩:=ob o
 refine wc_cutg (IE J w K [] K [] []) ?_ ?_
 ·refine wc_block ?_
  obtain⟨aO,R,C⟩:=ob O
  refine qw (fun (q:Int)=>IW w K [] K [(0,V3 A a b),(1,V3 B c d),(5,V6 q)] [] (rng64 q)) R ⟨K,u,hS,kr,d_0⟩ ?_
  rintro q _ aP aQ S D ⟨T,rfl,G,f,aR⟩
  refine wc_seq (sr (mv u (mv u (lv (rv_len underlying48 u (l.mono f)) (lv (rv_lss u u) (nq (wcc S u (fun U s=>?_) (fun U s=>?_))))))))
  ·refine wc_skip (qs (wc_block (wc_seq (wc_quiet mixed (by kernel_rfl) G (km u (km u ?_))))))
   obtain⟨V,W,X⟩:=ob s
   refine ki underlying48 tf96 (l.mono f) W fun Y aa aS ab ac=>?_
   obtain⟨ad,ae,af,ag,ah,ai,rfl,aj,ak,al⟩:=ab
   have am:AtK _ Y aa [V6 V.Id,V3 ad ae af,V3 ag ah ai]:=ac
   refine kh (rq_loadS tf96 u am u) (km u (km u ?_))
   obtain⟨an,ao,ap⟩:=ob X
   refine ki underlying48 tf96 (y.mono f) ao fun aq ar aT au aw=>?_
   obtain⟨ax,ay,az,aA,aB,aC,rfl,aD,aE,aF⟩:=au
   have aG:AtK _ aq ar [V6 an.Id,V3 ax ay az,V3 aA aB aC]:=aw
   refine kh (rq_loadS tf96 u aG u) ?_
   obtain⟨aU,aH,aI⟩:=ob ap
   refine kc co81 (fun _ _ aJ k=>(ok_laws_eqDoc F) aJ.enter0 aj (ak.mono k) (al.mono k) aD (aE.mono k) (aF.mono k) aH) (kv (rv_not u) (wq_nil ?_))
   rintro aV ⟨H,I,aK⟩
   refine qe_seq (wcc aI u (fun aL x=>?_) (fun aL x=>?_))
   ·refine sr (lv (r_f u) (nq (wc_ret (qe_block_ret (qe_then_ret (qe_then_ret ?_))))))
    cases oi x
    cases D _ u
    refine qe_block_ret (qe_then_ret ?_)
    cases oi C
    refine qe_then_ret ?_
    cases oi i
    exact ey results43 ⟨H,u,I⟩
   refine wc_skip (qe_block (qe_seq (wc_region (mv u (lv (rv_add u u) (av u (wl_nil ?_)))))))
   cases oi x
   exact qd ⟨_,u,H,u,I,(f.trans aK),(w64_rng _)⟩
  refine wc_exit (qe_then_exit (qe_then_exit ?_))
  cases oi s
  cases D _ u
  refine qe_block_eq ?_
  cases oi C
  exact qe_mid' ⟨_,T,u,u,G,f⟩ trivial
 rintro _ aW ⟨aX,aM,rfl,rfl,aN,aY⟩
 have i:=elim_l i
 refine qr (lv (r_t u) (nq (wc_ret ?_)))
 cases oi i
 exact ey results43 ⟨aM,u,aN⟩

theorem ok_laws_eqIntS {q0:List Int}{q1:List Int}{r:Bool}(hS:SH w K [] w K [])(k:SliceAt tInt K A a b q0)(x:SliceAt tInt K B c d q1)(hm:M.laws_eqIntS F q0 q1=some r):
  Calls prog 103 #[V3 A a b,V3 B c d] w (R_b w K r):=by
 rw [M.laws_eqIntS] at hm
 refine ci func103 u ntmps103 (sr (lv (r_f u) (nsr (mv u (lv (rv_len underlying63 u k) (mv u (lv (rv_len underlying63 u x) (lv (rv_neq u u) (nq ?_)))))))))
 refine wc_cond u (fun l=>?_) (fun l=>?_)
 ·have m:=cond_t l hm
  refine sr (lv (r_f u) (nq (rr ?_)))
  cases oi m
  exact ey results103 ⟨K,u,hS⟩
 have m:=cond_f l hm
 refine wc_skip (qs (sr (lv (r_0 u) (nq ?_))))
 obtain⟨I,J,i⟩:=ob m
 refine wc_cutg (IE I w K [] K [] []) ?_ ?_
 ·refine wc_block ?_
  obtain⟨ap,O,y⟩:=ob J
  refine qw (fun (o:Int)=>IW w K [] K [(0,V3 A a b),(1,V3 B c d),(5,V6 o)] [] (rng64 o)) O ⟨K,u,hS,kr,d_0⟩ ?_
  rintro o _ aq ar R C ⟨S,rfl,D,f,au⟩
  refine wc_seq (sr (mv u (mv u (lv (rv_len underlying63 u (k.mono f)) (lv (rv_lss u u) (nq (wcc R u (fun T q=>?_) (fun T q=>?_))))))))
  ·refine wc_skip (qs (wc_block (wc_seq (wc_quiet mixed (by kernel_rfl) D (km u (km u ?_))))))
   obtain⟨U,V,W⟩:=ob q
   refine ki underlying63 tf3 (k.mono f) V fun X Y aw aa ab=>?_
   obtain⟨rfl,ax⟩:=aa
   have ac:AtK _ X Y [V6 U]:=ab
   refine kh (rq_load1 tf3 u (ac 0 _ u)) (km u (km u ?_))
   obtain⟨ad,ae,af⟩:=ob W
   refine ki underlying63 tf3 (x.mono f) ae fun ag ah ay ai aj=>?_
   obtain⟨rfl,az⟩:=ai
   have ak:AtK _ ag ah [V6 ad]:=aj
   refine kh (rq_load1 tf3 u (ak 0 _ u)) (kv (rv_neq u u) (wq_nil ?_))
   rintro aA ⟨G,H,al⟩
   refine qe_seq (wcc af u (fun am s=>?_) (fun am s=>?_))
   ·refine sr (lv (r_f u) (nq (wc_ret (qe_block_ret (qe_then_ret (qe_then_ret ?_))))))
    cases oi s
    cases C _ u
    refine qe_block_ret (qe_then_ret ?_)
    cases oi y
    refine qe_then_ret ?_
    cases oi i
    exact ey results103 ⟨G,u,H⟩
   refine wc_skip (qe_block (qe_seq (wc_region (mv u (lv (rv_add u u) (av u (wl_nil ?_)))))))
   cases oi s
   exact qd ⟨_,u,G,u,H,(f.trans al),(w64_rng _)⟩
  refine wc_exit (qe_then_exit (qe_then_exit ?_))
  cases oi q
  cases C _ u
  refine qe_block_eq ?_
  cases oi y
  exact qe_mid' ⟨_,S,u,u,D,f⟩ trivial
 rintro _ aB ⟨aC,an,rfl,rfl,ao,aD⟩
 have i:=elim_l i
 refine qr (lv (r_t u) (nq (wc_ret ?_)))
 cases oi i
 exact ey results103 ⟨an,u,ao⟩

theorem ok_laws_eqPost {q0:GPost}{q1:GPost}{r:Bool}(hS:SH w K [] w K [])(R:rng64 q0.Doc)(q:SliceAt tInt K A a b q0.At)(S:rng64 q1.Doc)(s:SliceAt tInt K B c d q1.At)(hm:M.laws_eqPost F q0 q1=some r):
  Calls prog 164 #[.agg #[V6 q0.Doc,V3 A a b],.agg #[V6 q1.Doc,V3 B c d]] w (R_b w K r):=by
 rw [M.laws_eqPost] at hm
 refine ci func164 u ntmps164 (sr (bx u hS fun x T y=>?_))
 have C:SH _ _ _ _ _ [obj x [V6 q0.Doc,V3 A a b] 164]:=y
 refine bx u C fun D U G=>?_
 have f:SH _ _ _ _ _ [obj D [V6 q1.Doc,V3 B c d] 164,_]:=G
 refine lv (r_f u) (nsr (fl ff164_0 u tf3 m1 f u (fl ff164_0 u tf3 m0 f u (lv (rv_neq u u) (nq (wc_cond u (fun i=>?_) (fun i=>?_)))))))
 ·have k:=cond_t i hm
  refine sr (lv (r_f u) (nq (rr ?_)))
  cases oi k
  exact ey results164 ⟨K,u,f.s⟩
 have k:=cond_f i hm
 refine wc_skip (qs (sr (fl ff164_1 u tf63 m1 f u (fl ff164_1 u tf63 m0 f u ?_))))
 obtain⟨V,H,I⟩:=ob k
 refine lk co103 (ok_laws_eqIntS F f.enter0 q s H) ?_
 rintro W X ⟨m,rfl,J⟩
 have o:=(f.c0 J).t2
 refine lv (rv_not u) (nq (wcc I u (fun O l=>?_) (fun O l=>?_)))
 ·refine sr (lv (r_f u) (nq (rr ?_)))
  cases oi l
  exact ey results164 ⟨m,u,o.s⟩
 refine wc_skip (qr (lv (r_t u) (nq (wc_ret ?_))))
 cases oi l
 exact ey results164 ⟨m,u,o.s⟩

theorem ok_laws_eqPostS {q0:List GPost}{q1:List GPost}{r:Bool}(hS:SH w K [] w K [])(k:SliceAt tGPost K A a b q0)(x:SliceAt tGPost K B c d q1)(hm:M.laws_eqPostS F q0 q1=some r):
  Calls prog 126 #[V3 A a b,V3 B c d] w (R_b w K r):=by
 rw [M.laws_eqPostS] at hm
 refine ci func126 u ntmps126 (sr (lv (r_f u) (nsr (mv u (lv (rv_len underlying74 u k) (mv u (lv (rv_len underlying74 u x) (lv (rv_neq u u) (nq ?_)))))))))
 refine wc_cond u (fun l=>?_) (fun l=>?_)
 ·have m:=cond_t l hm
  refine sr (lv (r_f u) (nq (rr ?_)))
  cases oi m
  exact ey results126 ⟨K,u,hS⟩
 have m:=cond_f l hm
 refine wc_skip (qs (sr (lv (r_0 u) (nq ?_))))
 obtain⟨J,O,i⟩:=ob m
 refine wc_cutg (IE J w K [] K [] []) ?_ ?_
 ·refine wc_block ?_
  obtain⟨aG,R,y⟩:=ob O
  refine qw (fun (o:Int)=>IW w K [] K [(0,V3 A a b),(1,V3 B c d),(5,V6 o)] [] (rng64 o)) R ⟨K,u,hS,kr,d_0⟩ ?_
  rintro o _ aH aI S C ⟨T,rfl,D,f,aJ⟩
  refine wc_seq (sr (mv u (mv u (lv (rv_len underlying74 u (k.mono f)) (lv (rv_lss u u) (nq (wcc S u (fun U q=>?_) (fun U q=>?_))))))))
  ·refine wc_skip (qs (wc_block (wc_seq (wc_quiet mixed (by kernel_rfl) D (km u (km u ?_))))))
   obtain⟨V,W,X⟩:=ob q
   refine ki underlying74 tf164 (k.mono f) W fun Y aa aK ab ac=>?_
   obtain⟨ad,ae,af,rfl,ag,ah⟩:=ab
   have ai:AtK _ Y aa [V6 V.Doc,V3 ad ae af]:=ac
   refine kh (rq_loadS tf164 u ai u) (km u (km u ?_))
   obtain⟨aj,ak,al⟩:=ob X
   refine ki underlying74 tf164 (x.mono f) ak fun am an aL ao ap=>?_
   obtain⟨aq,ar,au,rfl,aw,ax⟩:=ao
   have ay:AtK _ am an [V6 aj.Doc,V3 aq ar au]:=ap
   refine kh (rq_loadS tf164 u ay u) ?_
   obtain⟨aM,az,aA⟩:=ob al
   refine kc co164 (fun _ _ aB G=>(ok_laws_eqPost F) aB.enter0 ag (ah.mono G) aw (ax.mono G) az) (kv (rv_not u) (wq_nil ?_))
   rintro aN ⟨H,I,aC⟩
   refine qe_seq (wcc aA u (fun aD s=>?_) (fun aD s=>?_))
   ·refine sr (lv (r_f u) (nq (wc_ret (qe_block_ret (qe_then_ret (qe_then_ret ?_))))))
    cases oi s
    cases C _ u
    refine qe_block_ret (qe_then_ret ?_)
    cases oi y
    refine qe_then_ret ?_
    cases oi i
    exact ey results126 ⟨H,u,I⟩
   refine wc_skip (qe_block (qe_seq (wc_region (mv u (lv (rv_add u u) (av u (wl_nil ?_)))))))
   cases oi s
   exact qd ⟨_,u,H,u,I,(f.trans aC),(w64_rng _)⟩
  refine wc_exit (qe_then_exit (qe_then_exit ?_))
  cases oi q
  cases C _ u
  refine qe_block_eq ?_
  cases oi y
  exact qe_mid' ⟨_,T,u,u,D,f⟩ trivial
 rintro _ aO ⟨aP,aE,rfl,rfl,aF,aQ⟩
 have i:=elim_l i
 refine qr (lv (r_t u) (nq (wc_ret ?_)))
 cases oi i
 exact ey results126 ⟨aE,u,aF⟩

theorem ok_laws_eqEntry {q0:GEntry}{q1:GEntry}{r:Bool}(hS:SH w K [] w K [])(T:q0.Field.length≤maxLen)(U:q0.Term.length≤maxLen)(s:SliceAt tGPost K A a b q0.Posts)(V:q1.Field.length≤maxLen)(W:q1.Term.length≤maxLen)(x:SliceAt tGPost K B c d q1.Posts)(hm:M.laws_eqEntry F q0 q1=some r):
  Calls prog 82 #[.agg #[sv q0.Field,sv q0.Term,V3 A a b],.agg #[sv q1.Field,sv q1.Term,V3 B c d]] w (R_b w K r):=by
 rw [M.laws_eqEntry] at hm
 refine ci func82 u ntmps82 (sr (bx u hS fun y X C=>?_))
 have D:SH _ _ _ _ _ [obj y [sv q0.Field,sv q0.Term,V3 A a b] 76]:=C
 refine bx u D fun G Y H=>?_
 have f:SH _ _ _ _ _ [obj G [sv q1.Field,sv q1.Term,V3 B c d] 76,_]:=H
 refine lv (r_f u) (nsr (fl ff76_0 u tf9 m1 f u (fl ff76_0 u tf9 m0 f u (lv (rv_sneq u u) (nq (wc_cond u (fun i=>?_) (fun i=>?_)))))))
 ·have k:=cond_t i hm
  refine sr (lv (r_f u) (nq (rr ?_)))
  cases oi k
  exact ey results82 ⟨K,u,f.s⟩
 have k:=cond_f i hm
 refine wc_skip (qs (sr (fl ff76_1 u tf9 m1 f u (fl ff76_1 u tf9 m0 f u (lv (rv_sneq u u) (nq (wcc k u (fun I l=>?_) (fun I l=>?_))))))))
 ·refine sr (lv (r_f u) (nq (rr ?_)))
  cases oi l
  exact ey results82 ⟨K,u,f.s⟩
 refine wc_skip (qs (sr (fl ff76_2 u tf74 m1 f u (fl ff76_2 u tf74 m0 f u ?_))))
 obtain⟨aa,J,O⟩:=ob l
 refine lk co126 (ok_laws_eqPostS F f.enter0 s x J) ?_
 rintro ab ac ⟨o,rfl,R⟩
 have q:=(f.c0 R).t2
 refine lv (rv_not u) (nq (wcc O u (fun S m=>?_) (fun S m=>?_)))
 ·refine sr (lv (r_f u) (nq (rr ?_)))
  cases oi m
  exact ey results82 ⟨o,u,q.s⟩
 refine wc_skip (qr (lv (r_t u) (nq (wc_ret ?_))))
 cases oi m
 exact ey results82 ⟨o,u,q.s⟩

theorem ok_laws_eqEntryS {q0:List GEntry}{q1:List GEntry}{r:Bool}(hS:SH w K [] w K [])(k:SliceAt tGEntry K A a b q0)(x:SliceAt tGEntry K B c d q1)(hm:M.laws_eqEntryS F q0 q1=some r):
  Calls prog 44 #[V3 A a b,V3 B c d] w (R_b w K r):=by
 rw [M.laws_eqEntryS] at hm
 refine ci func44 u ntmps44 (sr (lv (r_f u) (nsr (mv u (lv (rv_len underlying49 u k) (mv u (lv (rv_len underlying49 u x) (lv (rv_neq u u) (nq ?_)))))))))
 refine wc_cond u (fun l=>?_) (fun l=>?_)
 ·have m:=cond_t l hm
  refine sr (lv (r_f u) (nq (rr ?_)))
  cases oi m
  exact ey results44 ⟨K,u,hS⟩
 have m:=cond_f l hm
 refine wc_skip (qs (sr (lv (r_0 u) (nq ?_))))
 obtain⟨R,S,i⟩:=ob m
 refine wc_cutg (IE R w K [] K [] []) ?_ ?_
 ·refine wc_block ?_
  obtain⟨aI,T,y⟩:=ob S
  refine qw (fun (o:Int)=>IW w K [] K [(0,V3 A a b),(1,V3 B c d),(5,V6 o)] [] (rng64 o)) T ⟨K,u,hS,kr,d_0⟩ ?_
  rintro o _ aJ aK U C ⟨V,rfl,D,f,aL⟩
  refine wc_seq (sr (mv u (mv u (lv (rv_len underlying49 u (k.mono f)) (lv (rv_lss u u) (nq (wcc U u (fun W q=>?_) (fun W q=>?_))))))))
  ·refine wc_skip (qs (wc_block (wc_seq (wc_quiet mixed (by kernel_rfl) D (km u (km u ?_))))))
   obtain⟨G,X,Y⟩:=ob q
   refine ki underlying49 tf76 (k.mono f) X fun aa ab aM ac ad=>?_
   obtain⟨ae,af,ag,rfl,ah,ai,aj⟩:=ac
   have ak:AtK _ aa ab [sv G.Field,sv G.Term,V3 ae af ag]:=ad
   refine kh (rq_loadS tf76 u ak u) (km u (km u ?_))
   obtain⟨H,al,am⟩:=ob Y
   refine ki underlying49 tf76 (x.mono f) al fun an ao aN ap aq=>?_
   obtain⟨ar,au,aw,rfl,ax,ay,az⟩:=ap
   have aA:AtK _ an ao [sv H.Field,sv H.Term,V3 ar au aw]:=aq
   refine kh (rq_loadS tf76 u aA u) ?_
   obtain⟨aO,aB,aC⟩:=ob am
   refine kc co82 (fun _ _ aD I=>(ok_laws_eqEntry F) aD.enter0 ah ai (aj.mono I) ax ay (az.mono I) aB) (kv (rv_not u) (wq_nil ?_))
   rintro aP ⟨J,O,aE⟩
   refine qe_seq (wcc aC u (fun aF s=>?_) (fun aF s=>?_))
   ·refine sr (lv (r_f u) (nq (wc_ret (qe_block_ret (qe_then_ret (qe_then_ret ?_))))))
    cases oi s
    cases C _ u
    refine qe_block_ret (qe_then_ret ?_)
    cases oi y
    refine qe_then_ret ?_
    cases oi i
    exact ey results44 ⟨J,u,O⟩
   refine wc_skip (qe_block (qe_seq (wc_region (mv u (lv (rv_add u u) (av u (wl_nil ?_)))))))
   cases oi s
   exact qd ⟨_,u,J,u,O,(f.trans aE),(w64_rng _)⟩
  refine wc_exit (qe_then_exit (qe_then_exit ?_))
  cases oi q
  cases C _ u
  refine qe_block_eq ?_
  cases oi y
  exact qe_mid' ⟨_,V,u,u,D,f⟩ trivial
 rintro _ aQ ⟨aR,aG,rfl,rfl,aH,aS⟩
 have i:=elim_l i
 refine qr (lv (r_t u) (nq (wc_ret ?_)))
 cases oi i
 exact ey results44 ⟨aG,u,aH⟩

theorem ok_laws_eqSeg {q0:GSeg}{q1:GSeg}{r:Bool}(hS:SH w K [] w K [])(H:SliceAt tGDoc K A a b q0.Docs)(I:SliceAt tGEntry K B c d q0.Entries)(J:SliceAt tGDoc K C f i q1.Docs)(O:SliceAt tGEntry K D k l q1.Entries)(hm:M.laws_eqSeg F q0 q1=some r):
  Calls prog 18 #[.agg #[V3 A a b,V3 B c d],.agg #[V3 C f i,V3 D k l]] w (R_b w K r):=by
 rw [M.laws_eqSeg] at hm
 refine ci func18 u ntmps18 (sr (bx u hS fun R af S=>?_))
 have T:SH _ _ _ _ _ [obj R [V3 A a b,V3 B c d] 51]:=S
 refine bx u T fun U ag V=>?_
 have o:SH _ _ _ _ _ [obj U [V3 C f i,V3 D k l] 51,_]:=V
 refine lv (r_f u) (nsr (fl ff51_0 u tf48 m1 o u (fl ff51_0 u tf48 m0 o u ?_)))
 obtain⟨ah,W,X⟩:=ob hm
 refine lk co43 (ok_laws_eqDocS F o.enter0 H J W) ?_
 rintro ai aj ⟨Y,rfl,q⟩
 have m:=(o.c0 q).t2
 refine lv (rv_not u) (nq (wcc X u (fun aa s=>?_) (fun aa s=>?_)))
 ·refine sr (lv (r_f u) (nq (rr ?_)))
  cases oi s
  exact ey results18 ⟨Y,u,m.s⟩
 refine wc_skip (qs (sr (fl ff51_1 u tf49 m1 m u (fl ff51_1 u tf49 m0 m u ?_))))
 obtain⟨ak,ab,ac⟩:=ob s
 refine lk co44 (ok_laws_eqEntryS F m.enter0 (I.mono q.le) (O.mono q.le) ab) ?_
 rintro al am ⟨y,rfl,ad⟩
 have G:=(m.c0 ad).t2
 refine lv (rv_not u) (nq (wcc ac u (fun ae x=>?_) (fun ae x=>?_)))
 ·refine sr (lv (r_f u) (nq (rr ?_)))
  cases oi x
  exact ey results18 ⟨y,u,G.s⟩
 refine wc_skip (qr (lv (r_t u) (nq (wc_ret ?_))))
 cases oi x
 exact ey results18 ⟨y,u,G.s⟩

theorem ok_laws_markText {q0:Int}{r:Str}(hS:SH w K [] w K [])(y:rng64 q0)(hm:M.laws_markText F q0=some r):
  Calls prog 48 #[V6 q0] w fun e w'=>∃K',e= .returned (sv r)∧SH w K [] w' K' []∧r.length≤maxLen:=by
 rw [M.laws_markText] at hm
 refine ci func48 u ntmps48 (sr (lv (r_s u) (nsr (mv u (lv (rv_leq u u) (nq (wc_cond u (fun b=>?_) (fun b=>?_))))))))
 ·have c:=cond_t b hm
  refine sr (lv (rv_assign (v:=sv [109,48]) u) (nq (rr ?_)))
  cases oi c
  exact ey results48 ⟨K,u,hS,(by decide :([109,48]:Str).length≤maxLen)⟩
 have c:=cond_f b hm
 refine wc_skip (qr (lv (r_s u) (ns ?_)))
 obtain⟨i,A,B⟩:=ob c
 refine wc_cutg (IW w K [] K [(3,sv i)] [] (i.length≤maxLen)) ?_ ?_
 ·refine wc_block ?_
  obtain⟨ac,C,D⟩:=ob A
  refine qw (fun (a:Int×Str)=>IW w K [] K [(0,V6 a.1),(3,sv a.2)] [] (rng64 a.1∧a.2.length≤maxLen)) C ⟨K,u,hS,kr,y,(by decide :([]:Str).length≤maxLen)⟩ ?_
  rintro a _ ad ae G H ⟨I,rfl,k,l,af,J⟩
  refine wc_seq (sr (mv u (lv (rv_gtr u u) (nq (wcc G u (fun O d=>?_) (fun O d=>?_))))))
  ·refine wc_skip (qe_seq (wc_block (sr (mv u ?_))))
   obtain⟨f,R,S⟩:=ob d
   refine lv (rv_rem u u R) (lv (rv_add u u) (lv (rv_i2b underlying3 underlying5 u) (lb tU8 (iv8 (byteOfI (w64 ((48:Int)+f)))) [iv8 (byteOfI (w64 ((48:Int)+f)))] (byteOfI (w64 ((48:Int)+f))) underlying138 tf5 u k fun ag ah T U V m=>(lv (rv_b2s underlying138 underlying5 underlying9 u V m) (mv u ?_)))))
   obtain⟨ai,o,W⟩:=ob S
   refine lv (rv_sadd u u o) (av u (nq (wc_region (mv u ?_))))
   obtain⟨aj,q,X⟩:=ob W
   refine lv (rv_quo u u q) (av u (nb ?_))
   cases oi X
   exact qd ⟨_,u,T,u,m.s,(l.trans U),(rng_quo q),(len_cat o)⟩
  refine wc_exit (qe_then_exit (qe_then_exit ?_))
  cases oi d
  cases H _ u
  refine qe_block_eq ?_
  cases oi D
  exact qd ⟨I,u,k,l,J⟩
 rintro _ w9 ⟨Y,rfl,aa,al,am⟩
 refine qr (mv u ?_)
 obtain⟨an,x,ab⟩:=ob B
 refine lv (rv_sadd (s:=([109]:Str)) u u x) (av u (nq (wc_ret ?_)))
 cases oi ab
 exact ey results48 ⟨Y,u,aa,(len_cat x)⟩
end Go.Proofs.YtepcfgnicnibnaaGreat
