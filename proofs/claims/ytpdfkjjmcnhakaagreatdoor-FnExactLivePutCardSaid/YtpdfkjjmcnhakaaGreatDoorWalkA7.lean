/-
 Walks of the functions. Printed by gen.py.
-/
import Derived.Test.YtpdfkjjmcnhakaaGreatDoorLawDocsT
import Derived.Test.YtpdfkjjmcnhakaaGreatDoorCoreQp
import Derived.Test.YtpdfkjjmcnhakaaGreatDoorWalkA5
import Derived.Test.YtpdfkjjmcnhakaaGreatDoorWalkA6
set_option linter.unusedVariables false
set_option linter.unusedSectionVars false
set_option maxRecDepth 100000
namespace Go.Proofs.YtpdfkjjmcnhakaaGreatDoor
set_option maxHeartbeats 4000000
open Go Go.Fk Go.RowKit Tryz
variable (F:Nat){w:World}{K:KMap}{Z:List Nat}{g1 g2 g3:Nat}{A B C D G H I J O R S T:Option Addr}{a b c d f i k l m n o p q s v x y aa ab ac ad ae af ag:Nat}
variable [dr:Dr]

theorem ok_cmp_isNaN_int {q0:Int}{r:Bool}(hS:SH w K [] w K [])(a:rng64 q0)(hm:M.cmp_isNaN_int F q0=some r):
  Calls prog 167 #[V6 q0] w (R_b w K r):=by
 rw [M.cmp_isNaN_int] at hm
 refine ci func167 u ntmps167 (sr (lv (r_f u) (nr (mv u (mv u (lv (rv_neq u u) (av u (nq (wc_ret ?_)))))))))
 cases oi hm
 exact ey results167 ⟨K,u,hS⟩

theorem ok_cmp_Compare_int {q0:Int}{q1:Int}{r:Int}(hS:SH w K [] w K [])(m:rng64 q0)(o:rng64 q1)(hm:M.cmp_Compare_int F q0 q1=some r):
  Calls prog 125 #[V6 q0,V6 q1] w (R_i w K r):=by
 rw [M.cmp_Compare_int] at hm
 refine ci func125 u ntmps125 (sr (lv (r_0 u) (nr (mv u ?_))))
 obtain⟨J,q,s⟩:=ob hm
 refine lk co167 (ok_cmp_isNaN_int F hS.enter0 m q) ?_
 rintro O R ⟨S,rfl,x⟩
 have l:=(hS.c0 x).t0
 refine av u (nr (mv u ?_))
 obtain⟨T,y,A⟩:=ob s
 refine lk co167 (ok_cmp_isNaN_int F l.enter0 o y) ?_
 rintro U V ⟨a,rfl,B⟩
 have b:=(l.c0 B).t0
 refine av u (nsr (mv u (nq (wcc A u (fun C c=>?_) (fun C c=>?_)))))
 ·refine wc_seq (sr (mv u (nq (wcc c u (fun D d=>?_) (fun D d=>?_)))))
  ·refine sr (lv (r_0 u) (nq (rr (qe_then_ret ?_))))
   cases oi d
   exact ey results125 ⟨a,u,b,d_0⟩
  refine wc_skip (qr (lv (rv_assign (v:=V6 (-1)) u) (nq (rr ?_))))
  cases oi d
  exact ey results125 ⟨a,u,b,(by decide :rng64 (-1))⟩
 refine wc_skip (qs (sr (mv u (nq (wcc c u (fun G f=>?_) (fun G f=>?_))))))
 ·refine sr (lv (rv_assign (v:=V6 1) u) (nq (rr ?_)))
  cases oi f
  exact ey results125 ⟨a,u,b,(by decide :rng64 1)⟩
 refine wc_skip (qs (sr (mv u (mv u (lv (rv_lss u u) (nq (wcc f u (fun H i=>?_) (fun H i=>?_))))))))
 ·refine sr (lv (rv_assign (v:=V6 (-1)) u) (nq (rr ?_)))
  cases oi i
  exact ey results125 ⟨a,u,b,(by decide :rng64 (-1))⟩
 refine wc_skip (qs (sr (mv u (mv u (lv (rv_gtr u u) (nq (wcc i u (fun I k=>?_) (fun I k=>?_))))))))
 ·refine sr (lv (rv_assign (v:=V6 1) u) (nq (rr ?_)))
  cases oi k
  exact ey results125 ⟨a,u,b,(by decide :rng64 1)⟩
 refine wc_skip (qr (lv (r_0 u) (nq (wc_ret ?_))))
 cases oi k
 exact ey results125 ⟨a,u,b,d_0⟩

theorem ok_impl_allAlive_1 {q0:GDoc}{q1:GDoc}{r:Int}(hS:SH w K [] w K [])(o:rng64 q0.Id)(U:SliceAt tGField K A a b q0.Fields)(V:SliceAt tGAttr K B c d q0.Nums)(q:rng64 q1.Id)(W:SliceAt tGField K C f i q1.Fields)(X:SliceAt tGAttr K D k l q1.Nums)(hm:M.impl_allAlive_1 F q0 q1=some r):
  Calls prog 124 #[.agg #[V6 q0.Id,V3 A a b,V3 B c d],.agg #[V6 q1.Id,V3 C f i,V3 D k l]] w (R_i w K r):=by
 rw [M.impl_allAlive_1] at hm
 refine ci func124 u ntmps124 (sr (bx u hS fun s Y x=>?_))
 have y:SH _ _ _ _ _ [obj s [V6 q0.Id,V3 A a b,V3 B c d] 64]:=x
 refine bx u y fun G aa H=>?_
 have m:SH _ _ _ _ _ [obj G [V6 q1.Id,V3 C f i,V3 D k l] 64,_]:=H
 refine lv (r_0 u) (nr (fl ff64_0 u tf3 m1 m u (fl ff64_0 u tf3 m0 m u ?_)))
 obtain⟨ab,I,J⟩:=ob hm
 refine lk co125 (ok_cmp_Compare_int F m.enter0 o q I) ?_
 rintro ac ad ⟨O,rfl,R,S⟩
 have T:=(m.c0 R).t2
 refine av u (nq (wc_ret ?_))
 cases oi J
 exact ey results124 ⟨O,u,T.s,S⟩

theorem ok_impl_allAlive {q0:List GLive}{r:(List GDoc)}(hS:SH w K [] w K [])(C:SliceAt tGLive K A a b q0)(hm:M.impl_allAlive F q0=some r):
  Calls prog 75 #[V3 A a b] w fun e w'=>∃a_1 n_2 c_3 K' ys,e= .returned (V3 a_1 n_2 c_3)∧SH w K [] w' K' [tail (V3 a_1 n_2 c_3) 64 3]∧SliceAt tGDoc K' a_1 n_2 c_3 ys∧ys.Perm r∧ys.Pairwise (fun a b=>a.Id≤b.Id):=by
 have hbX:=alive_bound hm
 rw [M.impl_allAlive] at hm
 refine ci func75 rfl ntmps75 (sr (lv (r_n rfl) (nr (wl_buildSlice0R tGDoc wn rfl underlying40 tf64 hS fun a5 w6 ac=>(av rfl (nsr (mv rfl (lv (rv_len underlying72 rfl C) (lv (r_m rfl) ?_)))))))))
 refine nq ?_
 obtain⟨Y,h9,ae⟩:=ob hm
 refine wc_cutg (fun E' w'=>∃i c k cs18 o,E'=[(3,V3 i c k)]∧SH w K [] w' o [rowI (V3 i c k) cs18 64 3]∧KLe K o∧RowAt true tGDoc o cs18 Y∧c=Y.length) ?_ ?_
 ·refine wc_block ?_
  obtain⟨bc,af,ag⟩:=ob h9
  refine qF (fun (aa:Nat) (q:(List GDoc)) E' w'=>∃l d m cs33 f,E'=[(3,V3 l d m),(7,V3 A a b),(8,V6 (q0.length:Int)),(9,V6 ((aa:Nat):Int))]∧SH w K [] w' f [rowI (V3 l d m) cs33 64 3]∧KLe K f∧RowAt true tGDoc f cs33 q∧d=q.length) af ⟨a5,0,0,[],K,rfl,ac,kr,(RowAt.nil tGDoc _),rfl⟩ ?_ ?_
  ·rintro aa q _ ah bd hi37 ai ⟨l,d,m,cs33,f,rfl,s,B,hrow34,hm35⟩
   refine sr (lv (rv_lss rfl rfl) (ns (wc_cond_t rfl (decide_eq_true (by omega)) (wc_skip (qe_seq (wc_seq (wc_block (sr ?_))))))))
   obtain⟨be,aj,ak⟩:=ob ai
   refine li underlying72 tf45 (C.mono B) aj fun am an bf ao ap=>?_
   obtain⟨D,G,H,I,J,O,R,S,U,rfl,aq,ar,au⟩:=ao
   have aw:AtK _ am an [V3 D G H,V3 I J O,V3 R S U]:=ap
   refine lv (rv_loadS tf45 rfl s aw rfl) (al tf45 s fun ax bg ay=>?_)
   have az:SH _ _ _ _ _ [obj ax [V3 none 0 0,V3 none 0 0,V3 none 0 0] 45,_]:=ay
   refine lw [V3 D G H,V3 I J O,V3 R S U] tf45 az fun bh V=>(nq (wc_region (mv rfl (lv (rv_loadmS (ds:=[V3 D G H,V3 I J O,V3 R S U]) tf45 rfl m0 V rfl rfl) ?_))))
   obtain⟨bi,aA,aB⟩:=ob ak
   refine lk co122 (ok_impl_Live_alive F V.enter0 aq ar au aA) ?_
   rintro bj bk ⟨bl,bm,bn,aC,rfl,X,aD⟩
   have aE:=(V.c0 X).t3
   obtain⟨bo,aF,aG⟩:=ob aB
   refine wl_appendR (t:=tGDoc) wn rfl underlying40 tf64 rfl rfl rfl rfl (RowAt.mono X.le hrow34) hm35 aD aF aE.f2 fun aH aI aJ cs86 bp hrow88 hm89 aK=>(av rfl (nb (qg (lv (rv_add_to rfl rfl (w64_succ hi37 (SliceAt.max C))) (mv rfl (wl_nil ?_))))))
   cases oi aG
   exact qd ⟨aH,aI,aJ,cs86,aC,rfl,aK.s,(B.trans X.le),hrow88,hm89⟩
  rintro q _ ah aL ⟨l,d,m,cs33,f,rfl,s,B,hrow34,hm35⟩
  subst aL
  refine sr (lv (rv_lss rfl rfl) (ns (wc_cond_f rfl (decide_eq_false (by omega)) (wc_exit (qe_then_exit (qe_then_exit (qe_block_eq ?_)))))))
  cases oi ag
  exact qd ⟨l,d,m,cs33,f,rfl,s,B,hrow34,hm35⟩
 rintro _ bq ⟨i,c,k,cs18,o,rfl,aM,br,hrow19,hm20⟩
 refine qr (mv rfl ?_)
 cases oi ae
 have hlX:=alive_len hbX
 refine wl_call wn rfl (rt_call (vs:=[V3 i c k,.func (.func 124) #[] #[]]) co123 rfl) (sort_rowP (T:=tGDoc) sortLay123 sortNone123 rfl (fun w=>Go.Fk.run_isAgg tf64 w) (fun w=>Go.Fk.run_sizeOf tf64 w) (fun a b=>M.impl_allAlive_1 F a b) 124 (Go.Proofs.enters_of func124 (by kernel_rfl) rfl) aM hrow19 hm20 (fun K1 W v x u y r hW h1 h2 hm=>by
  obtain⟨bv,bx,bz,bA,bB,bC,rfl,aR,aS,aT⟩:=h1
  obtain⟨bD,bE,bF,bG,bH,bI,rfl,aU,aV,aW⟩:=h2
  exact(ok_impl_allAlive_1 (dr:=⟨True⟩) F (SH.start (dr:=⟨True⟩) hW) aR aS aT aU aV aW hm).mono fun e w' ⟨K',he,hS',_⟩=>⟨K',he,hS'⟩) hlX (alive_some F _) (alive_irr F _) (alive_tr F _) (alive_ntr F _)) ?_
 rintro bJ bK ⟨cs114,ysX,rfl,aX,hrow116,hm117,hpX,hwX⟩
 refine⟨_,rfl,?_⟩
 refine nr (mv rfl (av rfl (nq (wc_ret ?_))))
 obtain⟨aY,bL,aZ,ba⟩:=SH.freezeI aX hrow116 hm117
 exact ey results75 ⟨i,c,k,aY,ysX,rfl,ba,aZ,hpX,alive_up hwX⟩

theorem ok_impl_IndexOk {q0:GIndex}{r:Bool}(hS:SH w K [] w K [])(ae:SliceAt tStr K A a b q0.Conf.Stops)(af:SliceAt tGSyn K B c d q0.Conf.Syns)(q:SliceAt tGLive K C f i q0.Segs)(hm:M.impl_IndexOk F q0=some r):
  Calls prog 32 #[.agg #[V3 A a b,V3 B c d,V3 C f i]] w (R_b w K r):=by
 rw [M.impl_IndexOk] at hm
 refine ci func32 u ntmps32 (sr (bx u hS fun l bh aq=>?_))
 have H:SH _ _ _ _ _ [obj l [V3 A a b,V3 B c d,V3 C f i] 74]:=aq
 refine lv (r_f u) (ns (wc_seq ?_))
 obtain⟨ar,au,aw⟩:=ob hm
 refine wc_cutg (IV w K [] K [(1,pt l),(14,.bool ar)] [obj l [V3 A a b,V3 B c d,V3 C f i] 74]) ?_ ?_
 ·refine wc_region (fa ff74_0 u (lv (rv_loadmS (ds:=[V3 A a b,V3 B c d]) tf38 u m0 H u u) ?_))
  obtain⟨bi,ax,ay⟩:=ob au
  refine lk co43 (ok_impl_ConfOk F H.enter0 ae af ax) ?_
  rintro bj bk ⟨ag,rfl,s⟩
  have I:=(H.c0 s).t1
  refine lv (rv_not u) (mv u (bt ay (fun k J=>?_) (fun k J=>?_)))
  ·refine lu k (lu k (lu k (lu k (lv (p_t u k u) (wl_nil ?_)))))
   cases oi J
   exact qd ⟨ag,u,I,s.le⟩
  refine lg k (rv_fieldAddr ff74_1 u) (lg k (rv_loadm1 tf72 u m0 I u) (lg k (rv_len underlying72 u (q.mono s.le)) (lg k (rv_gtr u u) (lv (rv_pick_f u k u) (wl_nil ?_)))))
  cases oi J
  exact qd ⟨ag,u,I,s.le⟩
 rintro _ bl ⟨x,rfl,O,m⟩
 refine qe_seq (wcc aw u (fun az R=>?_) (fun az R=>?_))
 ·refine sr (lv (r_f u) (nq (rr ?_)))
  cases oi R
  exact ey results32 ⟨x,u,O.s⟩
 refine wc_skip (qs (sr (fl ff74_1 u tf72 m0 O u (lv (rv_len underlying72 u (q.mono m)) (lv (r_m u) (nq ?_))))))
 obtain⟨aA,aB,y⟩:=ob R
 refine wc_cutg (IE aA w K [] x [(1,pt l)] [obj l [V3 A a b,V3 B c d,V3 C f i] 74]) ?_ ?_
 ·refine wc_block ?_
  obtain⟨bm,aC,ah⟩:=ob aB
  refine qf (fun (ai:Nat) (aj:Unit)=>IV w K [] x [(1,pt l),(16,V3 C f i),(17,V6 (q0.Segs.length:Int)),(18,V6 ((ai:Nat):Int))] [obj l [V3 A a b,V3 B c d,V3 C f i] 74]) aC ⟨x,u,O,kr⟩ ?_ ?_
  ·rintro ai aj _ aD bn hi55 aE aF ⟨ak,rfl,D,o⟩
   refine sr (lv (rv_lss u u) (ns (wc_cond_t u (decide_eq_true (by omega)) (wc_skip (qe_seq (wc_seq (wc_block (sr ?_))))))))
   obtain⟨bo,aG,aH⟩:=ob aE
   refine li underlying72 tf45 (q.mono (m.trans o)) aG fun aI aJ bp aK aL=>?_
   obtain⟨S,T,U,V,W,X,Y,aa,ab,rfl,aM,aN,aO⟩:=aK
   have aP:AtK _ aI aJ [V3 S T U,V3 V W X,V3 Y aa ab]:=aL
   refine lv (rv_loadS tf45 u D aP u) (al tf45 D fun aQ bq aR=>?_)
   have aS:SH _ _ _ _ _ [obj aQ [V3 none 0 0,V3 none 0 0,V3 none 0 0] 45,_]:=aR
   refine lw [V3 S T U,V3 V W X,V3 Y aa ab] tf45 aS fun br G=>(nr (fa ff74_0 u (lv (rv_loadmS (ds:=[V3 A a b,V3 B c d]) tf38 u m1 G u u) (lv (rv_loadmS (ds:=[V3 S T U,V3 V W X,V3 Y aa ab]) tf45 u m0 G u u) ?_))))
   obtain⟨bs,aT,aU⟩:=ob aH
   refine lk co74 (ok_impl_liveOk F G.enter0 (ae.mono (m.trans o)) (af.mono (m.trans o)) aM aN aO aT) ?_
   rintro bu bv ⟨am,rfl,an⟩
   have ao:=(G.c0 an).t2
   refine lv (rv_not u) (nq (wcc aU u (fun aV ac=>?_) (fun aV ac=>?_)))
   ·refine sr (lv (r_f u) (nq (wc_ret (qe_block_ret (qe_then_ret (qe_then_ret ?_))))))
    cases oi ac
    cases aF _ u
    refine qe_block_ret (qe_then_ret ?_)
    cases oi ah
    refine qe_then_ret ?_
    cases oi y
    exact ey results32 ⟨am,u,ao.s⟩
   refine wc_skip (qe_block (qg (lv (rv_add_to u u (w64_succ hi55 (SliceAt.max (q.mono m)))) (mv u (wl_nil ?_)))))
   cases oi ac
   exact qd ⟨_,u,am,u,ao.s,(o.trans an.le)⟩
  rintro aj _ aD aW ⟨ak,rfl,D,o⟩
  subst aW
  refine sr (lv (rv_lss u u) (ns (wc_cond_f u (decide_eq_false (by omega)) (wc_exit (qe_then_exit (qe_then_exit (qe_block_eq ?_)))))))
  cases oi ah
  exact qd ⟨_,ak,u,u,D,o⟩
 rintro _ bz ⟨bA,bB,rfl,rfl,ad,aX⟩
 have y:=elim_l y
 refine qr (fl ff74_1 u tf72 m0 ad u ?_)
 obtain⟨bC,aY,aZ⟩:=ob y
 refine lk co75 (ok_impl_allAlive F ad.enter0 (q.mono (m.trans aX)) aY) ?_
 rintro bD bE ⟨bF,bG,bH,bI,ysX,rfl,ba,bb,hpX,hwX⟩
 have ap:=(ad.c0 ba).t2
 obtain⟨bJ,bc,bd⟩:=ob aZ
 refine lk co44 (ok_impl_DocsOk F ap.enter0 bb ((docsT_any F (alive_fit (alive_bound aY)) hpX hwX).trans bc)) ?_
 rintro bK bL ⟨be,rfl,bf⟩
 have bg:=(ap.c0 bf).t2
 refine av u (nq (wc_ret ?_))
 cases oi bd
 exact ey results32 ⟨be,u,bg.s⟩

theorem ok_impl_DocPut {q0:GDoc}{r:Str}(hS:SH w K [] w K [])(Y:rng64 q0.Id)(m:SliceAt tGField K A a b q0.Fields)(o:SliceAt tGAttr K B c d q0.Nums)(hT:Tab10 w)(hm:M.impl_DocPut F q0=some r):
  Calls prog 33 #[.agg #[V6 q0.Id,V3 A a b,V3 B c d]] w fun e w'=>∃K',e= .returned (sv r)∧SH w K [] w' K' []∧r.length≤maxLen:=by
 rw [M.impl_DocPut] at hm
 refine ci func33 u ntmps33 (sr (bx u hS fun k bQ aq=>?_))
 have J:SH _ _ _ _ _ [obj k [V6 q0.Id,V3 A a b,V3 B c d] 64]:=aq
 refine lv (r_s u) (nsr (lv (rv_loadmS (ds:=[V6 q0.Id,V3 A a b,V3 B c d]) tf64 u m0 J u u) ?_))
 obtain⟨bR,ar,au⟩:=ob hm
 refine lk co56 (ok_impl_DocOk F J.enter0 Y m o ar) ?_
 rintro bS bT ⟨aw,rfl,f⟩
 have l:=(J.c0 f).t1
 refine lv (rv_not u) (nq (wcc au u (fun ax O=>?_) (fun ax O=>?_)))
 ·refine sr (lv (r_s u) (nq (rr ?_)))
  cases oi O
  exact ey results33 ⟨aw,u,l.s,(by decide :([]:Str).length≤maxLen)⟩
 refine wc_skip (qr (fl ff64_0 u tf3 m0 l u ?_))
 obtain⟨bU,ay,az⟩:=ob O
 refine lk co34 (itoa_call (T:=Tab10) Tryz.strconv_Itoa l.enter0 Y (tab_keep hT l) ay) ?_
 rintro bV bW ⟨R,rfl,i,bX⟩
 have aa:=(l.c0 i).t1
 obtain⟨bY,aA,aB⟩:=ob az
 refine lv (rv_sadd (s:=([100,111,99,32]:Str)) u u aA) ?_
 obtain⟨bZ,ab,aC⟩:=ob aB
 refine lv (rv_sadd (r:=([10]:Str)) u u ab) (av u (nsr (fl ff64_1 u tf61 m0 aa u (lv (rv_len underlying61 u (m.mono (f.le.trans i.le))) (lv (r_m u) (nq ?_))))))
 obtain⟨ac,aD,aE⟩:=ob aC
 refine wc_cutg (IW w K [] R [(1,pt k),(3,sv ac)] [obj k [V6 q0.Id,V3 A a b,V3 B c d] 64] (ac.length≤maxLen)) ?_ ?_
 ·refine wc_block ?_
  obtain⟨ca,aF,aG⟩:=ob aD
  refine qF (fun (ad:Nat) (q:Str)=>IW w K [] R [(1,pt k),(3,sv q),(17,V3 A a b),(18,V6 (q0.Fields.length:Int)),(19,V6 ((ad:Nat):Int))] [obj k [V6 q0.Id,V3 A a b,V3 B c d] 64] (q.length≤maxLen)) aF ⟨R,u,aa,kr,(len_cat ab)⟩ ?_ ?_
  ·rintro ad q _ aH cb hi59 aI ⟨S,rfl,x,y,ae⟩
   refine sr (lv (rv_lss u u) (ns (wc_cond_t u (decide_eq_true (by omega)) (wc_skip (qe_seq (wc_seq (wc_block (sr ?_))))))))
   obtain⟨C,aJ,aK⟩:=ob aI
   refine li underlying61 tf118 (m.mono ((f.le.trans i.le).trans y)) aJ fun aL aM cc aN aO=>?_
   obtain⟨rfl,cd,ce⟩:=aN
   have aP:AtK _ aL aM [sv C.Name,sv C.Text]:=aO
   refine lv (rv_loadS tf118 u x aP u) (al tf118 x fun aQ cf aR=>?_)
   have aS:SH _ _ _ _ _ [obj aQ [sv [],sv []] 118,_]:=aR
   refine lw [sv C.Name,sv C.Text] tf118 aS fun cg U=>(nq (wc_region (mv u (fl ff118_0 u tf9 m0 U u ?_))))
   obtain⟨ch,aT,aU⟩:=ob aK
   refine lv (rv_sadd (s:=([102,105,101,108,100,32]:Str)) u u aT) ?_
   obtain⟨cj,aV,aW⟩:=ob aU
   refine lv (rv_sadd (r:=([32]:Str)) u u aV) (fl ff118_1 u tf9 m0 U u ?_)
   obtain⟨ck,aX,aY⟩:=ob aW
   refine lv (rv_sadd u u aX) ?_
   obtain⟨cl,aZ,ba⟩:=ob aY
   refine lv (rv_sadd (r:=([10]:Str)) u u aZ) ?_
   obtain⟨cm,af,bb⟩:=ob ba
   refine lv (rv_sadd u u af) (av u (nb (qg (lv (rv_add_to u u (w64_succ hi59 (SliceAt.max (m.mono (f.le.trans i.le))))) (mv u (wl_nil ?_))))))
   cases oi bb
   exact qd ⟨S,u,U.s,y,(len_cat af)⟩
  rintro q _ aH bc ⟨S,rfl,x,y,ae⟩
  subst bc
  refine sr (lv (rv_lss u u) (ns (wc_cond_f u (decide_eq_false (by omega)) (wc_exit (qe_then_exit (qe_then_exit (qe_block_eq ?_)))))))
  cases oi aG
  exact qd ⟨S,u,x,y,ae⟩
 rintro _ cn ⟨V,rfl,ag,W,bd⟩
 refine qs (sr (fl ff64_2 u tf62 m0 ag u (lv (rv_len underlying62 u (o.mono ((f.le.trans i.le).trans W))) (lv (r_m u) (nq ?_)))))
 obtain⟨ah,be,bf⟩:=ob aE
 refine wc_cutg (IW w K [] V [(3,sv ah)] [] (ah.length≤maxLen)) ?_ ?_
 ·refine wc_block ?_
  obtain⟨cp,bg,bh⟩:=ob be
  have bi:=ag.sb (sd sz)
  refine qF (fun (ai:Nat) (D:Str)=>IW w K [] V [(3,sv D),(35,V3 B c d),(36,V6 (q0.Nums.length:Int)),(37,V6 ((ai:Nat):Int))] [] (D.length≤maxLen)) bg ⟨V,u,bi,kr,bd⟩ ?_ ?_
  ·rintro ai D _ bj cq hi116 bk ⟨aj,rfl,G,H,ak⟩
   refine sr (lv (rv_lss u u) (ns (wc_cond_t u (decide_eq_true (by omega)) (wc_skip (qe_seq (wc_seq (wc_block (sr ?_))))))))
   obtain⟨I,bl,bm⟩:=ob bk
   refine li underlying62 tf135 (SliceAt.mono (((f.le.trans i.le).trans W).trans H) o) bl fun bn bo cr bp bq=>?_
   obtain⟨rfl,cs,am⟩:=bp
   have br:AtK _ bn bo [sv I.Name,V6 I.Num]:=bq
   refine lv (rv_loadS tf135 u G br u) (al tf135 G fun bs ct bu=>?_)
   have bv:SH _ _ _ _ _ [obj bs [sv [],V6 0] 135]:=bu
   refine lw [sv I.Name,V6 I.Num] tf135 bv fun cu X=>(nq (wc_quiet mixed (by kernel_rfl) X (km u (kv (rv_fieldAddr ff135_0 u) (kh (rq_loadm1 tf9 u m0 u) ?_)))))
   obtain⟨cv,bz,bA⟩:=ob bm
   refine kv (rv_sadd (s:=([110,117,109,32]:Str)) u u bz) ?_
   obtain⟨cw,bB,bC⟩:=ob bA
   refine kv (rv_sadd (r:=([32]:Str)) u u bB) (kv (rv_fieldAddr ff135_1 u) (kh (rq_loadm1 tf3 u m0 u) ?_))
   obtain⟨cx,an,bD⟩:=ob bC
   refine kd co34 (fun _ _ ao cy=>itoa_call (T:=Tab10) Tryz.strconv_Itoa ao.enter0 am (tab_keep hT ao) an) ?_
   obtain⟨_,_,_,⟨_,_,_,cz⟩,_⟩:=itoa_call (T:=Tab10) Tryz.strconv_Itoa X.enter0 am (tab_keep hT X) an []
   obtain⟨cA,bE,bF⟩:=ob bD
   refine kv (rv_sadd u u bE) ?_
   obtain⟨cB,bG,bH⟩:=ob bF
   refine kv (rv_sadd (r:=([10]:Str)) u u bG) ?_
   obtain⟨cC,ap,bI⟩:=ob bH
   refine kv (rv_sadd u u ap) (kv (rv_assign u) (wq_nil ?_))
   rintro cD ⟨bJ,bK,bL⟩
   refine qe_block (qg (lv (rv_add_to u u (w64_succ hi116 (SliceAt.max (o.mono ((f.le.trans i.le).trans W))))) (mv u (wl_nil ?_))))
   cases oi bI
   exact qd ⟨bJ,u,bK.s,(H.trans bL),(len_cat ap)⟩
  rintro D _ bj bM ⟨aj,rfl,G,H,ak⟩
  subst bM
  refine sr (lv (rv_lss u u) (ns (wc_cond_f u (decide_eq_false (by omega)) (wc_exit (qe_then_exit (qe_then_exit (qe_block_eq ?_)))))))
  cases oi bh
  exact qd ⟨aj,u,G,H,ak⟩
 rintro _ cE ⟨bN,rfl,bO,cF,bP⟩
 refine qr (mv u (av u (nq (wc_ret ?_))))
 cases oi bf
 exact ey results33 ⟨bN,u,bO,bP⟩

theorem ok_impl_LivePut {q0:GConf}{q1:GLive}{r:Str}(hS:SH w K [] w K [])(aC:SliceAt tStr K A a b q0.Stops)(aD:SliceAt tGSyn K B c d q0.Syns)(H:SliceAt tGDoc K C f i q1.Seg.Docs)(aE:SliceAt tGEntry K D k l q1.Seg.Entries)(I:SliceAt tInt K G m n q1.Dead)(hT:Tab10 w)(hm:M.impl_LivePut F q0 q1=some r):
  Calls prog 10 #[.agg #[V3 A a b,V3 B c d],.agg #[V3 C f i,V3 D k l,V3 G m n]] w fun e w'=>∃K',e= .returned (sv r)∧SH w K [] w' K' []∧r.length≤maxLen:=by
 rw [M.impl_LivePut] at hm
 refine ci func10 u ntmps10 (sr (bx u hS fun aF bW aG=>?_))
 have aH:SH _ _ _ _ _ [obj aF [V3 A a b,V3 B c d] 38]:=aG
 refine bx u aH fun y bX aI=>?_
 have X:SH _ _ _ _ _ [obj y [V3 C f i,V3 D k l,V3 G m n] 45,_]:=aI
 refine lv (r_s u) (nsr (lv (rv_loadmS (ds:=[V3 A a b,V3 B c d]) tf38 u m1 X u u) (lv (rv_loadmS (ds:=[V3 C f i,V3 D k l,V3 G m n]) tf45 u m0 X u u) (lb tGLive (.agg #[V3 C f i,V3 D k l,V3 G m n]) [V3 C f i,V3 D k l,V3 G m n] q1 underlying72 tf45 ⟨C,f,i,D,k,l,G,m,n,u,H,aE,I⟩ X fun aJ bY bZ o aK ak=>(lv (rv_build (cs:=#[V3 A a b,V3 B c d,V3 aJ 1 1]) sp74 tf74 u (by kernel_rfl)) ?_)))))
 obtain⟨ca,aL,aM⟩:=ob hm
 refine lk co32 ((ok_impl_IndexOk F (q0:=(GIndex.mk q0 ([q1]:List GLive)))) ak.enter0 (aC.mono o) (aD.mono o) aK aL) ?_
 rintro cb cc ⟨J,rfl,q⟩
 have Y:=(ak.c0 q).t3
 refine lv (rv_not u) (nq (wcc aM u (fun aN aa=>?_) (fun aN aa=>?_)))
 ·refine sr (lv (r_s u) (nq (rr ?_)))
  cases oi aa
  exact ey results10 ⟨J,u,Y.s,(by decide :([]:Str).length≤maxLen)⟩
 refine wc_skip (qr (lv (r_s u) (nsr (fa ff45_0 u (fl ff43_0 u tf40 m1 Y u (lv (rv_len underlying40 u (H.mono (o.trans q.le))) (lv (r_m u) (nq ?_))))))))
 obtain⟨am,aO,aP⟩:=ob aa
 refine wc_cutg (IW w K [] J [(3,pt y),(5,sv am)] [obj y [V3 C f i,V3 D k l,V3 G m n] 45] (am.length≤maxLen)) ?_ ?_
 ·refine wc_block ?_
  obtain⟨cd,aQ,aR⟩:=ob aO
  have aS:=Y.sb (sd (sk (sd sz)))
  refine qF (fun (an:Nat) (O:Str)=>IW w K [] J [(3,pt y),(5,sv O),(18,V3 C f i),(19,V6 (q1.Seg.Docs.length:Int)),(20,V6 ((an:Nat):Int))] [obj y [V3 C f i,V3 D k l,V3 G m n] 45] (O.length≤maxLen)) aQ ⟨J,u,aS,kr,(by decide :([]:Str).length≤maxLen)⟩ ?_ ?_
  ·rintro an O _ aT ce hi66 aU ⟨ao,rfl,R,S,ap⟩
   refine sr (lv (rv_lss u u) (ns (wc_cond_t u (decide_eq_true (by omega)) (wc_skip (qe_seq (wc_seq (wc_block (sr ?_))))))))
   obtain⟨ab,aV,aW⟩:=ob aU
   refine li underlying40 tf64 (H.mono ((o.trans q.le).trans S)) aV fun aX aY cf aZ ba=>?_
   obtain⟨ac,ad,ae,af,ag,ah,rfl,bb,bc,bd⟩:=aZ
   have be:AtK _ aX aY [V6 ab.Id,V3 ac ad ae,V3 af ag ah]:=ba
   refine lv (rv_loadS tf64 u R be u) (al tf64 R fun bf cg bg=>?_)
   have bh:SH _ _ _ _ _ [obj bf [V6 0,V3 none 0 0,V3 none 0 0] 64,_]:=bg
   refine lw [V6 ab.Id,V3 ac ad ae,V3 af ag ah] tf64 bh fun ch U=>(nq (wc_region (mv u (lv (rv_loadmS (ds:=[V6 ab.Id,V3 ac ad ae,V3 af ag ah]) tf64 u m0 U u u) ?_))))
   obtain⟨cj,bi,bj⟩:=ob aW
   refine lk co33 (ok_impl_DocPut F U.enter0 bb bc bd (tab_keep hT U) bi) ?_
   rintro ck cl ⟨bk,rfl,aq,cm⟩
   have bl:=(U.c0 aq).t2
   obtain⟨cn,ar,bm⟩:=ob bj
   refine lv (rv_sadd u u ar) (av u (nb (qg (lv (rv_add_to u u (w64_succ hi66 (SliceAt.max (H.mono (o.trans q.le))))) (mv u (wl_nil ?_))))))
   cases oi bm
   exact qd ⟨bk,u,bl.s,(S.trans aq.le),(len_cat ar)⟩
  rintro O _ aT bn ⟨ao,rfl,R,S,ap⟩
  subst bn
  refine sr (lv (rv_lss u u) (ns (wc_cond_f u (decide_eq_false (by omega)) (wc_exit (qe_then_exit (qe_then_exit (qe_block_eq ?_)))))))
  cases oi aR
  exact qd ⟨ao,u,R,S,ap⟩
 rintro _ cp ⟨ai,rfl,au,aj,bo⟩
 refine qs (sr (fl ff45_1 u tf30 m0 au u (lv (rv_len underlying30 u (I.mono ((o.trans q.le).trans aj))) (lv (r_m u) (nq ?_)))))
 obtain⟨aw,bp,bq⟩:=ob aP
 refine wc_cutg (IW w K [] ai [(5,sv aw)] [] (aw.length≤maxLen)) ?_ ?_
 ·refine wc_block ?_
  obtain⟨cq,br,bs⟩:=ob bp
  have bu:=au.sb (sd sz)
  refine qF (fun (ax:Nat) (V:Str)=>IW w K [] ai [(5,sv V),(30,V3 G m n),(31,V6 (q1.Dead.length:Int)),(32,V6 ((ax:Nat):Int))] [] (V.length≤maxLen)) br ⟨ai,u,bu,kr,bo⟩ ?_ ?_
  ·rintro ax V _ bv cr hi127 bz ⟨ay,rfl,x,W,az⟩
   refine sr (lv (rv_lss u u) (ns (wc_cond_t u (decide_eq_true (by omega)) (wc_skip (qe_seq (wc_seq (wc_block (sr ?_))))))))
   obtain⟨bA,bB,bC⟩:=ob bz
   refine li underlying30 tf3 (SliceAt.mono (((o.trans q.le).trans aj).trans W) I) bB fun bD bE ct bF bG=>?_
   obtain⟨rfl,bH⟩:=bF
   have bI:AtK _ bD bE [V6 bA]:=bG
   refine lv (rv_load1 tf3 u x (bI 0 _ u)) (av u (nq (wc_region (mv u (mv u ?_)))))
   obtain⟨cu,bJ,bK⟩:=ob bC
   refine lk co34 (itoa_call (T:=Tab10) Tryz.strconv_Itoa x.enter0 bH (tab_keep hT x) bJ) ?_
   rintro cv cw ⟨bL,rfl,aA,cx⟩
   have bM:=(x.c0 aA).t0
   obtain⟨cy,bN,bO⟩:=ob bK
   refine lv (rv_sadd (s:=([100,101,97,100,32]:Str)) u u bN) ?_
   obtain⟨cz,bP,bQ⟩:=ob bO
   refine lv (rv_sadd (r:=([10]:Str)) u u bP) ?_
   obtain⟨cA,aB,bR⟩:=ob bQ
   refine lv (rv_sadd u u aB) (av u (nb (qg (lv (rv_add_to u u (w64_succ hi127 (SliceAt.max (I.mono ((o.trans q.le).trans aj))))) (mv u (wl_nil ?_))))))
   cases oi bR
   exact qd ⟨bL,u,bM,(W.trans aA.le),(len_cat aB)⟩
  rintro V _ bv bS ⟨ay,rfl,x,W,az⟩
  subst bS
  refine sr (lv (rv_lss u u) (ns (wc_cond_f u (decide_eq_false (by omega)) (wc_exit (qe_then_exit (qe_then_exit (qe_block_eq ?_)))))))
  cases oi bs
  exact qd ⟨ay,u,x,W,az⟩
 rintro _ cB ⟨bT,rfl,bU,cC,bV⟩
 refine qr (mv u (av u (nq (wc_ret ?_))))
 cases oi bq
 exact ey results10 ⟨bT,u,bU,bV⟩

theorem ok_laws_eqStringS {q0:List Str}{q1:List Str}{r:Bool}(hS:SH w K [] w K [])(k:SliceAt tStr K A a b q0)(x:SliceAt tStr K B c d q1)(hm:M.laws_eqStringS F q0 q1=some r):
  Calls prog 35 #[V3 A a b,V3 B c d] w (R_b w K r):=by
 rw [M.laws_eqStringS] at hm
 refine ci func35 u ntmps35 (sr (lv (r_f u) (nsr (mv u (lv (rv_len underlying22 u k) (mv u (lv (rv_len underlying22 u x) (lv (rv_neq u u) (nq ?_)))))))))
 refine wc_cond u (fun l=>?_) (fun l=>?_)
 ·have m:=cond_t l hm
  refine sr (lv (r_f u) (nq (rr ?_)))
  cases oi m
  exact ey results35 ⟨K,u,hS⟩
 have m:=cond_f l hm
 refine wc_skip (qs (sr (lv (r_0 u) (nq ?_))))
 obtain⟨I,J,i⟩:=ob m
 refine wc_cutg (IE I w K [] K [] []) ?_ ?_
 ·refine wc_block ?_
  obtain⟨ap,O,y⟩:=ob J
  refine qw (fun (o:Int)=>IW w K [] K [(0,V3 A a b),(1,V3 B c d),(5,V6 o)] [] (rng64 o)) O ⟨K,u,hS,kr,d_0⟩ ?_
  rintro o _ aq ar R C ⟨S,rfl,D,f,au⟩
  refine wc_seq (sr (mv u (mv u (lv (rv_len underlying22 u (k.mono f)) (lv (rv_lss u u) (nq (wcc R u (fun T q=>?_) (fun T q=>?_))))))))
  ·refine wc_skip (qs (wc_block (wc_seq (wc_quiet mixed (by kernel_rfl) D (km u (km u ?_))))))
   obtain⟨U,V,W⟩:=ob q
   refine ki underlying22 tf9 (k.mono f) V fun X Y aw aa ab=>?_
   obtain⟨rfl,ax⟩:=aa
   have ac:AtK _ X Y [sv U]:=ab
   refine kh (rq_load1 tf9 u (ac 0 _ u)) (km u (km u ?_))
   obtain⟨ad,ae,af⟩:=ob W
   refine ki underlying22 tf9 (x.mono f) ae fun ag ah ay ai aj=>?_
   obtain⟨rfl,az⟩:=ai
   have ak:AtK _ ag ah [sv ad]:=aj
   refine kh (rq_load1 tf9 u (ak 0 _ u)) (kv (rv_sneq u u) (wq_nil ?_))
   rintro aA ⟨G,H,al⟩
   refine qe_seq (wcc af u (fun am s=>?_) (fun am s=>?_))
   ·refine sr (lv (r_f u) (nq (wc_ret (qe_block_ret (qe_then_ret (qe_then_ret ?_))))))
    cases oi s
    cases C _ u
    refine qe_block_ret (qe_then_ret ?_)
    cases oi y
    refine qe_then_ret ?_
    cases oi i
    exact ey results35 ⟨G,u,H⟩
   refine wc_skip (qe_block (qe_seq (wc_region (mv u (lv (rv_add u u) (av u (wl_nil ?_)))))))
   cases oi s
   exact qd ⟨_,u,G,u,H,(f.trans al),(w64_rng _)⟩
  refine wc_exit (qe_then_exit (qe_then_exit ?_))
  cases oi q
  cases C _ u
  refine qe_block_eq ?_
  cases oi y
  exact qe_mid' ⟨_,S,u,u,D,f⟩ trivial
 rintro _ aB ⟨aC,an,rfl,rfl,ao,aD⟩
 have i:=elim_l i
 refine qr (lv (r_t u) (nq (wc_ret ?_)))
 cases oi i
 exact ey results35 ⟨an,u,ao⟩

theorem ok_laws_eqSyn {q0:GSyn}{q1:GSyn}{r:Bool}(hS:SH w K [] w K [])(o:SliceAt tStr K A a b q0.From)(R:q0.To.length≤maxLen)(q:SliceAt tStr K B c d q1.From)(S:q1.To.length≤maxLen)(hm:M.laws_eqSyn F q0 q1=some r):
  Calls prog 77 #[.agg #[V3 A a b,sv q0.To],.agg #[V3 B c d,sv q1.To]] w (R_b w K r):=by
 rw [M.laws_eqSyn] at hm
 refine ci func77 u ntmps77 (sr (bx u hS fun s T x=>?_))
 have y:SH _ _ _ _ _ [obj s [V3 A a b,sv q0.To] 128]:=x
 refine bx u y fun C U D=>?_
 have i:SH _ _ _ _ _ [obj C [V3 B c d,sv q1.To] 128,_]:=D
 refine lv (r_f u) (nsr (fl ff128_0 u tf22 m1 i u (fl ff128_0 u tf22 m0 i u ?_)))
 obtain⟨V,G,H⟩:=ob hm
 refine lk co35 (ok_laws_eqStringS F i.enter0 o q G) ?_
 rintro W X ⟨k,rfl,I⟩
 have f:=(i.c0 I).t2
 refine lv (rv_not u) (nq (wcc H u (fun J l=>?_) (fun J l=>?_)))
 ·refine sr (lv (r_f u) (nq (rr ?_)))
  cases oi l
  exact ey results77 ⟨k,u,f.s⟩
 refine wc_skip (qs (sr (fl ff128_1 u tf9 m1 f u (fl ff128_1 u tf9 m0 f u (lv (rv_sneq u u) (nq (wcc l u (fun O m=>?_) (fun O m=>?_))))))))
 ·refine sr (lv (r_f u) (nq (rr ?_)))
  cases oi m
  exact ey results77 ⟨k,u,f.s⟩
 refine wc_skip (qr (lv (r_t u) (nq (wc_ret ?_))))
 cases oi m
 exact ey results77 ⟨k,u,f.s⟩

theorem ok_laws_eqSynS {q0:List GSyn}{q1:List GSyn}{r:Bool}(hS:SH w K [] w K [])(k:SliceAt tGSyn K A a b q0)(x:SliceAt tGSyn K B c d q1)(hm:M.laws_eqSynS F q0 q1=some r):
  Calls prog 36 #[V3 A a b,V3 B c d] w (R_b w K r):=by
 rw [M.laws_eqSynS] at hm
 refine ci func36 u ntmps36 (sr (lv (r_f u) (nsr (mv u (lv (rv_len underlying36 u k) (mv u (lv (rv_len underlying36 u x) (lv (rv_neq u u) (nq ?_)))))))))
 refine wc_cond u (fun l=>?_) (fun l=>?_)
 ·have m:=cond_t l hm
  refine sr (lv (r_f u) (nq (rr ?_)))
  cases oi m
  exact ey results36 ⟨K,u,hS⟩
 have m:=cond_f l hm
 refine wc_skip (qs (sr (lv (r_0 u) (nq ?_))))
 obtain⟨J,O,i⟩:=ob m
 refine wc_cutg (IE J w K [] K [] []) ?_ ?_
 ·refine wc_block ?_
  obtain⟨aG,R,y⟩:=ob O
  refine qw (fun (o:Int)=>IW w K [] K [(0,V3 A a b),(1,V3 B c d),(5,V6 o)] [] (rng64 o)) R ⟨K,u,hS,kr,d_0⟩ ?_
  rintro o _ aH aI S C ⟨T,rfl,D,f,aJ⟩
  refine wc_seq (sr (mv u (mv u (lv (rv_len underlying36 u (k.mono f)) (lv (rv_lss u u) (nq (wcc S u (fun U q=>?_) (fun U q=>?_))))))))
  ·refine wc_skip (qs (wc_block (wc_seq (wc_quiet mixed (by kernel_rfl) D (km u (km u ?_))))))
   obtain⟨V,W,X⟩:=ob q
   refine ki underlying36 tf128 (k.mono f) W fun Y aa aK ab ac=>?_
   obtain⟨ad,ae,af,rfl,ag,ah⟩:=ab
   have ai:AtK _ Y aa [V3 ad ae af,sv V.To]:=ac
   refine kh (rq_loadS tf128 u ai u) (km u (km u ?_))
   obtain⟨aj,ak,al⟩:=ob X
   refine ki underlying36 tf128 (x.mono f) ak fun am an aL ao ap=>?_
   obtain⟨aq,ar,au,rfl,aw,ax⟩:=ao
   have ay:AtK _ am an [V3 aq ar au,sv aj.To]:=ap
   refine kh (rq_loadS tf128 u ay u) ?_
   obtain⟨aM,az,aA⟩:=ob al
   refine kc co77 (fun _ _ aB G=>(ok_laws_eqSyn F) aB.enter0 (ag.mono G) ah (aw.mono G) ax az) (kv (rv_not u) (wq_nil ?_))
   rintro aN ⟨H,I,aC⟩
   refine qe_seq (wcc aA u (fun aD s=>?_) (fun aD s=>?_))
   ·refine sr (lv (r_f u) (nq (wc_ret (qe_block_ret (qe_then_ret (qe_then_ret ?_))))))
    cases oi s
    cases C _ u
    refine qe_block_ret (qe_then_ret ?_)
    cases oi y
    refine qe_then_ret ?_
    cases oi i
    exact ey results36 ⟨H,u,I⟩
   refine wc_skip (qe_block (qe_seq (wc_region (mv u (lv (rv_add u u) (av u (wl_nil ?_)))))))
   cases oi s
   exact qd ⟨_,u,H,u,I,(f.trans aC),(w64_rng _)⟩
  refine wc_exit (qe_then_exit (qe_then_exit ?_))
  cases oi q
  cases C _ u
  refine qe_block_eq ?_
  cases oi y
  exact qe_mid' ⟨_,T,u,u,D,f⟩ trivial
 rintro _ aO ⟨aP,aE,rfl,rfl,aF,aQ⟩
 have i:=elim_l i
 refine qr (lv (r_t u) (nq (wc_ret ?_)))
 cases oi i
 exact ey results36 ⟨aE,u,aF⟩

theorem ok_laws_eqConf {q0:GConf}{q1:GConf}{r:Bool}(hS:SH w K [] w K [])(H:SliceAt tStr K A a b q0.Stops)(I:SliceAt tGSyn K B c d q0.Syns)(J:SliceAt tStr K C f i q1.Stops)(O:SliceAt tGSyn K D k l q1.Syns)(hm:M.laws_eqConf F q0 q1=some r):
  Calls prog 11 #[.agg #[V3 A a b,V3 B c d],.agg #[V3 C f i,V3 D k l]] w (R_b w K r):=by
 rw [M.laws_eqConf] at hm
 refine ci func11 u ntmps11 (sr (bx u hS fun R af S=>?_))
 have T:SH _ _ _ _ _ [obj R [V3 A a b,V3 B c d] 38]:=S
 refine bx u T fun U ag V=>?_
 have o:SH _ _ _ _ _ [obj U [V3 C f i,V3 D k l] 38,_]:=V
 refine lv (r_f u) (nsr (fl ff38_0 u tf22 m1 o u (fl ff38_0 u tf22 m0 o u ?_)))
 obtain⟨ah,W,X⟩:=ob hm
 refine lk co35 (ok_laws_eqStringS F o.enter0 H J W) ?_
 rintro ai aj ⟨Y,rfl,q⟩
 have m:=(o.c0 q).t2
 refine lv (rv_not u) (nq (wcc X u (fun aa s=>?_) (fun aa s=>?_)))
 ·refine sr (lv (r_f u) (nq (rr ?_)))
  cases oi s
  exact ey results11 ⟨Y,u,m.s⟩
 refine wc_skip (qs (sr (fl ff38_1 u tf36 m1 m u (fl ff38_1 u tf36 m0 m u ?_))))
 obtain⟨ak,ab,ac⟩:=ob s
 refine lk co36 (ok_laws_eqSynS F m.enter0 (I.mono q.le) (O.mono q.le) ab) ?_
 rintro al am ⟨y,rfl,ad⟩
 have G:=(m.c0 ad).t2
 refine lv (rv_not u) (nq (wcc ac u (fun ae x=>?_) (fun ae x=>?_)))
 ·refine sr (lv (r_f u) (nq (rr ?_)))
  cases oi x
  exact ey results11 ⟨y,u,G.s⟩
 refine wc_skip (qr (lv (r_t u) (nq (wc_ret ?_))))
 cases oi x
 exact ey results11 ⟨y,u,G.s⟩

theorem ok_laws_eqField {q0:GField}{q1:GField}{r:Bool}(hS:SH w K [] w K [])(q:q0.Name.length≤maxLen)(s:q0.Text.length≤maxLen)(x:q1.Name.length≤maxLen)(y:q1.Text.length≤maxLen)(hm:M.laws_eqField F q0 q1=some r):
  Calls prog 219 #[.agg #[sv q0.Name,sv q0.Text],.agg #[sv q1.Name,sv q1.Text]] w (R_b w K r):=by
 rw [M.laws_eqField] at hm
 refine ci func219 u ntmps219 (sr (bx u hS fun f A i=>?_))
 have k:SH _ _ _ _ _ [obj f [sv q0.Name,sv q0.Text] 118]:=i
 refine bx u k fun l B m=>?_
 have a:SH _ _ _ _ _ [obj l [sv q1.Name,sv q1.Text] 118,_]:=m
 refine lv (r_f u) (nsr (fl ff118_0 u tf9 m1 a u (fl ff118_0 u tf9 m0 a u (lv (rv_sneq u u) (nq (wc_cond u (fun b=>?_) (fun b=>?_)))))))
 ·have c:=cond_t b hm
  refine sr (lv (r_f u) (nq (rr ?_)))
  cases oi c
  exact ey results219 ⟨K,u,a.s⟩
 have c:=cond_f b hm
 refine wc_skip (qs (sr (fl ff118_1 u tf9 m1 a u (fl ff118_1 u tf9 m0 a u (lv (rv_sneq u u) (nq (wcc c u (fun o d=>?_) (fun o d=>?_))))))))
 ·refine sr (lv (r_f u) (nq (rr ?_)))
  cases oi d
  exact ey results219 ⟨K,u,a.s⟩
 refine wc_skip (qr (lv (r_t u) (nq (wc_ret ?_))))
 cases oi d
 exact ey results219 ⟨K,u,a.s⟩

theorem ok_laws_eqFieldS {q0:List GField}{q1:List GField}{r:Bool}(hS:SH w K [] w K [])(k:SliceAt tGField K A a b q0)(x:SliceAt tGField K B c d q1)(hm:M.laws_eqFieldS F q0 q1=some r):
  Calls prog 172 #[V3 A a b,V3 B c d] w (R_b w K r):=by
 rw [M.laws_eqFieldS] at hm
 refine ci func172 u ntmps172 (sr (lv (r_f u) (nsr (mv u (lv (rv_len underlying61 u k) (mv u (lv (rv_len underlying61 u x) (lv (rv_neq u u) (nq ?_)))))))))
 refine wc_cond u (fun l=>?_) (fun l=>?_)
 ·have m:=cond_t l hm
  refine sr (lv (r_f u) (nq (rr ?_)))
  cases oi m
  exact ey results172 ⟨K,u,hS⟩
 have m:=cond_f l hm
 refine wc_skip (qs (sr (lv (r_0 u) (nq ?_))))
 obtain⟨O,R,i⟩:=ob m
 refine wc_cutg (IE O w K [] K [] []) ?_ ?_
 ·refine wc_block ?_
  obtain⟨az,S,y⟩:=ob R
  refine qw (fun (o:Int)=>IW w K [] K [(0,V3 A a b),(1,V3 B c d),(5,V6 o)] [] (rng64 o)) S ⟨K,u,hS,kr,d_0⟩ ?_
  rintro o _ aA aB T C ⟨U,rfl,D,f,aC⟩
  refine wc_seq (sr (mv u (mv u (lv (rv_len underlying61 u (k.mono f)) (lv (rv_lss u u) (nq (wcc T u (fun V q=>?_) (fun V q=>?_))))))))
  ·refine wc_skip (qs (wc_block (wc_seq (wc_quiet mixed (by kernel_rfl) D (km u (km u ?_))))))
   obtain⟨G,W,X⟩:=ob q
   refine ki underlying61 tf118 (k.mono f) W fun Y aa aD ab ac=>?_
   obtain⟨rfl,ad,ae⟩:=ab
   have af:AtK _ Y aa [sv G.Name,sv G.Text]:=ac
   refine kh (rq_loadS tf118 u af u) (km u (km u ?_))
   obtain⟨H,ag,ah⟩:=ob X
   refine ki underlying61 tf118 (x.mono f) ag fun ai aj aE ak al=>?_
   obtain⟨rfl,am,an⟩:=ak
   have ao:AtK _ ai aj [sv H.Name,sv H.Text]:=al
   refine kh (rq_loadS tf118 u ao u) ?_
   obtain⟨aF,ap,aq⟩:=ob ah
   refine kc co219 (fun _ _ ar aG=>(ok_laws_eqField F) ar.enter0 ad ae am an ap) (kv (rv_not u) (wq_nil ?_))
   rintro aH ⟨I,J,au⟩
   refine qe_seq (wcc aq u (fun aw s=>?_) (fun aw s=>?_))
   ·refine sr (lv (r_f u) (nq (wc_ret (qe_block_ret (qe_then_ret (qe_then_ret ?_))))))
    cases oi s
    cases C _ u
    refine qe_block_ret (qe_then_ret ?_)
    cases oi y
    refine qe_then_ret ?_
    cases oi i
    exact ey results172 ⟨I,u,J⟩
   refine wc_skip (qe_block (qe_seq (wc_region (mv u (lv (rv_add u u) (av u (wl_nil ?_)))))))
   cases oi s
   exact qd ⟨_,u,I,u,J,(f.trans au),(w64_rng _)⟩
  refine wc_exit (qe_then_exit (qe_then_exit ?_))
  cases oi q
  cases C _ u
  refine qe_block_eq ?_
  cases oi y
  exact qe_mid' ⟨_,U,u,u,D,f⟩ trivial
 rintro _ aI ⟨aJ,ax,rfl,rfl,ay,aK⟩
 have i:=elim_l i
 refine qr (lv (r_t u) (nq (wc_ret ?_)))
 cases oi i
 exact ey results172 ⟨ax,u,ay⟩

theorem ok_laws_eqAttr {q0:GAttr}{q1:GAttr}{r:Bool}(hS:SH w K [] w K [])(q:q0.Name.length≤maxLen)(s:rng64 q0.Num)(x:q1.Name.length≤maxLen)(y:rng64 q1.Num)(hm:M.laws_eqAttr F q0 q1=some r):
  Calls prog 220 #[.agg #[sv q0.Name,V6 q0.Num],.agg #[sv q1.Name,V6 q1.Num]] w (R_b w K r):=by
 rw [M.laws_eqAttr] at hm
 refine ci func220 u ntmps220 (sr (bx u hS fun f A i=>?_))
 have k:SH _ _ _ _ _ [obj f [sv q0.Name,V6 q0.Num] 135]:=i
 refine bx u k fun l B m=>?_
 have a:SH _ _ _ _ _ [obj l [sv q1.Name,V6 q1.Num] 135,_]:=m
 refine lv (r_f u) (nsr (fl ff135_0 u tf9 m1 a u (fl ff135_0 u tf9 m0 a u (lv (rv_sneq u u) (nq (wc_cond u (fun b=>?_) (fun b=>?_)))))))
 ·have c:=cond_t b hm
  refine sr (lv (r_f u) (nq (rr ?_)))
  cases oi c
  exact ey results220 ⟨K,u,a.s⟩
 have c:=cond_f b hm
 refine wc_skip (qs (sr (fl ff135_1 u tf3 m1 a u (fl ff135_1 u tf3 m0 a u (lv (rv_neq u u) (nq (wcc c u (fun o d=>?_) (fun o d=>?_))))))))
 ·refine sr (lv (r_f u) (nq (rr ?_)))
  cases oi d
  exact ey results220 ⟨K,u,a.s⟩
 refine wc_skip (qr (lv (r_t u) (nq (wc_ret ?_))))
 cases oi d
 exact ey results220 ⟨K,u,a.s⟩

theorem ok_laws_eqAttrS {q0:List GAttr}{q1:List GAttr}{r:Bool}(hS:SH w K [] w K [])(k:SliceAt tGAttr K A a b q0)(x:SliceAt tGAttr K B c d q1)(hm:M.laws_eqAttrS F q0 q1=some r):
  Calls prog 173 #[V3 A a b,V3 B c d] w (R_b w K r):=by
 rw [M.laws_eqAttrS] at hm
 refine ci func173 u ntmps173 (sr (lv (r_f u) (nsr (mv u (lv (rv_len underlying62 u k) (mv u (lv (rv_len underlying62 u x) (lv (rv_neq u u) (nq ?_)))))))))
 refine wc_cond u (fun l=>?_) (fun l=>?_)
 ·have m:=cond_t l hm
  refine sr (lv (r_f u) (nq (rr ?_)))
  cases oi m
  exact ey results173 ⟨K,u,hS⟩
 have m:=cond_f l hm
 refine wc_skip (qs (sr (lv (r_0 u) (nq ?_))))
 obtain⟨O,R,i⟩:=ob m
 refine wc_cutg (IE O w K [] K [] []) ?_ ?_
 ·refine wc_block ?_
  obtain⟨az,S,y⟩:=ob R
  refine qw (fun (o:Int)=>IW w K [] K [(0,V3 A a b),(1,V3 B c d),(5,V6 o)] [] (rng64 o)) S ⟨K,u,hS,kr,d_0⟩ ?_
  rintro o _ aA aB T C ⟨U,rfl,D,f,aC⟩
  refine wc_seq (sr (mv u (mv u (lv (rv_len underlying62 u (k.mono f)) (lv (rv_lss u u) (nq (wcc T u (fun V q=>?_) (fun V q=>?_))))))))
  ·refine wc_skip (qs (wc_block (wc_seq (wc_quiet mixed (by kernel_rfl) D (km u (km u ?_))))))
   obtain⟨G,W,X⟩:=ob q
   refine ki underlying62 tf135 (k.mono f) W fun Y aa aD ab ac=>?_
   obtain⟨rfl,ad,ae⟩:=ab
   have af:AtK _ Y aa [sv G.Name,V6 G.Num]:=ac
   refine kh (rq_loadS tf135 u af u) (km u (km u ?_))
   obtain⟨H,ag,ah⟩:=ob X
   refine ki underlying62 tf135 (x.mono f) ag fun ai aj aE ak al=>?_
   obtain⟨rfl,am,an⟩:=ak
   have ao:AtK _ ai aj [sv H.Name,V6 H.Num]:=al
   refine kh (rq_loadS tf135 u ao u) ?_
   obtain⟨aF,ap,aq⟩:=ob ah
   refine kc co220 (fun _ _ ar aG=>(ok_laws_eqAttr F) ar.enter0 ad ae am an ap) (kv (rv_not u) (wq_nil ?_))
   rintro aH ⟨I,J,au⟩
   refine qe_seq (wcc aq u (fun aw s=>?_) (fun aw s=>?_))
   ·refine sr (lv (r_f u) (nq (wc_ret (qe_block_ret (qe_then_ret (qe_then_ret ?_))))))
    cases oi s
    cases C _ u
    refine qe_block_ret (qe_then_ret ?_)
    cases oi y
    refine qe_then_ret ?_
    cases oi i
    exact ey results173 ⟨I,u,J⟩
   refine wc_skip (qe_block (qe_seq (wc_region (mv u (lv (rv_add u u) (av u (wl_nil ?_)))))))
   cases oi s
   exact qd ⟨_,u,I,u,J,(f.trans au),(w64_rng _)⟩
  refine wc_exit (qe_then_exit (qe_then_exit ?_))
  cases oi q
  cases C _ u
  refine qe_block_eq ?_
  cases oi y
  exact qe_mid' ⟨_,U,u,u,D,f⟩ trivial
 rintro _ aI ⟨aJ,ax,rfl,rfl,ay,aK⟩
 have i:=elim_l i
 refine qr (lv (r_t u) (nq (wc_ret ?_)))
 cases oi i
 exact ey results173 ⟨ax,u,ay⟩

theorem ok_laws_eqDoc {q0:GDoc}{q1:GDoc}{r:Bool}(hS:SH w K [] w K [])(ah:rng64 q0.Id)(J:SliceAt tGField K A a b q0.Fields)(O:SliceAt tGAttr K B c d q0.Nums)(ai:rng64 q1.Id)(R:SliceAt tGField K C f i q1.Fields)(S:SliceAt tGAttr K D k l q1.Nums)(hm:M.laws_eqDoc F q0 q1=some r):
  Calls prog 127 #[.agg #[V6 q0.Id,V3 A a b,V3 B c d],.agg #[V6 q1.Id,V3 C f i,V3 D k l]] w (R_b w K r):=by
 rw [M.laws_eqDoc] at hm
 refine ci func127 u ntmps127 (sr (bx u hS fun T aj U=>?_))
 have V:SH _ _ _ _ _ [obj T [V6 q0.Id,V3 A a b,V3 B c d] 64]:=U
 refine bx u V fun W ak X=>?_
 have m:SH _ _ _ _ _ [obj W [V6 q1.Id,V3 C f i,V3 D k l] 64,_]:=X
 refine lv (r_f u) (nsr (fl ff64_0 u tf3 m1 m u (fl ff64_0 u tf3 m0 m u (lv (rv_neq u u) (nq (wc_cond u (fun q=>?_) (fun q=>?_)))))))
 ·have s:=cond_t q hm
  refine sr (lv (r_f u) (nq (rr ?_)))
  cases oi s
  exact ey results127 ⟨K,u,m.s⟩
 have s:=cond_f q hm
 refine wc_skip (qs (sr (fl ff64_1 u tf61 m1 m u (fl ff64_1 u tf61 m0 m u ?_))))
 obtain⟨al,Y,aa⟩:=ob s
 refine lk co172 (ok_laws_eqFieldS F m.enter0 J R Y) ?_
 rintro am an ⟨ab,rfl,x⟩
 have o:=(m.c0 x).t2
 refine lv (rv_not u) (nq (wcc aa u (fun ac y=>?_) (fun ac y=>?_)))
 ·refine sr (lv (r_f u) (nq (rr ?_)))
  cases oi y
  exact ey results127 ⟨ab,u,o.s⟩
 refine wc_skip (qs (sr (fl ff64_2 u tf62 m1 o u (fl ff64_2 u tf62 m0 o u ?_))))
 obtain⟨ao,ad,ae⟩:=ob y
 refine lk co173 (ok_laws_eqAttrS F o.enter0 (O.mono x.le) (S.mono x.le) ad) ?_
 rintro ap aq ⟨H,rfl,af⟩
 have I:=(o.c0 af).t2
 refine lv (rv_not u) (nq (wcc ae u (fun ag G=>?_) (fun ag G=>?_)))
 ·refine sr (lv (r_f u) (nq (rr ?_)))
  cases oi G
  exact ey results127 ⟨H,u,I.s⟩
 refine wc_skip (qr (lv (r_t u) (nq (wc_ret ?_))))
 cases oi G
 exact ey results127 ⟨H,u,I.s⟩
end Go.Proofs.YtpdfkjjmcnhakaaGreatDoor
