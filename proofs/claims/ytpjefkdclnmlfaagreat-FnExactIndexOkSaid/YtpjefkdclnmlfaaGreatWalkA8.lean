/-
 Walks of the functions. Printed by gen.py.
-/
import Derived.Test.YtpjefkdclnmlfaaGreatWalkA1
import Derived.Test.YtpjefkdclnmlfaaGreatWalkA3
import Derived.Test.YtpjefkdclnmlfaaGreatWalkA4
import Derived.Test.YtpjefkdclnmlfaaGreatWalkA7
set_option linter.unusedVariables false
set_option linter.unusedSectionVars false
set_option maxRecDepth 100000
namespace Go.Proofs.YtpjefkdclnmlfaaGreat
set_option maxHeartbeats 4000000
open Go Go.Fk Go.RowKit Tryz
variable (F:Nat){w:World}{K:KMap}{Z:List Nat}{g1 g2 g3:Nat}{A B C D G H I J O R S T:Option Addr}{a b c d f i k l m n o p q s v x y aa ab ac ad ae af ag:Nat}
variable [dr:Dr]

theorem ok_laws_eqIntS {q0:List Int}{q1:List Int}{r:Bool}(hS:SH w K [] w K [])(k:SliceAt tInt K A a b q0)(x:SliceAt tInt K B c d q1)(hm:M.laws_eqIntS F q0 q1=some r):
  Calls prog 166 #[V3 A a b,V3 B c d] w (R_b w K r):=by
 rw [M.laws_eqIntS] at hm
 refine ci func166 u ntmps166 (sr (lv (r_f u) (nsr (mv u (lv (rv_len underlying71 u k) (mv u (lv (rv_len underlying71 u x) (lv (rv_neq u u) (nq ?_)))))))))
 refine wc_cond u (fun l=>?_) (fun l=>?_)
 ·have m:=cond_t l hm
  refine sr (lv (r_f u) (nq (rr ?_)))
  cases oi m
  exact ey results166 ⟨K,u,hS⟩
 have m:=cond_f l hm
 refine wc_skip (qs (sr (lv (r_0 u) (nq ?_))))
 obtain⟨I,J,i⟩:=ob m
 refine wc_cutg (IE I w K [] K [] []) ?_ ?_
 ·refine wc_block ?_
  obtain⟨ap,O,y⟩:=ob J
  refine qw (fun (o:Int)=>IW w K [] K [(0,V3 A a b),(1,V3 B c d),(5,V6 o)] [] (rng64 o)) O ⟨K,u,hS,kr,d_0⟩ ?_
  rintro o _ aq ar R C ⟨S,rfl,D,f,au⟩
  refine wc_seq (sr (mv u (mv u (lv (rv_len underlying71 u (k.mono f)) (lv (rv_lss u u) (nq (wcc R u (fun T q=>?_) (fun T q=>?_))))))))
  ·refine wc_skip (qs (wc_block (wc_seq (wc_quiet mixed (by kernel_rfl) D (km u (km u ?_))))))
   obtain⟨U,V,W⟩:=ob q
   refine ki underlying71 tf3 (k.mono f) V fun X Y aw aa ab=>?_
   obtain⟨rfl,ax⟩:=aa
   have ac:AtK _ X Y [V6 U]:=ab
   refine kh (rq_load1 tf3 u (ac 0 _ u)) (km u (km u ?_))
   obtain⟨ad,ae,af⟩:=ob W
   refine ki underlying71 tf3 (x.mono f) ae fun ag ah ay ai aj=>?_
   obtain⟨rfl,az⟩:=ai
   have ak:AtK _ ag ah [V6 ad]:=aj
   refine kh (rq_load1 tf3 u (ak 0 _ u)) (kv (rv_neq u u) (wq_nil ?_))
   rintro aA ⟨G,H,al⟩
   refine qe_seq (wcc af u (fun am s=>?_) (fun am s=>?_))
   ·refine sr (lv (r_f u) (nq (wc_ret (qe_block_ret (qe_then_ret (qe_then_ret ?_))))))
    cases oi s
    cases C _ u
    refine qe_block_ret (qe_then_ret ?_)
    cases oi y
    refine qe_then_ret ?_
    cases oi i
    exact ey results166 ⟨G,u,H⟩
   refine wc_skip (qe_block (qe_seq (wc_region (mv u (lv (rv_add u u) (av u (wl_nil ?_)))))))
   cases oi s
   exact qd ⟨_,u,G,u,H,(f.trans al),(w64_rng _)⟩
  refine wc_exit (qe_then_exit (qe_then_exit ?_))
  cases oi q
  cases C _ u
  refine qe_block_eq ?_
  cases oi y
  exact qe_mid' ⟨_,S,u,u,D,f⟩ trivial
 rintro _ aB ⟨aC,an,rfl,rfl,ao,aD⟩
 have i:=elim_l i
 refine qr (lv (r_t u) (nq (wc_ret ?_)))
 cases oi i
 exact ey results166 ⟨an,u,ao⟩

theorem ok_laws_eqPost {q0:GPost}{q1:GPost}{r:Bool}(hS:SH w K [] w K [])(R:rng64 q0.Doc)(q:SliceAt tInt K A a b q0.At)(S:rng64 q1.Doc)(s:SliceAt tInt K B c d q1.At)(hm:M.laws_eqPost F q0 q1=some r):
  Calls prog 96 #[.agg #[V6 q0.Doc,V3 A a b],.agg #[V6 q1.Doc,V3 B c d]] w (R_b w K r):=by
 rw [M.laws_eqPost] at hm
 refine ci func96 u ntmps96 (sr (bx u hS fun x T y=>?_))
 have C:SH _ _ _ _ _ [obj x [V6 q0.Doc,V3 A a b] 134]:=y
 refine bx u C fun D U G=>?_
 have f:SH _ _ _ _ _ [obj D [V6 q1.Doc,V3 B c d] 134,_]:=G
 refine lv (r_f u) (nsr (fl ff134_0 u tf3 m1 f u (fl ff134_0 u tf3 m0 f u (lv (rv_neq u u) (nq (wc_cond u (fun i=>?_) (fun i=>?_)))))))
 ·have k:=cond_t i hm
  refine sr (lv (r_f u) (nq (rr ?_)))
  cases oi k
  exact ey results96 ⟨K,u,f.s⟩
 have k:=cond_f i hm
 refine wc_skip (qs (sr (fl ff134_1 u tf71 m1 f u (fl ff134_1 u tf71 m0 f u ?_))))
 obtain⟨V,H,I⟩:=ob k
 refine lk co166 (ok_laws_eqIntS F f.enter0 q s H) ?_
 rintro W X ⟨m,rfl,J⟩
 have o:=(f.c0 J).t2
 refine lv (rv_not u) (nq (wcc I u (fun O l=>?_) (fun O l=>?_)))
 ·refine sr (lv (r_f u) (nq (rr ?_)))
  cases oi l
  exact ey results96 ⟨m,u,o.s⟩
 refine wc_skip (qr (lv (r_t u) (nq (wc_ret ?_))))
 cases oi l
 exact ey results96 ⟨m,u,o.s⟩

theorem ok_laws_eqPostS {q0:List GPost}{q1:List GPost}{r:Bool}(hS:SH w K [] w K [])(k:SliceAt tGPost K A a b q0)(x:SliceAt tGPost K B c d q1)(hm:M.laws_eqPostS F q0 q1=some r):
  Calls prog 33 #[V3 A a b,V3 B c d] w (R_b w K r):=by
 rw [M.laws_eqPostS] at hm
 refine ci func33 u ntmps33 (sr (lv (r_f u) (nsr (mv u (lv (rv_len underlying61 u k) (mv u (lv (rv_len underlying61 u x) (lv (rv_neq u u) (nq ?_)))))))))
 refine wc_cond u (fun l=>?_) (fun l=>?_)
 ·have m:=cond_t l hm
  refine sr (lv (r_f u) (nq (rr ?_)))
  cases oi m
  exact ey results33 ⟨K,u,hS⟩
 have m:=cond_f l hm
 refine wc_skip (qs (sr (lv (r_0 u) (nq ?_))))
 obtain⟨J,O,i⟩:=ob m
 refine wc_cutg (IE J w K [] K [] []) ?_ ?_
 ·refine wc_block ?_
  obtain⟨aG,R,y⟩:=ob O
  refine qw (fun (o:Int)=>IW w K [] K [(0,V3 A a b),(1,V3 B c d),(5,V6 o)] [] (rng64 o)) R ⟨K,u,hS,kr,d_0⟩ ?_
  rintro o _ aH aI S C ⟨T,rfl,D,f,aJ⟩
  refine wc_seq (sr (mv u (mv u (lv (rv_len underlying61 u (k.mono f)) (lv (rv_lss u u) (nq (wcc S u (fun U q=>?_) (fun U q=>?_))))))))
  ·refine wc_skip (qs (wc_block (wc_seq (wc_quiet mixed (by kernel_rfl) D (km u (km u ?_))))))
   obtain⟨V,W,X⟩:=ob q
   refine ki underlying61 tf134 (k.mono f) W fun Y aa aK ab ac=>?_
   obtain⟨ad,ae,af,rfl,ag,ah⟩:=ab
   have ai:AtK _ Y aa [V6 V.Doc,V3 ad ae af]:=ac
   refine kh (rq_loadS tf134 u ai u) (km u (km u ?_))
   obtain⟨aj,ak,al⟩:=ob X
   refine ki underlying61 tf134 (x.mono f) ak fun am an aL ao ap=>?_
   obtain⟨aq,ar,au,rfl,aw,ax⟩:=ao
   have ay:AtK _ am an [V6 aj.Doc,V3 aq ar au]:=ap
   refine kh (rq_loadS tf134 u ay u) ?_
   obtain⟨aM,az,aA⟩:=ob al
   refine kc co96 (fun _ _ aB G=>(ok_laws_eqPost F) aB.enter0 ag (ah.mono G) aw (ax.mono G) az) (kv (rv_not u) (wq_nil ?_))
   rintro aN ⟨H,I,aC⟩
   refine qe_seq (wcc aA u (fun aD s=>?_) (fun aD s=>?_))
   ·refine sr (lv (r_f u) (nq (wc_ret (qe_block_ret (qe_then_ret (qe_then_ret ?_))))))
    cases oi s
    cases C _ u
    refine qe_block_ret (qe_then_ret ?_)
    cases oi y
    refine qe_then_ret ?_
    cases oi i
    exact ey results33 ⟨H,u,I⟩
   refine wc_skip (qe_block (qe_seq (wc_region (mv u (lv (rv_add u u) (av u (wl_nil ?_)))))))
   cases oi s
   exact qd ⟨_,u,H,u,I,(f.trans aC),(w64_rng _)⟩
  refine wc_exit (qe_then_exit (qe_then_exit ?_))
  cases oi q
  cases C _ u
  refine qe_block_eq ?_
  cases oi y
  exact qe_mid' ⟨_,T,u,u,D,f⟩ trivial
 rintro _ aO ⟨aP,aE,rfl,rfl,aF,aQ⟩
 have i:=elim_l i
 refine qr (lv (r_t u) (nq (wc_ret ?_)))
 cases oi i
 exact ey results33 ⟨aE,u,aF⟩

theorem ok_laws_eqEntry {q0:GEntry}{q1:GEntry}{r:Bool}(hS:SH w K [] w K [])(T:q0.Field.length≤maxLen)(U:q0.Term.length≤maxLen)(s:SliceAt tGPost K A a b q0.Posts)(V:q1.Field.length≤maxLen)(W:q1.Term.length≤maxLen)(x:SliceAt tGPost K B c d q1.Posts)(hm:M.laws_eqEntry F q0 q1=some r):
  Calls prog 156 #[.agg #[sv q0.Field,sv q0.Term,V3 A a b],.agg #[sv q1.Field,sv q1.Term,V3 B c d]] w (R_b w K r):=by
 rw [M.laws_eqEntry] at hm
 refine ci func156 u ntmps156 (sr (bx u hS fun y X C=>?_))
 have D:SH _ _ _ _ _ [obj y [sv q0.Field,sv q0.Term,V3 A a b] 116]:=C
 refine bx u D fun G Y H=>?_
 have f:SH _ _ _ _ _ [obj G [sv q1.Field,sv q1.Term,V3 B c d] 116,_]:=H
 refine lv (r_f u) (nsr (fl ff116_0 u tf9 m1 f u (fl ff116_0 u tf9 m0 f u (lv (rv_sneq u u) (nq (wc_cond u (fun i=>?_) (fun i=>?_)))))))
 ·have k:=cond_t i hm
  refine sr (lv (r_f u) (nq (rr ?_)))
  cases oi k
  exact ey results156 ⟨K,u,f.s⟩
 have k:=cond_f i hm
 refine wc_skip (qs (sr (fl ff116_1 u tf9 m1 f u (fl ff116_1 u tf9 m0 f u (lv (rv_sneq u u) (nq (wcc k u (fun I l=>?_) (fun I l=>?_))))))))
 ·refine sr (lv (r_f u) (nq (rr ?_)))
  cases oi l
  exact ey results156 ⟨K,u,f.s⟩
 refine wc_skip (qs (sr (fl ff116_2 u tf61 m1 f u (fl ff116_2 u tf61 m0 f u ?_))))
 obtain⟨aa,J,O⟩:=ob l
 refine lk co33 (ok_laws_eqPostS F f.enter0 s x J) ?_
 rintro ab ac ⟨o,rfl,R⟩
 have q:=(f.c0 R).t2
 refine lv (rv_not u) (nq (wcc O u (fun S m=>?_) (fun S m=>?_)))
 ·refine sr (lv (r_f u) (nq (rr ?_)))
  cases oi m
  exact ey results156 ⟨o,u,q.s⟩
 refine wc_skip (qr (lv (r_t u) (nq (wc_ret ?_))))
 cases oi m
 exact ey results156 ⟨o,u,q.s⟩

theorem ok_laws_eqEntryS {q0:List GEntry}{q1:List GEntry}{r:Bool}(hS:SH w K [] w K [])(k:SliceAt tGEntry K A a b q0)(x:SliceAt tGEntry K B c d q1)(hm:M.laws_eqEntryS F q0 q1=some r):
  Calls prog 79 #[V3 A a b,V3 B c d] w (R_b w K r):=by
 rw [M.laws_eqEntryS] at hm
 refine ci func79 u ntmps79 (sr (lv (r_f u) (nsr (mv u (lv (rv_len underlying44 u k) (mv u (lv (rv_len underlying44 u x) (lv (rv_neq u u) (nq ?_)))))))))
 refine wc_cond u (fun l=>?_) (fun l=>?_)
 ·have m:=cond_t l hm
  refine sr (lv (r_f u) (nq (rr ?_)))
  cases oi m
  exact ey results79 ⟨K,u,hS⟩
 have m:=cond_f l hm
 refine wc_skip (qs (sr (lv (r_0 u) (nq ?_))))
 obtain⟨R,S,i⟩:=ob m
 refine wc_cutg (IE R w K [] K [] []) ?_ ?_
 ·refine wc_block ?_
  obtain⟨aI,T,y⟩:=ob S
  refine qw (fun (o:Int)=>IW w K [] K [(0,V3 A a b),(1,V3 B c d),(5,V6 o)] [] (rng64 o)) T ⟨K,u,hS,kr,d_0⟩ ?_
  rintro o _ aJ aK U C ⟨V,rfl,D,f,aL⟩
  refine wc_seq (sr (mv u (mv u (lv (rv_len underlying44 u (k.mono f)) (lv (rv_lss u u) (nq (wcc U u (fun W q=>?_) (fun W q=>?_))))))))
  ·refine wc_skip (qs (wc_block (wc_seq (wc_quiet mixed (by kernel_rfl) D (km u (km u ?_))))))
   obtain⟨G,X,Y⟩:=ob q
   refine ki underlying44 tf116 (k.mono f) X fun aa ab aM ac ad=>?_
   obtain⟨ae,af,ag,rfl,ah,ai,aj⟩:=ac
   have ak:AtK _ aa ab [sv G.Field,sv G.Term,V3 ae af ag]:=ad
   refine kh (rq_loadS tf116 u ak u) (km u (km u ?_))
   obtain⟨H,al,am⟩:=ob Y
   refine ki underlying44 tf116 (x.mono f) al fun an ao aN ap aq=>?_
   obtain⟨ar,au,aw,rfl,ax,ay,az⟩:=ap
   have aA:AtK _ an ao [sv H.Field,sv H.Term,V3 ar au aw]:=aq
   refine kh (rq_loadS tf116 u aA u) ?_
   obtain⟨aO,aB,aC⟩:=ob am
   refine kc co156 (fun _ _ aD I=>(ok_laws_eqEntry F) aD.enter0 ah ai (aj.mono I) ax ay (az.mono I) aB) (kv (rv_not u) (wq_nil ?_))
   rintro aP ⟨J,O,aE⟩
   refine qe_seq (wcc aC u (fun aF s=>?_) (fun aF s=>?_))
   ·refine sr (lv (r_f u) (nq (wc_ret (qe_block_ret (qe_then_ret (qe_then_ret ?_))))))
    cases oi s
    cases C _ u
    refine qe_block_ret (qe_then_ret ?_)
    cases oi y
    refine qe_then_ret ?_
    cases oi i
    exact ey results79 ⟨J,u,O⟩
   refine wc_skip (qe_block (qe_seq (wc_region (mv u (lv (rv_add u u) (av u (wl_nil ?_)))))))
   cases oi s
   exact qd ⟨_,u,J,u,O,(f.trans aE),(w64_rng _)⟩
  refine wc_exit (qe_then_exit (qe_then_exit ?_))
  cases oi q
  cases C _ u
  refine qe_block_eq ?_
  cases oi y
  exact qe_mid' ⟨_,V,u,u,D,f⟩ trivial
 rintro _ aQ ⟨aR,aG,rfl,rfl,aH,aS⟩
 have i:=elim_l i
 refine qr (lv (r_t u) (nq (wc_ret ?_)))
 cases oi i
 exact ey results79 ⟨aG,u,aH⟩

theorem ok_laws_eqSeg {q0:GSeg}{q1:GSeg}{r:Bool}(hS:SH w K [] w K [])(H:SliceAt tGDoc K A a b q0.Docs)(I:SliceAt tGEntry K B c d q0.Entries)(J:SliceAt tGDoc K C f i q1.Docs)(O:SliceAt tGEntry K D k l q1.Entries)(hm:M.laws_eqSeg F q0 q1=some r):
  Calls prog 22 #[.agg #[V3 A a b,V3 B c d],.agg #[V3 C f i,V3 D k l]] w (R_b w K r):=by
 rw [M.laws_eqSeg] at hm
 refine ci func22 u ntmps22 (sr (bx u hS fun R af S=>?_))
 have T:SH _ _ _ _ _ [obj R [V3 A a b,V3 B c d] 46]:=S
 refine bx u T fun U ag V=>?_
 have o:SH _ _ _ _ _ [obj U [V3 C f i,V3 D k l] 46,_]:=V
 refine lv (r_f u) (nsr (fl ff46_0 u tf43 m1 o u (fl ff46_0 u tf43 m0 o u ?_)))
 obtain⟨ah,W,X⟩:=ob hm
 refine lk co24 (ok_laws_eqDocS F o.enter0 H J W) ?_
 rintro ai aj ⟨Y,rfl,q⟩
 have m:=(o.c0 q).t2
 refine lv (rv_not u) (nq (wcc X u (fun aa s=>?_) (fun aa s=>?_)))
 ·refine sr (lv (r_f u) (nq (rr ?_)))
  cases oi s
  exact ey results22 ⟨Y,u,m.s⟩
 refine wc_skip (qs (sr (fl ff46_1 u tf44 m1 m u (fl ff46_1 u tf44 m0 m u ?_))))
 obtain⟨ak,ab,ac⟩:=ob s
 refine lk co79 (ok_laws_eqEntryS F m.enter0 (I.mono q.le) (O.mono q.le) ab) ?_
 rintro al am ⟨y,rfl,ad⟩
 have G:=(m.c0 ad).t2
 refine lv (rv_not u) (nq (wcc ac u (fun ae x=>?_) (fun ae x=>?_)))
 ·refine sr (lv (r_f u) (nq (rr ?_)))
  cases oi x
  exact ey results22 ⟨y,u,G.s⟩
 refine wc_skip (qr (lv (r_t u) (nq (wc_ret ?_))))
 cases oi x
 exact ey results22 ⟨y,u,G.s⟩

theorem ok_laws_eqLive {q0:GLive}{q1:GLive}{r:Bool}(hS:SH w K [] w K [])(R:SliceAt tGDoc K A a b q0.Seg.Docs)(S:SliceAt tGEntry K B c d q0.Seg.Entries)(T:SliceAt tInt K C f i q0.Dead)(U:SliceAt tGDoc K D k l q1.Seg.Docs)(V:SliceAt tGEntry K G m n q1.Seg.Entries)(W:SliceAt tInt K H o p q1.Dead)(hm:M.laws_eqLive F q0 q1=some r):
  Calls prog 132 #[.agg #[V3 A a b,V3 B c d,V3 C f i],.agg #[V3 D k l,V3 G m n,V3 H o p]] w (R_b w K r):=by
 rw [M.laws_eqLive] at hm
 refine ci func132 u ntmps132 (sr (bx u hS fun X al Y=>?_))
 have aa:SH _ _ _ _ _ [obj X [V3 A a b,V3 B c d,V3 C f i] 73]:=Y
 refine bx u aa fun ab am ac=>?_
 have s:SH _ _ _ _ _ [obj ab [V3 D k l,V3 G m n,V3 H o p] 73,_]:=ac
 refine lv (r_f u) (nsr (fa ff73_0 u (lv (rv_loadmS (ds:=[V3 A a b,V3 B c d]) tf46 u m1 s u u) (fa ff73_0 u (lv (rv_loadmS (ds:=[V3 D k l,V3 G m n]) tf46 u m0 s u u) ?_)))))
 obtain⟨an,ad,ae⟩:=ob hm
 refine lk co22 (ok_laws_eqSeg F s.enter0 R S U V ad) ?_
 rintro ao ap ⟨af,rfl,x⟩
 have q:=(s.c0 x).t2
 refine lv (rv_not u) (nq (wcc ae u (fun ag y=>?_) (fun ag y=>?_)))
 ·refine sr (lv (r_f u) (nq (rr ?_)))
  cases oi y
  exact ey results132 ⟨af,u,q.s⟩
 refine wc_skip (qs (sr (fl ff73_1 u tf71 m1 q u (fl ff73_1 u tf71 m0 q u ?_))))
 obtain⟨aq,ah,ai⟩:=ob y
 refine lk co166 (ok_laws_eqIntS F q.enter0 (T.mono x.le) (W.mono x.le) ah) ?_
 rintro ar au ⟨J,rfl,aj⟩
 have O:=(q.c0 aj).t2
 refine lv (rv_not u) (nq (wcc ai u (fun ak I=>?_) (fun ak I=>?_)))
 ·refine sr (lv (r_f u) (nq (rr ?_)))
  cases oi I
  exact ey results132 ⟨J,u,O.s⟩
 refine wc_skip (qr (lv (r_t u) (nq (wc_ret ?_))))
 cases oi I
 exact ey results132 ⟨J,u,O.s⟩

theorem ok_laws_eqLiveS {q0:List GLive}{q1:List GLive}{r:Bool}(hS:SH w K [] w K [])(l:SliceAt tGLive K A a b q0)(y:SliceAt tGLive K B c d q1)(hm:M.laws_eqLiveS F q0 q1=some r):
  Calls prog 62 #[V3 A a b,V3 B c d] w (R_b w K r):=by
 rw [M.laws_eqLiveS] at hm
 refine ci func62 u ntmps62 (sr (lv (r_f u) (nsr (mv u (lv (rv_len underlying34 u l) (mv u (lv (rv_len underlying34 u y) (lv (rv_neq u u) (nq ?_)))))))))
 refine wc_cond u (fun m=>?_) (fun m=>?_)
 ·have o:=cond_t m hm
  refine sr (lv (r_f u) (nq (rr ?_)))
  cases oi o
  exact ey results62 ⟨K,u,hS⟩
 have o:=cond_f m hm
 refine wc_skip (qs (sr (lv (r_0 u) (nq ?_))))
 obtain⟨J,O,k⟩:=ob o
 refine wc_cutg (IE J w K [] K [] []) ?_ ?_
 ·refine wc_block ?_
  obtain⟨aS,R,C⟩:=ob O
  refine qw (fun (q:Int)=>IW w K [] K [(0,V3 A a b),(1,V3 B c d),(5,V6 q)] [] (rng64 q)) R ⟨K,u,hS,kr,d_0⟩ ?_
  rintro q _ aT aU S D ⟨T,rfl,G,i,aV⟩
  refine wc_seq (sr (mv u (mv u (lv (rv_len underlying34 u (l.mono i)) (lv (rv_lss u u) (nq (wcc S u (fun U s=>?_) (fun U s=>?_))))))))
  ·refine wc_skip (qs (wc_block (wc_seq (wc_quiet mixed (by kernel_rfl) G (km u (km u ?_))))))
   obtain⟨aW,V,W⟩:=ob s
   refine ki underlying34 tf73 (l.mono i) V fun X Y aX aa ab=>?_
   obtain⟨ac,ad,ae,af,ag,ah,ai,aj,ak,rfl,al,am,an⟩:=aa
   have ao:AtK _ X Y [V3 ac ad ae,V3 af ag ah,V3 ai aj ak]:=ab
   refine kh (rq_loadS tf73 u ao u) (km u (km u ?_))
   obtain⟨aY,ap,aq⟩:=ob W
   refine ki underlying34 tf73 (y.mono i) ap fun ar au aZ aw ax=>?_
   obtain⟨ay,az,aA,aB,aC,aD,aE,aF,aG,rfl,aH,aI,aJ⟩:=aw
   have aK:AtK _ ar au [V3 ay az aA,V3 aB aC aD,V3 aE aF aG]:=ax
   refine kh (rq_loadS tf73 u aK u) ?_
   obtain⟨ba,aL,aM⟩:=ob aq
   refine kc co132 (fun _ _ aN f=>(ok_laws_eqLive F) aN.enter0 (al.mono f) (am.mono f) (an.mono f) (aH.mono f) (aI.mono f) (aJ.mono f) aL) (kv (rv_not u) (wq_nil ?_))
   rintro bb ⟨H,I,aO⟩
   refine qe_seq (wcc aM u (fun aP x=>?_) (fun aP x=>?_))
   ·refine sr (lv (r_f u) (nq (wc_ret (qe_block_ret (qe_then_ret (qe_then_ret ?_))))))
    cases oi x
    cases D _ u
    refine qe_block_ret (qe_then_ret ?_)
    cases oi C
    refine qe_then_ret ?_
    cases oi k
    exact ey results62 ⟨H,u,I⟩
   refine wc_skip (qe_block (qe_seq (wc_region (mv u (lv (rv_add u u) (av u (wl_nil ?_)))))))
   cases oi x
   exact qd ⟨_,u,H,u,I,(i.trans aO),(w64_rng _)⟩
  refine wc_exit (qe_then_exit (qe_then_exit ?_))
  cases oi s
  cases D _ u
  refine qe_block_eq ?_
  cases oi C
  exact qe_mid' ⟨_,T,u,u,G,i⟩ trivial
 rintro _ bc ⟨bd,aQ,rfl,rfl,aR,be⟩
 have k:=elim_l k
 refine qr (lv (r_t u) (nq (wc_ret ?_)))
 cases oi k
 exact ey results62 ⟨aQ,u,aR⟩

theorem ok_laws_eqIndex {q0:GIndex}{q1:GIndex}{r:Bool}(hS:SH w K [] w K [])(R:SliceAt tStr K A a b q0.Conf.Stops)(S:SliceAt tGSyn K B c d q0.Conf.Syns)(T:SliceAt tGLive K C f i q0.Segs)(U:SliceAt tStr K D k l q1.Conf.Stops)(V:SliceAt tGSyn K G m n q1.Conf.Syns)(W:SliceAt tGLive K H o p q1.Segs)(hm:M.laws_eqIndex F q0 q1=some r):
  Calls prog 15 #[.agg #[V3 A a b,V3 B c d,V3 C f i],.agg #[V3 D k l,V3 G m n,V3 H o p]] w (R_b w K r):=by
 rw [M.laws_eqIndex] at hm
 refine ci func15 u ntmps15 (sr (bx u hS fun X al Y=>?_))
 have aa:SH _ _ _ _ _ [obj X [V3 A a b,V3 B c d,V3 C f i] 36]:=Y
 refine bx u aa fun ab am ac=>?_
 have s:SH _ _ _ _ _ [obj ab [V3 D k l,V3 G m n,V3 H o p] 36,_]:=ac
 refine lv (r_f u) (nsr (fa ff36_0 u (lv (rv_loadmS (ds:=[V3 A a b,V3 B c d]) tf33 u m1 s u u) (fa ff36_0 u (lv (rv_loadmS (ds:=[V3 D k l,V3 G m n]) tf33 u m0 s u u) ?_)))))
 obtain⟨an,ad,ae⟩:=ob hm
 refine lk co23 (ok_laws_eqConf F s.enter0 R S U V ad) ?_
 rintro ao ap ⟨af,rfl,x⟩
 have q:=(s.c0 x).t2
 refine lv (rv_not u) (nq (wcc ae u (fun ag y=>?_) (fun ag y=>?_)))
 ·refine sr (lv (r_f u) (nq (rr ?_)))
  cases oi y
  exact ey results15 ⟨af,u,q.s⟩
 refine wc_skip (qs (sr (fl ff36_1 u tf34 m1 q u (fl ff36_1 u tf34 m0 q u ?_))))
 obtain⟨aq,ah,ai⟩:=ob y
 refine lk co62 (ok_laws_eqLiveS F q.enter0 (T.mono x.le) (W.mono x.le) ah) ?_
 rintro ar au ⟨J,rfl,aj⟩
 have O:=(q.c0 aj).t2
 refine lv (rv_not u) (nq (wcc ai u (fun ak I=>?_) (fun ak I=>?_)))
 ·refine sr (lv (r_f u) (nq (rr ?_)))
  cases oi I
  exact ey results15 ⟨J,u,O.s⟩
 refine wc_skip (qr (lv (r_t u) (nq (wc_ret ?_))))
 cases oi I
 exact ey results15 ⟨J,u,O.s⟩

theorem ok_laws_FnExactIndexOk {q0:GIndex}{r:Bool}(hS:SH w K [] w K [])(D:SliceAt tStr K A a b q0.Conf.Stops)(G:SliceAt tGSyn K B c d q0.Conf.Syns)(H:SliceAt tGLive K C f i q0.Segs)(hm:M.laws_FnExactIndexOk F q0=some r):
  Calls prog 3 #[.agg #[V3 A a b,V3 B c d,V3 C f i]] w (R_b w K r):=by
 rw [M.laws_FnExactIndexOk] at hm
 refine ci func3 u ntmps3 (sr (bx u hS fun ag aW ar=>?_))
 have aa:SH _ _ _ _ _ [obj ag [V3 A a b,V3 B c d,V3 C f i] 28]:=ar
 refine lv (r_f u) (nr (lv (rv_assign (v:=V6 1048576) u) (nr (lv (rv_loadmS (ds:=[V3 A a b,V3 B c d,V3 C f i]) tf28 u m0 aa u u) (mv u ?_)))))
 obtain⟨aX,au,aw⟩:=ob hm
 refine lk co11 (ok_laws_szIndex F aa.enter0 D G H (by decide :rng64 1048576) au) ?_
 rintro aY aZ ⟨ax,rfl,k,ba⟩
 have I:=(aa.c0 k).t1
 refine av u (nsr (mv u (lv (rv_lss u u) (nq (wcc aw u (fun ay ab=>?_) (fun ay ab=>?_))))))
 ·refine sr (lv (r_t u) (nq (rr ?_)))
  cases oi ab
  exact ey results3 ⟨ax,u,I.s⟩
 refine wc_skip (qr (lv (rv_loadmS (ds:=[V3 A a b,V3 B c d,V3 C f i]) tf28 u m0 I u u) ?_))
 obtain⟨bb,az,aA⟩:=ob ab
 refine lk co13 (ok_laws_toIndex F I.enter0 (D.mono k.le) (G.mono k.le) (H.mono k.le) az) ?_
 rintro bc bd ⟨be,bf,bg,bh,bi,bj,bk,bl,bm,bn,rfl,l,aB,aC,aD⟩
 have ah:=(I.c0 l).t2
 obtain⟨bo,aE,aF⟩:=ob aA
 refine lk co12 (ok_spec_IndexOk F ah.enter0 aB aC aD aE) ?_
 rintro bp bq ⟨br,rfl,m⟩
 have ac:=(ah.c0 m).t2
 refine av u (nr (lv (rv_loadmS (ds:=[V3 A a b,V3 B c d,V3 C f i]) tf28 u m1 ac u u) ?_))
 obtain⟨bs,aG,aH⟩:=ob aF
 refine lk co13 (ok_laws_toIndex F ac.enter0 (D.mono ((k.le.trans l.le).trans m.le)) (G.mono ((k.le.trans l.le).trans m.le)) (H.mono ((k.le.trans l.le).trans m.le)) aG) ?_
 rintro bu bv ⟨J,O,R,S,T,U,V,W,X,bz,rfl,Y,ai,aj,ak⟩
 have aI:=(ac.c0 Y).t3
 refine al tf36 aI fun am bA aJ=>?_
 have aK:SH _ _ _ _ _ [obj am [V3 none 0 0,V3 none 0 0,V3 none 0 0] 36,_,_,_]:=aJ
 refine lw [V3 J O R,V3 S T U,V3 V W X] tf36 aK fun bB ad=>(nr (lv (rv_loadmS (ds:=[V3 J O R,V3 S T U,V3 V W X]) tf36 u m0 ad u u) ?_))
 obtain⟨bC,aL,aM⟩:=ob aH
 refine lk co14 (ok_impl_IndexOk F ad.enter0 ai aj ak aL) ?_
 rintro bD bE ⟨an,rfl,o⟩
 have ao:=(ad.c0 o).t4
 refine av u (nsr (mv u (mv u (lv (rv_boolne underlying4 u u) (nq (wcc aM u (fun aN ae=>?_) (fun aN ae=>?_)))))))
 ·refine sr (lv (r_f u) (nq (rr ?_)))
  cases oi ae
  exact ey results3 ⟨an,u,ao.s⟩
 refine wc_skip (qs (wc_seq ?_))
 have s:=ao.drew
 refine wh1 (fun w'=>Holds an w'∧HasObj am [V3 J O R,V3 S T U,V3 V W X] w'∧HasObj ag [V3 A a b,V3 B c d,V3 C f i] w') (fun w'=>True) 5 [] mixed ⟨s.hasK kr,s.hasObj m0,s.hasObj m3⟩ (fun _=>trivial) (gh (fun _ h=>rh_loadmS (ds:=[V3 J O R,V3 S T U,V3 V W X]) tf36 u u u h.2.1) (gh (fun _ h=>rh_loadmS (ds:=[V3 A a b,V3 B c d,V3 C f i]) tf28 u u u h.2.2) (gn ?_)))
 obtain⟨bF,aO,aP⟩:=ob ae
 refine lk co13 (ok_laws_toIndex F s.enter0 (SliceAt.mono ((((k.le.trans l.le).trans m.le).trans Y.le).trans o.le) D) (SliceAt.mono ((((k.le.trans l.le).trans m.le).trans Y.le).trans o.le) G) (SliceAt.mono ((((k.le.trans l.le).trans m.le).trans Y.le).trans o.le) H) aO) ?_
 rintro bG bH ⟨bI,bJ,bK,bL,bM,bN,bO,bP,bQ,bR,rfl,q,aQ,aR,aS⟩
 have x:=(s.c0 q).t5
 refine wl_nil (qh ⟨x.hasK q.le,x.hasObj m1,x.hasObj m4⟩ (fun _=>trivial) (gn ?_))
 obtain⟨bS,aT,aU⟩:=ob aP
 refine lk co15 (ok_laws_eqIndex F x.enter0 (ai.mono (o.le.trans q.le)) (aj.mono (o.le.trans q.le)) (ak.mono (o.le.trans q.le)) aQ aR aS aT) ?_
 rintro bT bU ⟨ap,rfl,aq⟩
 have y:=(x.c0 aq).t5
 refine wl_nil (qh ⟨y.hasK (q.le.trans aq.le),y.hasObj m1,y.hasObj m4⟩ (fun _=>trivial) (gt (rv_not u) (gd' (qe_seq (wcc aU u (fun aV af=>?_) (fun aV af=>?_))))))
 ·refine sr (lv (r_f u) (nq (rr ?_)))
  cases oi af
  exact ey results3 ⟨ap,u,y.s⟩
 refine wc_skip (qr (lv (r_t u) (nq (wc_ret ?_))))
 cases oi af
 exact ey results3 ⟨ap,u,y.s⟩
end Go.Proofs.YtpjefkdclnmlfaaGreat
