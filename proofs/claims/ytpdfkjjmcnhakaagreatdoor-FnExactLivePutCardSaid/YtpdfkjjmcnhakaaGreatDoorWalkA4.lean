/-
 Walks of the functions. Printed by gen.py.
-/
import Derived.Test.YtpdfkjjmcnhakaaGreatDoorWalkA3
set_option linter.unusedVariables false
set_option linter.unusedSectionVars false
set_option maxRecDepth 100000
namespace Go.Proofs.YtpdfkjjmcnhakaaGreatDoor
set_option maxHeartbeats 4000000
open Go Go.Fk Go.RowKit Tryz
variable (F:Nat){w:World}{K:KMap}{Z:List Nat}{g1 g2 g3:Nat}{A B C D G H I J O R S T:Option Addr}{a b c d f i k l m n o p q s v x y aa ab ac ad ae af ag:Nat}
variable [dr:Dr]

theorem ok_laws_toDocS {q0:List GDoc}{r:(List GDoc)}(hS:SH w K [] w K [])(x:SliceAt tGDoc K A a b q0)(hm:M.laws_toDocS F q0=some r):
  Calls prog 72 #[V3 A a b] w fun e w'=>∃a_1 n_2 c_3 K',e= .returned (V3 a_1 n_2 c_3)∧SH w K [] w' K' [tail (V3 a_1 n_2 c_3) 64 3]∧SliceAt tGDoc K' a_1 n_2 c_3 r:=by
 rw [M.laws_toDocS] at hm
 refine ci func72 u ntmps72 (sr (lv (r_n u) (nr (mv u (lv (rv_len underlying26 u x) ?_)))))
 obtain⟨U,V,W⟩:=ob hm
 refine wl_make (t:=tGDoc) wn u underlying40 tf64 u u u V ⟨none,0,0,none,0,0,u,d_0,(SliceAt.nil _ _),(SliceAt.nil _ _)⟩ hS fun f cs9 aU hmx13 hrow11 X=>?_
 obtain⟨m14,hm15⟩: ∃m,m=U.length:=⟨_,u⟩
 rw [←hm15] at hmx13
 rw [←hm15]
 refine av u (nsr (lv (r_0 u) (nq ?_)))
 obtain⟨D,Y,aa⟩:=ob W
 refine wc_cutg (fun E' w'=>∃cs23 l,E'=[(3,V3 (some ⟨f,0,none⟩) m14 m14)]∧SH w K [] w' l [obj f cs23 64]∧KLe K l∧RowAt true tGDoc l cs23 D∧m14=D.length) ?_ ?_
 ·refine wc_block ?_
  obtain⟨aV,ab,ac⟩:=ob Y
  refine qw (fun (c:Int×(List GDoc)) E' w'=>∃cs36 k,E'=[(0,V3 A a b),(3,V3 (some ⟨f,0,none⟩) m14 m14),(4,V6 c.1)]∧SH w K [] w' k [obj f cs36 64]∧KLe K k∧rng64 c.1∧RowAt true tGDoc k cs36 c.2∧m14=c.2.length) ab ⟨cs9,K,u,X,kr,d_0,hrow11,hm15⟩ ?_
  rintro c _ aW aX ad ae ⟨cs36,k,rfl,o,q,aY,hrow37,hm38⟩
  refine wc_seq (sr (mv u (mv u (lv (rv_len underlying26 u (x.mono q)) (lv (rv_lss u u) (nq (wcc ad u (fun af y=>?_) (fun af y=>?_))))))))
  ·refine wc_skip (qs (wc_block (wc_region (mv u (mv u (mv u (mv u ?_)))))))
   obtain⟨ag,ah,ai⟩:=ob y
   refine li underlying26 tf180 (x.mono q) ah fun aj ak aZ al am=>?_
   obtain⟨an,ao,ap,aq,ar,au,rfl,aw,ax,ay⟩:=al
   have az:AtK _ aj ak [V6 ag.Id,V3 an ao ap,V3 aq ar au]:=am
   refine lv (rv_loadS tf180 u o az u) ?_
   obtain⟨B,aA,aB⟩:=ob ai
   refine lk co118 (ok_laws_toDoc F o.enter0 aw ax ay aA) ?_
   rintro ba bb ⟨G,H,I,J,O,R,aC,rfl,s,aD,aE,aF⟩
   have aG:=(o.c0 s).t3
   obtain⟨aH,C,aI⟩:=ob aB
   obtain⟨bc,aJ,aK⟩:=RowAt.at (RowAt.mono s.le hrow37) C
   obtain⟨aL,aM,aN,aO,aP,aQ,rfl,bd,be,bf⟩:=aJ
   have bg: ∀(j:Nat) (d:Value),[V6 aH.Id,V3 aL aM aN,V3 aO aP aQ][j]? =some d→cs36[c.1.toNat*tGDoc.size+j]? =some d:=aK
   refine lv (rv_indexRow (t:=tGDoc) underlying40 tf64 u u hm38 C) (wl_storeRow (t:=tGDoc) (v:=.agg #[V6 B.Id,V3 G H I,V3 J O R]) (e:=B) wn tf64 u u ⟨G,H,I,J,O,R,u,aD,aE,aF⟩ aG.f2 (RowAt.mono s.le hrow37) C fun cs96 bh hrow98 aR=>?_)
   have hm100:=hm38.trans (List.length_set (i:=c.1.toNat) (a:=B)).symm
   refine nb (qe_seq (wc_region (mv u (lv (rv_add u u) (av u (wl_nil ?_))))))
   cases oi aI
   exact qd ⟨_,u,cs96,aC,u,aR.s,(q.trans s.le),(w64_rng _),hrow98,hm100⟩
  refine wc_exit (qe_then_exit (qe_then_exit ?_))
  cases oi y
  cases ae _ u
  refine qe_block_eq ?_
  cases oi ac
  exact qd ⟨cs36,k,u,o,q,hrow37,hm38⟩
 rintro _ bi ⟨cs23,l,rfl,aS,bj,hrow24,hm25⟩
 refine qr (mv u (av u (nq (wc_ret ?_))))
 obtain⟨aT,bk,S,T⟩:=SH.freeze aS hrow24 (row_max hm25 hmx13)
 rw [←hm25] at S T
 cases oi aa
 exact ey results72 ⟨(some ⟨f,0,none⟩),m14,m14,aT,u,T,S⟩

theorem ok_laws_toIntS {q0:List Int}{r:(List Int)}(hS:SH w K [] w K [])(s:SliceAt tInt K A a b q0)(hm:M.laws_toIntS F q0=some r):
  Calls prog 31 #[V3 A a b] w fun e w'=>∃a_1 n_2 c_3 K',e= .returned (V3 a_1 n_2 c_3)∧SH w K [] w' K' [tail (V3 a_1 n_2 c_3) 3 1]∧SliceAt tInt K' a_1 n_2 c_3 r:=by
 rw [M.laws_toIntS] at hm
 refine ci func31 u ntmps31 (sr (lv (r_n u) (nr (mv u (lv (rv_len underlying30 u s) ?_)))))
 obtain⟨H,I,J⟩:=ob hm
 refine wl_make (t:=tInt) wn u underlying30 tf3 u u u I ⟨u,d_0⟩ hS fun k cs9 ao hmx13 hrow11 O=>?_
 obtain⟨m14,hm15⟩: ∃m,m=H.length:=⟨_,u⟩
 rw [←hm15] at hmx13
 rw [←hm15]
 refine av u (nsr (lv (r_0 u) (nq ?_)))
 obtain⟨C,R,S⟩:=ob J
 refine wc_cutg (fun E' w'=>∃cs23 l,E'=[(3,V3 (some ⟨k,0,none⟩) m14 m14)]∧SH w K [] w' l [obj k cs23 3]∧KLe K l∧RowAt true tInt l cs23 C∧m14=C.length) ?_ ?_
 ·refine wc_block ?_
  obtain⟨ap,T,U⟩:=ob R
  refine qw (fun (c:Int×(List Int)) E' w'=>∃cs36 f,E'=[(0,V3 A a b),(3,V3 (some ⟨k,0,none⟩) m14 m14),(4,V6 c.1)]∧SH w K [] w' f [obj k cs36 3]∧KLe K f∧rng64 c.1∧RowAt true tInt f cs36 c.2∧m14=c.2.length) T ⟨cs9,K,u,O,kr,d_0,hrow11,hm15⟩ ?_
  rintro c _ aq ar V W ⟨cs36,f,rfl,x,o,au,hrow37,hm38⟩
  refine wc_seq (sr (mv u (mv u (lv (rv_len underlying30 u (s.mono o)) (lv (rv_lss u u) (nq (wcc V u (fun X y=>?_) (fun X y=>?_))))))))
  ·refine wc_skip (qs (wc_block (wc_region (mv u (mv u (mv u (mv u ?_)))))))
   obtain⟨q,Y,aa⟩:=ob y
   refine li underlying30 tf3 (s.mono o) Y fun ab ac aw ad ae=>?_
   obtain⟨rfl,af⟩:=ad
   have ag:AtK _ ab ac [V6 q]:=ae
   refine lv (rv_load1 tf3 u x (ag 0 _ u)) ?_
   obtain⟨ah,B,ai⟩:=ob aa
   obtain⟨ax,aj,ak⟩:=RowAt.at hrow37 B
   obtain⟨rfl,ay⟩:=aj
   have az: ∀(j:Nat) (d:Value),[V6 ah][j]? =some d→cs36[c.1.toNat*tInt.size+j]? =some d:=ak
   refine lv (rv_indexRow (t:=tInt) underlying30 tf3 u u hm38 B) (wl_storeRow (t:=tInt) (v:=V6 q) (e:=q) wn tf3 u u ⟨u,af⟩ x hrow37 B fun cs62 aA hrow64 al=>?_)
   have hm66:=hm38.trans (List.length_set (i:=c.1.toNat) (a:=q)).symm
   refine nb (qe_seq (wc_region (mv u (lv (rv_add u u) (av u (wl_nil ?_))))))
   cases oi ai
   exact qd ⟨_,u,cs62,f,u,al,o,(w64_rng _),hrow64,hm66⟩
  refine wc_exit (qe_then_exit (qe_then_exit ?_))
  cases oi y
  cases W _ u
  refine qe_block_eq ?_
  cases oi U
  exact qd ⟨cs36,f,u,x,o,hrow37,hm38⟩
 rintro _ aB ⟨cs23,l,rfl,am,aC,hrow24,hm25⟩
 refine qr (mv u (av u (nq (wc_ret ?_))))
 obtain⟨an,aD,D,G⟩:=SH.freeze am hrow24 (row_max hm25 hmx13)
 rw [←hm25] at D G
 cases oi S
 exact ey results31 ⟨(some ⟨k,0,none⟩),m14,m14,an,u,G,D⟩

theorem ok_laws_toPost {q0:GPost}{r:GPost}(hS:SH w K [] w K [])(o:rng64 q0.Doc)(q:SliceAt tInt K A a b q0.At)(hm:M.laws_toPost F q0=some r):
  Calls prog 205 #[.agg #[V6 q0.Doc,V3 A a b]] w fun e w'=>∃a_2 n_3 c_4 K',e= .returned (.agg #[V6 r.Doc,V3 a_2 n_3 c_4])∧SH w K [] w' K' [tail (V3 a_2 n_3 c_4) 3 1]∧rng64 r.Doc∧SliceAt tInt K' a_2 n_3 c_4 r.At:=by
 rw [M.laws_toPost] at hm
 refine ci func205 u ntmps205 (sr (bx u hS fun s T v=>?_))
 have x:SH _ _ _ _ _ [obj s [V6 q0.Doc,V3 A a b] 272]:=v
 refine al tf153 x fun y U B=>?_
 have C:SH _ _ _ _ _ [obj y [V6 0,V3 none 0 0] 153,_]:=B
 refine nr (al tf153 C fun D V G=>?_)
 have k:SH _ _ _ _ _ [obj D [V6 0,V3 none 0 0] 153,_,_]:=G
 refine nr (fl ff272_0 u tf3 m2 k u (fa ff153_0 u (ls [V6 q0.Doc,V3 none 0 0] (V6 q0.Doc) tf3 k fun W i=>(nr (fl ff272_1 u tf30 m2 i u ?_)))))
 obtain⟨X,H,I⟩:=ob hm
 refine lk co31 (ok_laws_toIntS F i.enter0 q H) ?_
 rintro Y aa ⟨c,d,f,J,rfl,O,R⟩
 have S:=(i.c0 O).t4
 refine fa ff153_1 u (ls [V6 q0.Doc,V3 c d f] (V3 c d f) tf30 S.f1 fun ab l=>(nr (lv (rv_loadmS (ds:=[V6 q0.Doc,V3 c d f]) tf153 u m0 l u u) (lw [V6 q0.Doc,V3 c d f] tf153 l.f2 fun ac m=>(nq (wc_ret ?_))))))
 cases oi I
 exact ez results205 tf153 m m0 ⟨c,d,f,J,u,m.s,o,R⟩

theorem ok_laws_toPostS {q0:List GPost}{r:(List GPost)}(hS:SH w K [] w K [])(x:SliceAt tGPost K A a b q0)(hm:M.laws_toPostS F q0=some r):
  Calls prog 164 #[V3 A a b] w fun e w'=>∃a_1 n_2 c_3 K',e= .returned (V3 a_1 n_2 c_3)∧SH w K [] w' K' [tail (V3 a_1 n_2 c_3) 153 2]∧SliceAt tGPost K' a_1 n_2 c_3 r:=by
 rw [M.laws_toPostS] at hm
 refine ci func164 u ntmps164 (sr (lv (r_n u) (nr (mv u (lv (rv_len underlying182 u x) ?_)))))
 obtain⟨R,S,T⟩:=ob hm
 refine wl_make (t:=tGPost) wn u underlying95 tf153 u u u S ⟨none,0,0,u,d_0,(SliceAt.nil _ _)⟩ hS fun f cs9 aJ hmx13 hrow11 U=>?_
 obtain⟨m14,hm15⟩: ∃m,m=R.length:=⟨_,u⟩
 rw [←hm15] at hmx13
 rw [←hm15]
 refine av u (nsr (lv (r_0 u) (nq ?_)))
 obtain⟨D,V,W⟩:=ob T
 refine wc_cutg (fun E' w'=>∃cs23 l,E'=[(3,V3 (some ⟨f,0,none⟩) m14 m14)]∧SH w K [] w' l [obj f cs23 153]∧KLe K l∧RowAt true tGPost l cs23 D∧m14=D.length) ?_ ?_
 ·refine wc_block ?_
  obtain⟨aK,X,Y⟩:=ob V
  refine qw (fun (c:Int×(List GPost)) E' w'=>∃cs36 k,E'=[(0,V3 A a b),(3,V3 (some ⟨f,0,none⟩) m14 m14),(4,V6 c.1)]∧SH w K [] w' k [obj f cs36 153]∧KLe K k∧rng64 c.1∧RowAt true tGPost k cs36 c.2∧m14=c.2.length) X ⟨cs9,K,u,U,kr,d_0,hrow11,hm15⟩ ?_
  rintro c _ aL aM aa ab ⟨cs36,k,rfl,o,q,aN,hrow37,hm38⟩
  refine wc_seq (sr (mv u (mv u (lv (rv_len underlying182 u (x.mono q)) (lv (rv_lss u u) (nq (wcc aa u (fun ac y=>?_) (fun ac y=>?_))))))))
  ·refine wc_skip (qs (wc_block (wc_region (mv u (mv u (mv u (mv u ?_)))))))
   obtain⟨ad,ae,af⟩:=ob y
   refine li underlying182 tf272 (x.mono q) ae fun ag ah aO ai aj=>?_
   obtain⟨ak,al,am,rfl,an,ao⟩:=ai
   have ap:AtK _ ag ah [V6 ad.Doc,V3 ak al am]:=aj
   refine lv (rv_loadS tf272 u o ap u) ?_
   obtain⟨B,aq,ar⟩:=ob af
   refine lk co205 (ok_laws_toPost F o.enter0 an ao aq) ?_
   rintro aP aQ ⟨G,H,I,au,rfl,s,aw,ax⟩
   have ay:=(o.c0 s).t2
   obtain⟨az,C,aA⟩:=ob ar
   obtain⟨aR,aB,aC⟩:=RowAt.at (RowAt.mono s.le hrow37) C
   obtain⟨aD,aE,aF,rfl,aS,aT⟩:=aB
   have aU: ∀(j:Nat) (d:Value),[V6 az.Doc,V3 aD aE aF][j]? =some d→cs36[c.1.toNat*tGPost.size+j]? =some d:=aC
   refine lv (rv_indexRow (t:=tGPost) underlying95 tf153 u u hm38 C) (wl_storeRow (t:=tGPost) (v:=.agg #[V6 B.Doc,V3 G H I]) (e:=B) wn tf153 u u ⟨G,H,I,u,aw,ax⟩ ay.f1 (RowAt.mono s.le hrow37) C fun cs84 aV hrow86 aG=>?_)
   have hm88:=hm38.trans (List.length_set (i:=c.1.toNat) (a:=B)).symm
   refine nb (qe_seq (wc_region (mv u (lv (rv_add u u) (av u (wl_nil ?_))))))
   cases oi aA
   exact qd ⟨_,u,cs84,au,u,aG.s,(q.trans s.le),(w64_rng _),hrow86,hm88⟩
  refine wc_exit (qe_then_exit (qe_then_exit ?_))
  cases oi y
  cases ab _ u
  refine qe_block_eq ?_
  cases oi Y
  exact qd ⟨cs36,k,u,o,q,hrow37,hm38⟩
 rintro _ aW ⟨cs23,l,rfl,aH,aX,hrow24,hm25⟩
 refine qr (mv u (av u (nq (wc_ret ?_))))
 obtain⟨aI,aY,J,O⟩:=SH.freeze aH hrow24 (row_max hm25 hmx13)
 rw [←hm25] at J O
 cases oi W
 exact ey results164 ⟨(some ⟨f,0,none⟩),m14,m14,aI,u,O,J⟩

theorem ok_laws_toEntry {q0:GEntry}{r:GEntry}(hS:SH w K [] w K [])(q:q0.Field.length≤maxLen)(s:q0.Term.length≤maxLen)(v:SliceAt tGPost K A a b q0.Posts)(hm:M.laws_toEntry F q0=some r):
  Calls prog 119 #[.agg #[sv q0.Field,sv q0.Term,V3 A a b]] w fun e w'=>∃a_3 n_4 c_5 K',e= .returned (.agg #[sv r.Field,sv r.Term,V3 a_3 n_4 c_5])∧SH w K [] w' K' [tail (V3 a_3 n_4 c_5) 153 2]∧r.Field.length≤maxLen∧r.Term.length≤maxLen∧SliceAt tGPost K' a_3 n_4 c_5 r.Posts:=by
 rw [M.laws_toEntry] at hm
 refine ci func119 u ntmps119 (sr (bx u hS fun x V y=>?_))
 have B:SH _ _ _ _ _ [obj x [sv q0.Field,sv q0.Term,V3 A a b] 184]:=y
 refine al tf97 B fun C W D=>?_
 have G:SH _ _ _ _ _ [obj C [sv [],sv [],V3 none 0 0] 97,_]:=D
 refine nr (al tf97 G fun H X I=>?_)
 have k:SH _ _ _ _ _ [obj H [sv [],sv [],V3 none 0 0] 97,_,_]:=I
 refine nr (fl ff184_0 u tf9 m2 k u (fa ff97_0 u (ls [sv q0.Field,sv [],V3 none 0 0] (sv q0.Field) tf9 k fun Y l=>(nr (fl ff184_1 u tf9 m2 l u (fa ff97_1 u (ls [sv q0.Field,sv q0.Term,V3 none 0 0] (sv q0.Term) tf9 l fun aa i=>(nr (fl ff184_2 u tf182 m2 i u ?_)))))))))
 obtain⟨ab,J,O⟩:=ob hm
 refine lk co164 (ok_laws_toPostS F i.enter0 v J) ?_
 rintro ac ad ⟨c,d,f,R,rfl,S,T⟩
 have U:=(i.c0 S).t4
 refine fa ff97_2 u (ls [sv q0.Field,sv q0.Term,V3 c d f] (V3 c d f) tf95 U.f1 fun ae m=>(nr (lv (rv_loadmS (ds:=[sv q0.Field,sv q0.Term,V3 c d f]) tf97 u m0 m u u) (lw [sv q0.Field,sv q0.Term,V3 c d f] tf97 m.f2 fun af o=>(nq (wc_ret ?_))))))
 cases oi O
 exact ez results119 tf97 o m0 ⟨c,d,f,R,u,o.s,q,s,T⟩

theorem ok_laws_toEntryS {q0:List GEntry}{r:(List GEntry)}(hS:SH w K [] w K [])(y:SliceAt tGEntry K A a b q0)(hm:M.laws_toEntryS F q0=some r):
  Calls prog 73 #[V3 A a b] w fun e w'=>∃a_1 n_2 c_3 K',e= .returned (V3 a_1 n_2 c_3)∧SH w K [] w' K' [tail (V3 a_1 n_2 c_3) 97 3]∧SliceAt tGEntry K' a_1 n_2 c_3 r:=by
 rw [M.laws_toEntryS] at hm
 refine ci func73 u ntmps73 (sr (lv (r_n u) (nr (mv u (lv (rv_len underlying27 u y) ?_)))))
 obtain⟨T,U,V⟩:=ob hm
 refine wl_make (t:=tGEntry) wn u underlying41 tf97 u u u U ⟨none,0,0,u,(by decide :([]:Str).length≤maxLen),(by decide :([]:Str).length≤maxLen),(SliceAt.nil _ _)⟩ hS fun f cs9 aL hmx13 hrow11 W=>?_
 obtain⟨m14,hm15⟩: ∃m,m=T.length:=⟨_,u⟩
 rw [←hm15] at hmx13
 rw [←hm15]
 refine av u (nsr (lv (r_0 u) (nq ?_)))
 obtain⟨D,X,Y⟩:=ob V
 refine wc_cutg (fun E' w'=>∃cs23 l,E'=[(3,V3 (some ⟨f,0,none⟩) m14 m14)]∧SH w K [] w' l [obj f cs23 97]∧KLe K l∧RowAt true tGEntry l cs23 D∧m14=D.length) ?_ ?_
 ·refine wc_block ?_
  obtain⟨aM,aa,ab⟩:=ob X
  refine qw (fun (c:Int×(List GEntry)) E' w'=>∃cs36 k,E'=[(0,V3 A a b),(3,V3 (some ⟨f,0,none⟩) m14 m14),(4,V6 c.1)]∧SH w K [] w' k [obj f cs36 97]∧KLe K k∧rng64 c.1∧RowAt true tGEntry k cs36 c.2∧m14=c.2.length) aa ⟨cs9,K,u,W,kr,d_0,hrow11,hm15⟩ ?_
  rintro c _ aN aO ac ad ⟨cs36,k,rfl,o,q,aP,hrow37,hm38⟩
  refine wc_seq (sr (mv u (mv u (lv (rv_len underlying27 u (y.mono q)) (lv (rv_lss u u) (nq (wcc ac u (fun ae B=>?_) (fun ae B=>?_))))))))
  ·refine wc_skip (qs (wc_block (wc_region (mv u (mv u (mv u (mv u ?_)))))))
   obtain⟨G,af,ag⟩:=ob B
   refine li underlying27 tf184 (y.mono q) af fun ah ai aQ aj ak=>?_
   obtain⟨al,am,an,rfl,ao,ap,aq⟩:=aj
   have ar:AtK _ ah ai [sv G.Field,sv G.Term,V3 al am an]:=ak
   refine lv (rv_loadS tf184 u o ar u) ?_
   obtain⟨s,au,aw⟩:=ob ag
   refine lk co119 (ok_laws_toEntry F o.enter0 ao ap aq au) ?_
   rintro aR aS ⟨H,I,J,ax,rfl,x,ay,az,aA⟩
   have aB:=(o.c0 x).t2
   obtain⟨O,C,aC⟩:=ob aw
   obtain⟨aT,aD,aE⟩:=RowAt.at (RowAt.mono x.le hrow37) C
   obtain⟨aF,aG,aH,rfl,aU,aV,aW⟩:=aD
   have aX: ∀(j:Nat) (d:Value),[sv O.Field,sv O.Term,V3 aF aG aH][j]? =some d→cs36[c.1.toNat*tGEntry.size+j]? =some d:=aE
   refine lv (rv_indexRow (t:=tGEntry) underlying41 tf97 u u hm38 C) (wl_storeRow (t:=tGEntry) (v:=.agg #[sv s.Field,sv s.Term,V3 H I J]) (e:=s) wn tf97 u u ⟨H,I,J,u,ay,az,aA⟩ aB.f1 (RowAt.mono x.le hrow37) C fun cs87 aY hrow89 aI=>?_)
   have hm91:=hm38.trans (List.length_set (i:=c.1.toNat) (a:=s)).symm
   refine nb (qe_seq (wc_region (mv u (lv (rv_add u u) (av u (wl_nil ?_))))))
   cases oi aC
   exact qd ⟨_,u,cs87,ax,u,aI.s,(q.trans x.le),(w64_rng _),hrow89,hm91⟩
  refine wc_exit (qe_then_exit (qe_then_exit ?_))
  cases oi B
  cases ad _ u
  refine qe_block_eq ?_
  cases oi ab
  exact qd ⟨cs36,k,u,o,q,hrow37,hm38⟩
 rintro _ aZ ⟨cs23,l,rfl,aJ,ba,hrow24,hm25⟩
 refine qr (mv u (av u (nq (wc_ret ?_))))
 obtain⟨aK,bb,R,S⟩:=SH.freeze aJ hrow24 (row_max hm25 hmx13)
 rw [←hm25] at R S
 cases oi Y
 exact ey results73 ⟨(some ⟨f,0,none⟩),m14,m14,aK,u,S,R⟩

theorem ok_laws_toSeg {q0:GSeg}{r:GSeg}(hS:SH w K [] w K [])(D:SliceAt tGDoc K A a b q0.Docs)(G:SliceAt tGEntry K B c d q0.Entries)(hm:M.laws_toSeg F q0=some r):
  Calls prog 30 #[.agg #[V3 A a b,V3 B c d]] w fun e w'=>∃a_1 n_2 c_3 a_5 n_6 c_7 K',e= .returned (.agg #[V3 a_1 n_2 c_3,V3 a_5 n_6 c_7])∧SH w K [] w' K' [tail (V3 a_1 n_2 c_3) 64 3,tail (V3 a_5 n_6 c_7) 97 3]∧SliceAt tGDoc K' a_1 n_2 c_3 r.Docs∧SliceAt tGEntry K' a_5 n_6 c_7 r.Entries:=by
 rw [M.laws_toSeg] at hm
 refine ci func30 u ntmps30 (sr (bx u hS fun H af I=>?_))
 have J:SH _ _ _ _ _ [obj H [V3 A a b,V3 B c d] 29]:=I
 refine al tf43 J fun O ag R=>?_
 have S:SH _ _ _ _ _ [obj O [V3 none 0 0,V3 none 0 0] 43,_]:=R
 refine nr (al tf43 S fun T ah U=>?_)
 have q:SH _ _ _ _ _ [obj T [V3 none 0 0,V3 none 0 0] 43,_,_]:=U
 refine nr (fl ff29_0 u tf26 m2 q u ?_)
 obtain⟨ai,V,W⟩:=ob hm
 refine lk co72 (ok_laws_toDocS F q.enter0 D V) ?_
 rintro aj ak ⟨f,i,k,am,rfl,v,X⟩
 have Y:=(q.c0 v).t4
 refine fa ff43_0 u (ls [V3 f i k,V3 none 0 0] (V3 f i k) tf40 Y.f1 fun an s=>(nr (fl ff29_1 u tf27 m3 s u ?_)))
 obtain⟨ao,aa,ab⟩:=ob W
 refine lk co73 (ok_laws_toEntryS F s.enter0 (G.mono v.le) aa) ?_
 rintro ap aq ⟨l,m,o,ac,rfl,x,ad⟩
 have ae:=(s.c0 x).t5
 refine fa ff43_1 u (ls [V3 f i k,V3 l m o] (V3 l m o) tf41 ae.f1 fun ar y=>(nr (lv (rv_loadmS (ds:=[V3 f i k,V3 l m o]) tf43 u m0 y u u) (lw [V3 f i k,V3 l m o] tf43 y.f3 fun au C=>(nq (wc_ret ?_))))))
 cases oi ab
 exact ez results30 tf43 C m0 ⟨f,i,k,l,m,o,ac,u,C.f2.f3.s,(X.mono x.le),ad⟩

theorem ok_laws_toLive {q0:GLive}{r:GLive}(hS:SH w K [] w K [])(R:SliceAt tGDoc K A a b q0.Seg.Docs)(S:SliceAt tGEntry K B c d q0.Seg.Entries)(T:SliceAt tInt K C f i q0.Dead)(hm:M.laws_toLive F q0=some r):
  Calls prog 9 #[.agg #[V3 A a b,V3 B c d,V3 C f i]] w fun e w'=>∃a_1 n_2 c_3 a_5 n_6 c_7 a_9 n_10 c_11 K',e= .returned (.agg #[V3 a_1 n_2 c_3,V3 a_5 n_6 c_7,V3 a_9 n_10 c_11])∧SH w K [] w' K' [tail (V3 a_9 n_10 c_11) 3 1]∧SliceAt tGDoc K' a_1 n_2 c_3 r.Seg.Docs∧SliceAt tGEntry K' a_5 n_6 c_7 r.Seg.Entries∧SliceAt tInt K' a_9 n_10 c_11 r.Dead:=by
 rw [M.laws_toLive] at hm
 refine ci func9 u ntmps9 (sr (bx u hS fun U ao V=>?_))
 have W:SH _ _ _ _ _ [obj U [V3 A a b,V3 B c d,V3 C f i] 32]:=V
 refine al tf45 W fun X ap Y=>?_
 have aa:SH _ _ _ _ _ [obj X [V3 none 0 0,V3 none 0 0,V3 none 0 0] 45,_]:=Y
 refine nr (al tf45 aa fun ab aq ac=>?_)
 have D:SH _ _ _ _ _ [obj ab [V3 none 0 0,V3 none 0 0,V3 none 0 0] 45,_,_]:=ac
 refine nr (fa ff32_0 u (lv (rv_loadmS (ds:=[V3 A a b,V3 B c d]) tf29 u m2 D u u) ?_))
 obtain⟨ar,ad,ae⟩:=ob hm
 refine lk co30 (ok_laws_toSeg F D.enter0 R S ad) ?_
 rintro au aw ⟨k,l,m,o,q,s,ax,rfl,I,af,ag⟩
 have ah:=(D.c0 I).t5
 refine fa ff45_0 u (ls [V3 k l m,V3 o q s,V3 none 0 0] (.agg #[V3 k l m,V3 o q s]) tf43 ah.f2 fun ay G=>(nr (fl ff32_1 u tf30 m4 G u ?_)))
 obtain⟨az,ai,aj⟩:=ob ae
 refine lk co31 (ok_laws_toIntS F G.enter0 (T.mono I.le) ai) ?_
 rintro aA aB ⟨v,x,y,ak,rfl,H,am⟩
 have an:=(G.c0 H).t6
 refine fa ff45_1 u (ls [V3 k l m,V3 o q s,V3 v x y] (V3 v x y) tf30 an.f1 fun aC J=>(nr (lv (rv_loadmS (ds:=[V3 k l m,V3 o q s,V3 v x y]) tf45 u m0 J u u) (lw [V3 k l m,V3 o q s,V3 v x y] tf45 J.f4 fun aD O=>(nq (wc_ret ?_))))))
 cases oi aj
 exact ez results9 tf45 O m0 ⟨k,l,m,o,q,s,v,x,y,ak,u,O.s,(af.mono H.le),(ag.mono H.le),am⟩

theorem ok_impl_within {q0:Int}{q1:Int}{q2:Int}{r:Bool}(hS:SH w K [] w K [])(c:rng64 q0)(d:rng64 q1)(f:rng64 q2)(hm:M.impl_within F q0 q1 q2=some r):
  Calls prog 83 #[V6 q0,V6 q1,V6 q2] w (R_b w K r):=by
 rw [M.impl_within] at hm
 refine ci func83 u ntmps83 (sr (lv (r_f u) (nr (mv u (mv u (lv (rv_geq u u) (mv u (bt hm (fun a b=>?_) (fun a b=>?_)))))))))
 ·refine lg a (rv_move u) (lg a (rv_move u) (lg a (rv_leq u u) (lv (rv_pick_t u a u) (av u (nq (wc_ret ?_))))))
  cases oi b
  exact ey results83 ⟨K,u,hS⟩
 refine lu a (lu a (lu a (lv (p_f u a u) (av u (nq (wc_ret ?_))))))
 cases oi b
 exact ey results83 ⟨K,u,hS⟩

theorem ok_impl_wordByte {q0:UInt8}{r:Bool}(hS:SH w K [] w K [])(hm:M.impl_wordByte F q0=some r):
  Calls prog 94 #[iv8 q0] w (R_b w K r):=by
 rw [M.impl_wordByte] at hm
 refine ci func94 u ntmps94 (sr (lv (r_f u) (nr (mv u (lv (rv_bge (b:=(97:UInt8)) u u) (mv u (bt hm (fun c i=>?_) (fun c i=>?_))))))))
 ·refine lg c (rv_move u) (lg c (rv_ble (b:=(122:UInt8)) u u) (lv (rv_pick_t u c u) (mv u (bt i (fun a k=>?_) (fun a k=>?_)))))
  ·refine lu a (lu a (lu a (wl_un (uu u u) u (wl_un (uu u u) u (lu a (lv (p_t u a u) (av u (nq (wc_ret ?_)))))))))
   cases oi k
   exact ey results94 ⟨K,u,hS⟩
  refine lg a (rv_move u) (lg a (rv_bge (b:=(48:UInt8)) u u) (lg a (rv_move u) (bt k (fun d l=>?_) (fun d l=>?_))))
  ·refine lg d (rv_move u) (lg d (rv_ble (b:=(57:UInt8)) u u) (lg a (rv_pick_t u d u) (lv (rv_pick_f u a u) (av u (nq (wc_ret ?_))))))
   cases oi l
   exact ey results94 ⟨K,u,hS⟩
  refine lu d (lu d (lg a (p_f u d u) (lv (rv_pick_f u a u) (av u (nq (wc_ret ?_))))))
  cases oi l
  exact ey results94 ⟨K,u,hS⟩
 refine lu c (lu c (lv (p_f u c u) (mv u (lg u (rv_move u) (lg u (rv_bge (b:=(48:UInt8)) u u) (lg u (rv_move u) (bt i (fun f m=>?_) (fun f m=>?_))))))))
 ·refine lg f (rv_move u) (lg f (rv_ble (b:=(57:UInt8)) u u) (lg u (rv_pick_t u f u) (lv (rv_pick_f u u u) (av u (nq (wc_ret ?_))))))
  cases oi m
  exact ey results94 ⟨K,u,hS⟩
 refine lu f (lu f (lg u (p_f u f u) (lv (rv_pick_f u u u) (av u (nq (wc_ret ?_))))))
 cases oi m
 exact ey results94 ⟨K,u,hS⟩

theorem ok_impl_WordOk {q0:Str}{r:Bool}(hS:SH w K [] w K [])(f:q0.length≤maxLen)(hm:M.impl_WordOk F q0=some r):
  Calls prog 48 #[sv q0] w (R_b w K r):=by
 rw [M.impl_WordOk] at hm
 refine ci func48 u ntmps48 (sr (lv (r_f u) (nsr (mv u (lv (rv_slen underlying9 u) (lv (r_m u) (nq ?_)))))))
 obtain⟨y,A,a⟩:=ob hm
 refine wc_cutg (IE y w K [] K [(0,sv q0)] []) ?_ ?_
 ·refine wc_block ?_
  obtain⟨Y,B,i⟩:=ob A
  refine qf (fun (k:Nat) (l:Unit)=>IV w K [] K [(0,sv q0),(5,V6 (q0.length:Int)),(6,V6 ((k:Nat):Int))] []) B ⟨K,u,hS,kr⟩ ?_ ?_
  ·rintro k l _ C aa hi21 D G ⟨m,rfl,b,c⟩
   refine sr (lv (rv_lss u u) (ns (wc_cond_t u (decide_eq_true (by omega)) (wc_skip (qe_seq (wc_seq (wc_block (sr (mv u (av u (nr (mv u ?_))))))))))))
   refine mv u ?_
   obtain⟨ab,H,I⟩:=ob D
   refine lv (rv_sidx underlying9 u u H) ?_
   obtain⟨ac,J,O⟩:=ob I
   refine lk co94 (ok_impl_wordByte F b.enter0 J) ?_
   rintro ad ae ⟨o,rfl,q⟩
   have s:=(b.c0 q).t0
   refine lv (rv_not u) (nq (wcc O u (fun R d=>?_) (fun R d=>?_)))
   ·refine sr (lv (r_f u) (nq (wc_ret (qe_block_ret (qe_then_ret (qe_then_ret ?_))))))
    cases oi d
    cases G _ u
    refine qe_block_ret (qe_then_ret ?_)
    cases oi i
    refine qe_then_ret ?_
    cases oi a
    exact ey results48 ⟨o,u,s⟩
   refine wc_skip (qe_block (qg (lv (rv_add_to u u (w64_succ hi21 f)) (mv u (wl_nil ?_)))))
   cases oi d
   exact qd ⟨_,u,o,u,s,(c.trans q.le)⟩
  rintro l _ C S ⟨m,rfl,b,c⟩
  subst S
  refine sr (lv (rv_lss u u) (ns (wc_cond_f u (decide_eq_false (by omega)) (wc_exit (qe_then_exit (qe_then_exit (qe_block_eq ?_)))))))
  cases oi i
  exact qd ⟨_,m,u,u,b,c⟩
 rintro _ w9 ⟨s5,K6,rfl,rfl,x,ai⟩
 have a:=elim_l a
 refine qr (mv u (lv (rv_slen underlying9 u) ?_))
 obtain⟨aj,T,U⟩:=ob a
 refine lk co83 (ok_impl_within F x.enter0 (rng_nat f) (by decide :rng64 1) (by decide :rng64 12) T) ?_
 rintro ak al ⟨V,rfl,W⟩
 have X:=(x.c0 W).t0
 refine av u (nq (wc_ret ?_))
 cases oi U
 exact ey results48 ⟨V,u,X⟩

theorem ok_impl_wordsAscend {q0:List Str}{r:Bool}(hS:SH w K [] w K [])(l:SliceAt tStr K A a b q0)(hm:M.impl_wordsAscend F q0=some r):
  Calls prog 82 #[V3 A a b] w (R_b w K r):=by
 rw [M.impl_wordsAscend] at hm
 refine ci func82 u ntmps82 (sr (lv (r_f u) (nsr (mv u (lv (rv_len underlying22 u l) (lv (r_m u) (nq ?_)))))))
 obtain⟨J,O,m⟩:=ob hm
 refine wc_cutg (IE J w K [] K [] []) ?_ ?_
 ·refine wc_block ?_
  obtain⟨aA,R,D⟩:=ob O
  refine qf (fun (q:Nat) (G:Unit)=>IV w K [] K [(0,V3 A a b),(5,V3 A a b),(6,V6 (q0.length:Int)),(7,V6 ((q:Nat):Int))] []) R ⟨K,u,hS,kr⟩ ?_ ?_
  ·rintro q G _ S aB hi23 T U ⟨s,rfl,f,i⟩
   refine sr (lv (rv_lss u u) (ns (wc_cond_t u (decide_eq_true (by omega)) (wc_skip (qe_seq (wc_seq (wc_block (sr (mv u ?_)))))))))
   obtain⟨V,W,X⟩:=ob T
   refine li underlying22 tf9 (l.mono i) W fun Y aa aC ab ac=>?_
   obtain⟨rfl,ad⟩:=ab
   have ae:AtK _ Y aa [sv V]:=ac
   refine lv (rv_load1 tf9 u f (ae 0 _ u)) (av u (av u (ns ?_)))
   obtain⟨af,ag,ah⟩:=ob X
   refine wc_cutg (IV w K [] s [(0,V3 A a b),(5,V3 A a b),(6,V6 (q0.length:Int)),(7,V6 ((q:Nat):Int)),(27,.bool af)] []) ?_ ?_
   ·refine wc_region (mv u ?_)
    obtain⟨aD,ai,aj⟩:=ob ag
    refine lk co48 (ok_impl_WordOk F f.enter0 ad ai) ?_
    rintro aE aF ⟨x,rfl,k⟩
    have o:=(f.c0 k).t0
    refine lv (rv_not u) (mv u (bt aj (fun c y=>?_) (fun c y=>?_)))
    ·refine lu c (lu c (lu c (wl_un (uu u u) u (wl_un (uu u u) u (wl_un (uu u u) u (wl_un (uu u u) u (wl_un (uu u u) u (wl_un (uu u u) u (wl_un (uu u u) u ?_)))))))))
     refine lu c (lv (p_t u c u) (wl_nil ?_))
     cases oi y
     exact qd ⟨x,u,o,k.le⟩
    refine lg c (rv_move u) (lg c (rv_gtr u u) (lg c (rv_move u) (bt y (fun d B=>?_) (fun d B=>?_))))
    ·refine lg d (rv_move u) (lg d (rv_move u) (lg d (rv_sub u u) ?_))
     obtain⟨ak,al,am⟩:=ob B
     refine wl_indexAddr (t:=tStr) (wg u u d) u underlying22 tf9 u u (l.mono (i.trans k.le)) al fun an ao aG ap aq=>?_
     obtain⟨rfl,aH⟩:=ap
     have ar:AtK _ an ao [sv ak]:=aq
     refine lg d (rv_load1 tf9 u o (ar 0 _ u)) (lg d (rv_move u) (lg d (rv_sgeq u u) (lg c (rv_pick_t u d u) (lv (rv_pick_f u c u) (wl_nil ?_)))))
     cases oi am
     exact qd ⟨x,u,o,k.le⟩
    iterate 7 refine lu d ?_
    refine lg c (p_f u d u) (lv (rv_pick_f u c u) (wl_nil ?_))
    cases oi B
    exact qd ⟨x,u,o,k.le⟩
   rintro _ aI ⟨H,rfl,I,au⟩
   refine qe_seq (wcc ah u (fun aw C=>?_) (fun aw C=>?_))
   ·refine sr (lv (r_f u) (nq (wc_ret (qe_block_ret (qe_then_ret (qe_then_ret ?_))))))
    cases oi C
    cases U _ u
    refine qe_block_ret (qe_then_ret ?_)
    cases oi D
    refine qe_then_ret ?_
    cases oi m
    exact ey results82 ⟨H,u,I⟩
   refine wc_skip (qe_block (qg (lv (rv_add_to u u (w64_succ hi23 (SliceAt.max l))) (mv u (wl_nil ?_)))))
   cases oi C
   exact qd ⟨_,u,H,u,I,(i.trans au)⟩
  rintro G _ S ax ⟨s,rfl,f,i⟩
  subst ax
  refine sr (lv (rv_lss u u) (ns (wc_cond_f u (decide_eq_false (by omega)) (wc_exit (qe_then_exit (qe_then_exit (qe_block_eq ?_)))))))
  cases oi D
  exact qe_mid' ⟨_,s,u,u,f,i⟩ trivial
 rintro _ aJ ⟨s8,K9,rfl,rfl,az,aL⟩
 have m:=elim_l m
 refine qr (lv (r_t u) (nq (wc_ret ?_)))
 cases oi m
 exact ey results82 ⟨K9,u,az⟩

theorem ok_stringslite_HasSuffix {q0:Str}{q1:Str}{r:Bool}(hS:SH w K [] w K [])(f:q0.length≤maxLen)(i:q1.length≤maxLen)(hm:M.stringslite_HasSuffix F q0 q1=some r):
  Calls prog 176 #[sv q0,sv q1] w (R_b w K r):=by
 rw [M.stringslite_HasSuffix] at hm
 refine ci func176 u ntmps176 (sr (lv (r_f u) (nr (mv u (lv (rv_slen underlying9 u) (mv u (lv (rv_slen underlying9 u) (lv (rv_geq u u) (mv u ?_)))))))))
 refine bt hm (fun a b=>?_) (fun a b=>?_)
 ·refine lg a (rv_move u) (lg a (rv_move u) (lg a (rv_slen underlying9 u) (lg a (rv_move u) (lg a (rv_slen underlying9 u) (lg a (rv_sub u u) ?_)))))
  obtain⟨k,c,d⟩:=ob b
  refine lg a (rv_ssl_l underlying9 u u c) (lg a (rv_move u) (lg a (rv_seql u u) (lv (rv_pick_t u a u) (av u (nq (wc_ret ?_))))))
  cases oi d
  exact ey results176 ⟨K,u,hS⟩
 iterate 9 refine lu a ?_
 refine lv (p_f u a u) (av u (nq (wc_ret ?_)))
 cases oi b
 exact ey results176 ⟨K,u,hS⟩

theorem ok_strings_HasSuffix {q0:Str}{q1:Str}{r:Bool}(hS:SH w K [] w K [])(a:q0.length≤maxLen)(b:q1.length≤maxLen)(hm:M.strings_HasSuffix F q0 q1=some r):
  Calls prog 131 #[sv q0,sv q1] w (R_b w K r):=by
 rw [M.strings_HasSuffix] at hm
 refine ci func131 u ntmps131 (sr (lv (r_f u) (nr (mv u (mv u ?_)))))
 obtain⟨l,c,d⟩:=ob hm
 refine lk co176 (ok_stringslite_HasSuffix F hS.enter0 a b c) ?_
 rintro m o ⟨f,rfl,i⟩
 have k:=(hS.c0 i).t0
 refine av u (nq (wc_ret ?_))
 cases oi d
 exact ey results131 ⟨f,u,k⟩

theorem ok_impl_StemOf {q0:Str}{r:Str}(hS:SH w K [] w K [])(D:q0.length≤maxLen)(hm:M.impl_StemOf F q0=some r):
  Calls prog 84 #[sv q0] w fun e w'=>∃K',e= .returned (sv r)∧SH w K [] w' K' []∧r.length≤maxLen:=by
 rw [M.impl_StemOf] at hm
 refine ci func84 u ntmps84 (sr (lv (r_s u) (nsr (mv u ?_))))
 obtain⟨r2,ab,h4⟩:=ob hm
 refine lk co48 (ok_impl_WordOk F hS.enter0 D ab) ?_
 rintro e8 w6 ⟨i,rfl,ad⟩
 have G:=(hS.c0 ad).t0
 refine lv (rv_not u) (nq (wcc h4 u (fun ae l=>?_) (fun ae l=>?_)))
 ·refine sr (lv (r_s u) (nq (rr ?_)))
  cases oi l
  exact ey results84 ⟨i,u,G,(by decide :([]:Str).length≤maxLen)⟩
 refine wc_skip (qs (sr (lv (r_t u) (nq ?_))))
 obtain⟨H,af,ag⟩:=ob l
 refine wc_cutg (IW w K [] i [(0,sv H)] [] (H.length≤maxLen)) ?_ ?_
 ·refine wc_block ?_
  obtain⟨aZ,ah,ai⟩:=ob af
  refine qw (fun (k:Str×Bool)=>IW w K [] i [(0,sv k.1),(3,.bool k.2)] [] (k.1.length≤maxLen)) ah ⟨i,u,G,kr,D⟩ ?_
  rintro k _ ba bb aj ak ⟨al,rfl,I,J,O⟩
  refine wc_seq (sr (mv u (nq (wcc aj u (fun am m=>?_) (fun am m=>?_)))))
  ·refine wc_skip (qe_seq (wc_block (sr (lv (r_f u) (nr (bw [[105,110,103],[101,100],[101,115],[108,121],[115]] underlying22 tf9 I fun R bc o an q ao=>(lv (rv_len underlying22 u q) (lv (r_m u) (nq ?_)))))))))
   obtain⟨s,ap,aq⟩:=ob m
   refine wc_cutg (IW w K [] o [(0,sv s.1),(3,.bool s.2)] [] (s.1.length≤maxLen)) ?_ ?_
   ·refine wc_block ?_
    obtain⟨bd,ar,S⟩:=ob ap
    have au:=ao.sb (sd sz)
    refine qf (fun (x:Nat) (b:Str×Bool)=>IW w K [] o [(0,sv b.1),(3,.bool b.2),(10,V3 R 5 5),(11,V6 (([([105,110,103]:Str),([101,100]:Str),([101,115]:Str),([108,121]:Str),([115]:Str)]:List Str).length:Int)),(12,V6 ((x:Nat):Int))] [] (b.1.length≤maxLen)) ar ⟨o,u,au,kr,O⟩ ?_ ?_
    ·rintro x b _ aw be hi60 ax ay ⟨y,rfl,c,d,f⟩
     refine sr (lv (rv_lss u u) (ns (wc_cond_t u (decide_eq_true (by omega)) (wc_skip (qe_seq (wc_seq (wc_block (sr ?_))))))))
     obtain⟨T,az,aA⟩:=ob ax
     refine li underlying22 tf9 (q.mono d) az fun aB aC bf aD aE=>?_
     obtain⟨rfl,aF⟩:=aD
     have aG:AtK _ aB aC [sv T]:=aE
     refine lv (rv_load1 tf9 u c (aG 0 _ u)) (av u (ns ?_))
     obtain⟨aH,aI,aJ⟩:=ob aA
     refine wc_cutg (IV w K [] y [(0,sv b.1),(3,.bool b.2),(5,sv T),(10,V3 R 5 5),(11,V6 (([([105,110,103]:Str),([101,100]:Str),([101,115]:Str),([108,121]:Str),([115]:Str)]:List Str).length:Int)),(12,V6 ((x:Nat):Int)),(26,.bool aH)] []) ?_ ?_
     ·refine wc_region (mv u (mv u ?_))
      obtain⟨bg,aK,aL⟩:=ob aI
      refine lk co131 (ok_strings_HasSuffix F c.enter0 f aF aK) ?_
      rintro bh bi ⟨U,rfl,A⟩
      have V:=(c.c0 A).t0
      refine mv u (bt aL (fun a B=>?_) (fun a B=>?_))
      ·refine lg a (rv_move u) (lg a (rv_slen underlying9 u) (lg a (rv_move u) (lg a (rv_slen underlying9 u) (lg a (rv_sub u u) (lg a (rv_geq u u) (lv (rv_pick_t u a u) (wl_nil ?_)))))))
       cases oi B
       exact qd ⟨U,u,V,A.le⟩
      iterate 6 refine lu a ?_
      refine lv (p_f u a u) (wl_nil ?_)
      cases oi B
      exact qd ⟨U,u,V,A.le⟩
     rintro _ bj ⟨W,rfl,X,Y⟩
     refine qe_seq (wcc aJ u (fun aM C=>?_) (fun aM C=>?_))
     ·refine sr (mv u (mv u (lv (rv_slen underlying9 u) (mv u (lv (rv_slen underlying9 u) (lv (rv_sub u u) ?_))))))
      obtain⟨bk,aa,aN⟩:=ob C
      refine lv (rv_ssl_h underlying9 u u aa) (av u (nr (lv (r_t u) (nq (wc_exit (qe_block_ne u (qe_then_exit (qe_then_exit ?_))))))))
      cases oi aN
      cases ay _ u
      refine qe_block_eq ?_
      cases oi S
      exact qd ⟨W,u,X,(d.trans Y),(len_sub f aa)⟩
     refine wc_skip (qe_block (qg (lv (rv_add_to u u (w64_succ hi60 (SliceAt.max q))) (mv u (wl_nil ?_)))))
     cases oi C
     exact qd ⟨_,u,W,u,X,(d.trans Y),f⟩
    rintro b _ aw aO ⟨y,rfl,c,d,f⟩
    subst aO
    refine sr (lv (rv_lss u u) (ns (wc_cond_f u (decide_eq_false (by omega)) (wc_exit (qe_then_exit (qe_then_exit (qe_block_eq ?_)))))))
    cases oi S
    exact qd ⟨y,u,c,d,f⟩
   rintro _ bl ⟨aP,rfl,aQ,aR,aS⟩
   refine qe_block ?_
   cases oi aq
   exact qd ⟨_,u,aP,u,aQ,((J.trans an).trans aR),aS⟩
  refine wc_exit (qe_then_exit (qe_then_exit ?_))
  cases oi m
  cases ak _ u
  refine qe_block_eq ?_
  cases oi ai
  exact qd ⟨al,u,I,J,O⟩
 rintro _ bm ⟨aT,rfl,aU,bn,aV⟩
 refine qr (mv u (av u (nq (wc_ret ?_))))
 cases oi ag
 exact ey results84 ⟨aT,u,aU,aV⟩

theorem ok_slices_Index_string {q0:List Str}{q1:Str}{r:Int}(hS:SH w K [] w K [])(d:SliceAt tStr K A a b q0)(Y:q1.length≤maxLen)(hm:M.slices_Index_string F q0 q1=some r):
  Calls prog 132 #[V3 A a b,sv q1] w (R_i w K r):=by
 rw [M.slices_Index_string] at hm
 refine ci func132 u ntmps132 (sr (lv (r_0 u) (nsr (mv u (lv (rv_len underlying22 u d) (lv (r_m u) (nq ?_)))))))
 obtain⟨s,x,f⟩:=ob hm
 refine wc_cutg (IE s w K [] K [] []) ?_ ?_
 ·refine wc_block ?_
  obtain⟨aa,y,m⟩:=ob x
  refine qf (fun (o:Nat) (q:Unit)=>IV w K [] K [(0,V3 A a b),(1,sv q1),(7,V6 (q0.length:Int)),(8,V6 ((o:Nat):Int))] []) y ⟨K,u,hS,kr⟩ ?_ ?_
  ·rintro o q _ B ab hi24 C D ⟨i,rfl,c,k⟩
   refine sr (lv (rv_lss u u) (ns (wc_cond_t u (decide_eq_true (by omega)) (wc_skip (qe_seq (wc_seq (wc_block (sr (mv u (av u (nr (mv u ?_))))))))))))
   refine mv u (mv u ?_)
   obtain⟨G,H,I⟩:=ob C
   refine li underlying22 tf9 (d.mono k) H fun J O ac R S=>?_
   obtain⟨rfl,ad⟩:=R
   have T:AtK _ J O [sv G]:=S
   refine lv (rv_load1 tf9 u c (T 0 _ u)) (lv (rv_seql u u) (nq (wcc I u (fun U l=>?_) (fun U l=>?_))))
   ·refine sr (mv u (av u (nq (wc_ret (qe_block_ret (qe_then_ret (qe_then_ret ?_)))))))
    cases oi l
    cases D _ u
    refine qe_block_ret (qe_then_ret ?_)
    cases oi m
    refine qe_then_ret ?_
    cases oi f
    exact ey results132 ⟨i,u,c,(rng_idx hi24 (SliceAt.max d))⟩
   refine wc_skip (qe_block (qg (lv (rv_add_to u u (w64_succ hi24 (SliceAt.max d))) (mv u (wl_nil ?_)))))
   cases oi l
   exact qd ⟨_,u,i,u,c,k⟩
  rintro q _ B V ⟨i,rfl,c,k⟩
  subst V
  refine sr (lv (rv_lss u u) (ns (wc_cond_f u (decide_eq_false (by omega)) (wc_exit (qe_then_exit (qe_then_exit (qe_block_eq ?_)))))))
  cases oi m
  exact qe_mid' ⟨_,i,u,u,c,k⟩ trivial
 rintro _ ae ⟨s9,W,rfl,rfl,X,ag⟩
 have f:=elim_l f
 refine qr (lv (rv_assign (v:=V6 (-1)) u) (nq (wc_ret ?_)))
 cases oi f
 exact ey results132 ⟨W,u,X,(by decide :rng64 (-1))⟩
end Go.Proofs.YtpdfkjjmcnhakaaGreatDoor
