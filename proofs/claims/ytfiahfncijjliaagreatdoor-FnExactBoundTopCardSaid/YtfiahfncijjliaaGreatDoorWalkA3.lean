/-
 Walks of the functions. Printed by gen.py.
-/
import Derived.Test.YtfiahfncijjliaaGreatDoorFacts
set_option linter.unusedVariables false
set_option linter.unusedSectionVars false
set_option maxRecDepth 100000
namespace Go.Proofs.YtfiahfncijjliaaGreatDoor
set_option maxHeartbeats 4000000
open Go Go.Fk Go.RowKit Tryz
variable (F:Nat){w:World}{K:KMap}{Z:List Nat}{g1 g2 g3:Nat}{A B C D G H I J O R S T:Option Addr}{a b c d f i k l m n o p q s v x y aa ab ac ad ae af ag:Nat}
variable [dr:Dr]

theorem ok_laws_toField {q0:GField}{r:GField}(hS:SH w K [] w K [])(f:q0.Name.length≤maxLen)(i:q0.Text.length≤maxLen)(hm:M.laws_toField F q0=some r):
  Calls prog 153 #[.agg #[sv q0.Name,sv q0.Text]] w fun e w'=>∃K',e= .returned (.agg #[sv r.Name,sv r.Text])∧SH w K [] w' K' []∧r.Name.length≤maxLen∧r.Text.length≤maxLen:=by
 rw [M.laws_toField] at hm
 refine ci func153 u ntmps153 (sr (bx u hS fun g3 x k=>?_))
 have l:SH _ _ _ _ _ [obj g3 [sv q0.Name,sv q0.Text] 202]:=k
 refine al tf170 l fun m y o=>?_
 have q:SH _ _ _ _ _ [obj m [sv [],sv []] 170,_]:=o
 refine nr (al tf170 q fun s A v=>?_)
 have a:SH _ _ _ _ _ [obj s [sv [],sv []] 170,_,_]:=v
 refine nr (fl ff202_0 u tf9 m2 a u (fa ff170_0 u (ls [sv q0.Name,sv []] (sv q0.Name) tf9 a fun B b=>(nr (fl ff202_1 u tf9 m2 b u (fa ff170_1 u (ls [sv q0.Name,sv q0.Text] (sv q0.Text) tf9 b fun C c=>(nr (lv (rv_loadmS (ds:=[sv q0.Name,sv q0.Text]) tf170 u m0 c u u) ?_)))))))))
 refine lw [sv q0.Name,sv q0.Text] tf170 c.f1 fun D d=>(nq (wc_ret ?_))
 cases oi hm
 exact ez results153 tf170 d m0 ⟨K,u,d.s,f,i⟩

theorem ok_laws_toFieldS {q0:List GField}{r:(List GField)}(hS:SH w K [] w K [])(y:SliceAt tGField K A a b q0)(hm:M.laws_toFieldS F q0=some r):
  Calls prog 111 #[V3 A a b] w fun e w'=>∃a_1 n_2 c_3 K',e= .returned (V3 a_1 n_2 c_3)∧SH w K [] w' K' [tail (V3 a_1 n_2 c_3) 170 2]∧SliceAt tGField K' a_1 n_2 c_3 r:=by
 rw [M.laws_toFieldS] at hm
 refine ci func111 u ntmps111 (sr (lv (r_n u) (nr (mv u (lv (rv_len underlying100 u y) ?_)))))
 obtain⟨O,R,S⟩:=ob hm
 refine wl_make (t:=tGField) wn u underlying86 tf170 u u u R ⟨u,(by decide :([]:Str).length≤maxLen),(by decide :([]:Str).length≤maxLen)⟩ hS fun f cs9 aA hmx13 hrow11 T=>?_
 obtain⟨m14,hm15⟩: ∃m,m=O.length:=⟨_,u⟩
 rw [←hm15] at hmx13
 rw [←hm15]
 refine av u (nsr (lv (r_0 u) (nq ?_)))
 obtain⟨D,U,V⟩:=ob S
 refine wc_cutg (fun E' w'=>∃cs23 l,E'=[(3,V3 (some ⟨f,0,none⟩) m14 m14)]∧SH w K [] w' l [obj f cs23 170]∧KLe K l∧RowAt true tGField l cs23 D∧m14=D.length) ?_ ?_
 ·refine wc_block ?_
  obtain⟨aB,W,X⟩:=ob U
  refine qw (fun (c:Int×(List GField)) E' w'=>∃cs36 k,E'=[(0,V3 A a b),(3,V3 (some ⟨f,0,none⟩) m14 m14),(4,V6 c.1)]∧SH w K [] w' k [obj f cs36 170]∧KLe K k∧rng64 c.1∧RowAt true tGField k cs36 c.2∧m14=c.2.length) W ⟨cs9,K,u,T,kr,d_0,hrow11,hm15⟩ ?_
  rintro c _ aC aD Y aa ⟨cs36,k,rfl,o,q,aE,hrow37,hm38⟩
  refine wc_seq (sr (mv u (mv u (lv (rv_len underlying100 u (y.mono q)) (lv (rv_lss u u) (nq (wcc Y u (fun ab B=>?_) (fun ab B=>?_))))))))
  ·refine wc_skip (qs (wc_block (wc_region (mv u (mv u (mv u (mv u ?_)))))))
   obtain⟨G,ac,ad⟩:=ob B
   refine li underlying100 tf202 (y.mono q) ac fun ae af aF ag ah=>?_
   obtain⟨rfl,ai,aj⟩:=ag
   have ak:AtK _ ae af [sv G.Name,sv G.Text]:=ah
   refine lv (rv_loadS tf202 u o ak u) ?_
   obtain⟨s,al,am⟩:=ob ad
   refine lk co153 (ok_laws_toField F o.enter0 ai aj al) ?_
   rintro aG aH ⟨an,rfl,x,ao,ap⟩
   have aq:=(o.c0 x).t1
   obtain⟨H,C,ar⟩:=ob am
   obtain⟨aI,au,aw⟩:=RowAt.at (RowAt.mono x.le hrow37) C
   obtain⟨rfl,aJ,aK⟩:=au
   have aL: ∀(j:Nat) (d:Value),[sv H.Name,sv H.Text][j]? =some d→cs36[c.1.toNat*tGField.size+j]? =some d:=aw
   refine lv (rv_indexRow (t:=tGField) underlying86 tf170 u u hm38 C) (wl_storeRow (t:=tGField) (v:=.agg #[sv s.Name,sv s.Text]) (e:=s) wn tf170 u u ⟨u,ao,ap⟩ aq (RowAt.mono x.le hrow37) C fun cs74 aM hrow76 ax=>?_)
   have hm78:=hm38.trans (List.length_set (i:=c.1.toNat) (a:=s)).symm
   refine nb (qe_seq (wc_region (mv u (lv (rv_add u u) (av u (wl_nil ?_))))))
   cases oi ar
   exact qd ⟨_,u,cs74,an,u,ax,(q.trans x.le),(w64_rng _),hrow76,hm78⟩
  refine wc_exit (qe_then_exit (qe_then_exit ?_))
  cases oi B
  cases aa _ u
  refine qe_block_eq ?_
  cases oi X
  exact qd ⟨cs36,k,u,o,q,hrow37,hm38⟩
 rintro _ aN ⟨cs23,l,rfl,ay,aO,hrow24,hm25⟩
 refine qr (mv u (av u (nq (wc_ret ?_))))
 obtain⟨az,aP,I,J⟩:=SH.freeze ay hrow24 (row_max hm25 hmx13)
 rw [←hm25] at I J
 cases oi V
 exact ey results111 ⟨(some ⟨f,0,none⟩),m14,m14,az,u,J,I⟩

theorem bag_laws_toFieldS (F:Nat){w:World}{K:KMap}{a1:Option Addr}{n2 c3:Nat}{p0_a:List GField}{r:(List GField)}(hS:SH w K [] w K [])(hs4:SliceAt tGField K a1 n2 c3 p0_a)(hm:M.laws_toFieldS F p0_a=some r):
  Calls Tryz.prog 111 #[.slice a1 n2 c3] w fun e w'=>∃(a_1:Option Addr) (n_2 c_3:Nat) (K':KMap) (B':List Nat),e= .returned (.slice a_1 n_2 c_3)∧SH w K [] w' K' [bag B']∧SliceAt tGField (K'.only B') a_1 n_2 c_3 r:=
 (ok_laws_toFieldS F hS hs4 hm).mono fun e w' ⟨a,n,c,K',he,hS',hs'⟩=>
  let ⟨B,hB,hb⟩:=SH.bagTail hS'
  ⟨a,n,c,K',B,he,hB,SliceAt.only_flat (t:=tGField) (fun h=>h) hs' hb⟩

theorem ok_laws_toAttr {q0:GAttr}{r:GAttr}(hS:SH w K [] w K [])(f:q0.Name.length≤maxLen)(i:rng64 q0.Num)(hm:M.laws_toAttr F q0=some r):
  Calls prog 154 #[.agg #[sv q0.Name,V6 q0.Num]] w fun e w'=>∃K',e= .returned (.agg #[sv r.Name,V6 r.Num])∧SH w K [] w' K' []∧r.Name.length≤maxLen∧rng64 r.Num:=by
 rw [M.laws_toAttr] at hm
 refine ci func154 u ntmps154 (sr (bx u hS fun g3 x k=>?_))
 have l:SH _ _ _ _ _ [obj g3 [sv q0.Name,V6 q0.Num] 204]:=k
 refine al tf183 l fun m y o=>?_
 have q:SH _ _ _ _ _ [obj m [sv [],V6 0] 183,_]:=o
 refine nr (al tf183 q fun s A v=>?_)
 have a:SH _ _ _ _ _ [obj s [sv [],V6 0] 183,_,_]:=v
 refine nr (fl ff204_0 u tf9 m2 a u (fa ff183_0 u (ls [sv q0.Name,V6 0] (sv q0.Name) tf9 a fun B b=>(nr (fl ff204_1 u tf3 m2 b u (fa ff183_1 u (ls [sv q0.Name,V6 q0.Num] (V6 q0.Num) tf3 b fun C c=>(nr (lv (rv_loadmS (ds:=[sv q0.Name,V6 q0.Num]) tf183 u m0 c u u) ?_)))))))))
 refine lw [sv q0.Name,V6 q0.Num] tf183 c.f1 fun D d=>(nq (wc_ret ?_))
 cases oi hm
 exact ez results154 tf183 d m0 ⟨K,u,d.s,f,i⟩

theorem ok_laws_toAttrS {q0:List GAttr}{r:(List GAttr)}(hS:SH w K [] w K [])(y:SliceAt tGAttr K A a b q0)(hm:M.laws_toAttrS F q0=some r):
  Calls prog 112 #[V3 A a b] w fun e w'=>∃a_1 n_2 c_3 K',e= .returned (V3 a_1 n_2 c_3)∧SH w K [] w' K' [tail (V3 a_1 n_2 c_3) 183 2]∧SliceAt tGAttr K' a_1 n_2 c_3 r:=by
 rw [M.laws_toAttrS] at hm
 refine ci func112 u ntmps112 (sr (lv (r_n u) (nr (mv u (lv (rv_len underlying101 u y) ?_)))))
 obtain⟨O,R,S⟩:=ob hm
 refine wl_make (t:=tGAttr) wn u underlying87 tf183 u u u R ⟨u,(by decide :([]:Str).length≤maxLen),d_0⟩ hS fun f cs9 aA hmx13 hrow11 T=>?_
 obtain⟨m14,hm15⟩: ∃m,m=O.length:=⟨_,u⟩
 rw [←hm15] at hmx13
 rw [←hm15]
 refine av u (nsr (lv (r_0 u) (nq ?_)))
 obtain⟨D,U,V⟩:=ob S
 refine wc_cutg (fun E' w'=>∃cs23 l,E'=[(3,V3 (some ⟨f,0,none⟩) m14 m14)]∧SH w K [] w' l [obj f cs23 183]∧KLe K l∧RowAt true tGAttr l cs23 D∧m14=D.length) ?_ ?_
 ·refine wc_block ?_
  obtain⟨aB,W,X⟩:=ob U
  refine qw (fun (c:Int×(List GAttr)) E' w'=>∃cs36 k,E'=[(0,V3 A a b),(3,V3 (some ⟨f,0,none⟩) m14 m14),(4,V6 c.1)]∧SH w K [] w' k [obj f cs36 183]∧KLe K k∧rng64 c.1∧RowAt true tGAttr k cs36 c.2∧m14=c.2.length) W ⟨cs9,K,u,T,kr,d_0,hrow11,hm15⟩ ?_
  rintro c _ aC aD Y aa ⟨cs36,k,rfl,o,q,aE,hrow37,hm38⟩
  refine wc_seq (sr (mv u (mv u (lv (rv_len underlying101 u (y.mono q)) (lv (rv_lss u u) (nq (wcc Y u (fun ab B=>?_) (fun ab B=>?_))))))))
  ·refine wc_skip (qs (wc_block (wc_region (mv u (mv u (mv u (mv u ?_)))))))
   obtain⟨G,ac,ad⟩:=ob B
   refine li underlying101 tf204 (y.mono q) ac fun ae af aF ag ah=>?_
   obtain⟨rfl,ai,aj⟩:=ag
   have ak:AtK _ ae af [sv G.Name,V6 G.Num]:=ah
   refine lv (rv_loadS tf204 u o ak u) ?_
   obtain⟨s,al,am⟩:=ob ad
   refine lk co154 (ok_laws_toAttr F o.enter0 ai aj al) ?_
   rintro aG aH ⟨an,rfl,x,ao,ap⟩
   have aq:=(o.c0 x).t1
   obtain⟨H,C,ar⟩:=ob am
   obtain⟨aI,au,aw⟩:=RowAt.at (RowAt.mono x.le hrow37) C
   obtain⟨rfl,aJ,aK⟩:=au
   have aL: ∀(j:Nat) (d:Value),[sv H.Name,V6 H.Num][j]? =some d→cs36[c.1.toNat*tGAttr.size+j]? =some d:=aw
   refine lv (rv_indexRow (t:=tGAttr) underlying87 tf183 u u hm38 C) (wl_storeRow (t:=tGAttr) (v:=.agg #[sv s.Name,V6 s.Num]) (e:=s) wn tf183 u u ⟨u,ao,ap⟩ aq (RowAt.mono x.le hrow37) C fun cs74 aM hrow76 ax=>?_)
   have hm78:=hm38.trans (List.length_set (i:=c.1.toNat) (a:=s)).symm
   refine nb (qe_seq (wc_region (mv u (lv (rv_add u u) (av u (wl_nil ?_))))))
   cases oi ar
   exact qd ⟨_,u,cs74,an,u,ax,(q.trans x.le),(w64_rng _),hrow76,hm78⟩
  refine wc_exit (qe_then_exit (qe_then_exit ?_))
  cases oi B
  cases aa _ u
  refine qe_block_eq ?_
  cases oi X
  exact qd ⟨cs36,k,u,o,q,hrow37,hm38⟩
 rintro _ aN ⟨cs23,l,rfl,ay,aO,hrow24,hm25⟩
 refine qr (mv u (av u (nq (wc_ret ?_))))
 obtain⟨az,aP,I,J⟩:=SH.freeze ay hrow24 (row_max hm25 hmx13)
 rw [←hm25] at I J
 cases oi V
 exact ey results112 ⟨(some ⟨f,0,none⟩),m14,m14,az,u,J,I⟩

theorem bag_laws_toAttrS (F:Nat){w:World}{K:KMap}{a1:Option Addr}{n2 c3:Nat}{p0_a:List GAttr}{r:(List GAttr)}(hS:SH w K [] w K [])(hs4:SliceAt tGAttr K a1 n2 c3 p0_a)(hm:M.laws_toAttrS F p0_a=some r):
  Calls Tryz.prog 112 #[.slice a1 n2 c3] w fun e w'=>∃(a_1:Option Addr) (n_2 c_3:Nat) (K':KMap) (B':List Nat),e= .returned (.slice a_1 n_2 c_3)∧SH w K [] w' K' [bag B']∧SliceAt tGAttr (K'.only B') a_1 n_2 c_3 r:=
 (ok_laws_toAttrS F hS hs4 hm).mono fun e w' ⟨a,n,c,K',he,hS',hs'⟩=>
  let ⟨B,hB,hb⟩:=SH.bagTail hS'
  ⟨a,n,c,K',B,he,hB,SliceAt.only_flat (t:=tGAttr) (fun h=>h) hs' hb⟩

theorem bag_laws_toDoc (F:Nat){w:World}{K:KMap}{a2:Option Addr}{n3 c4:Nat}{a6:Option Addr}{n7 c8:Nat}{p0_a:GDoc}{r:GDoc}(hS:SH w K [] w K [])(hr1:rng64 p0_a.Id)(hs5:SliceAt tGField K a2 n3 c4 p0_a.Fields)(hs9:SliceAt tGAttr K a6 n7 c8 p0_a.Nums)(hm:M.laws_toDoc F p0_a=some r):
  Calls Tryz.prog 69 #[.agg #[.int .i64 p0_a.Id,.slice a2 n3 c4,.slice a6 n7 c8]] w fun e w'=>∃(a_2:Option Addr) (n_3 c_4:Nat) (a_6:Option Addr) (n_7 c_8:Nat) (K':KMap) (B':List Nat),e= .returned (.agg #[.int .i64 r.Id,.slice a_2 n_3 c_4,.slice a_6 n_7 c_8])∧SH w K [] w' K' [bag B']∧rng64 r.Id∧SliceAt tGField (K'.only B') a_2 n_3 c_4 r.Fields∧SliceAt tGAttr (K'.only B') a_6 n_7 c_8 r.Nums:=by
 rw [M.laws_toDoc] at hm
 refine calls_in Tryz.func69 u Tryz.ntmps69 u ?_
 refine sr ?_
 refine wl_box wn u u hS ?_
 intro g10 w11 hS12
 have hS13:SH _ _ _ _ _ [obj g10 [.int .i64 p0_a.Id,.slice a2 n3 c4,.slice a6 n7 c8] 103]:=hS12
 refine wl_alloc wn u tf89 hS13 ?_
 intro g14 w15 hS16
 have hS17:SH _ _ _ _ _ [obj g14 [.int .i64 0,.slice none 0 0,.slice none 0 0] 89,_]:=hS16
 refine nr ?_
 refine wl_alloc wn u tf89 hS17 ?_
 intro g18 w19 hS20
 have hS21:SH _ _ _ _ _ [obj g18 [.int .i64 0,.slice none 0 0,.slice none 0 0] 89,_,_]:=hS20
 refine nr ?_
 refine wl_val wn u (rv_fieldAddr ff103_0 u) ?_
 refine wl_val wn u (rv_loadm1 tf3 u (.tail _ (.tail _ (.head _))) hS21 u) ?_
 refine wl_val wn u (rv_fieldAddr ff89_0 u) ?_
 refine wl_store (cs':=[.int .i64 p0_a.Id,.slice none 0 0,.slice none 0 0]) (v:=.int .i64 p0_a.Id) wn tf3 u u u (by simp [Value.cells,Value.oneCell']) hS21 u u ?_
 intro w22 hS23
 refine nr ?_
 refine wl_val wn u (rv_fieldAddr ff103_1 u) ?_
 refine wl_val wn u (rv_loadm1 tf100 u (.tail _ (.tail _ (.head _))) hS23 u) ?_
 obtain⟨r24,hx25,h26⟩:=ob hm
 refine wl_call wn u (rt_call (vs:=[.slice a2 n3 c4]) co111 u) ((bag_laws_toFieldS F) hS23.enter0 hs5 hx25) ?_
 rintro e34 w28 ⟨a30,n31,c32,K27,B27,rfl,hS29,hs33⟩
 refine⟨_,u,?_⟩
 have hS35:SH _ _ _ _ _ [_,_,_,_]:=SH.call0 hS23 hS29
 refine wl_val wn u (rv_fieldAddr ff89_1 u) ?_
 have hS36:SH _ _ _ _ _ [_,_,_,_]:=SH.front (p:=[_]) hS35
 refine wl_store (cs':=[.int .i64 p0_a.Id,.slice a30 n31 c32,.slice none 0 0]) (v:=.slice a30 n31 c32) wn tf86 u u u (by simp [Value.cells,Value.oneCell']) hS36 u u ?_
 intro w37 hS38
 refine nr ?_
 refine wl_val wn u (rv_fieldAddr ff103_2 u) ?_
 refine wl_val wn u (rv_loadm1 tf101 u (.tail _ (.tail _ (.tail _ (.head _)))) hS38 u) ?_
 obtain⟨r39,hx40,h41⟩:=ob h26
 refine wl_call wn u (rt_call (vs:=[.slice a6 n7 c8]) co112 u) ((bag_laws_toAttrS F) hS38.enter0 (SliceAt.mono hS29.le hs9) hx40) ?_
 rintro e49 w43 ⟨a45,n46,c47,K42,B42,rfl,hS44,hs48⟩
 refine⟨_,u,?_⟩
 have hS50:SH _ _ _ _ _ [_,_,_,_,_]:=SH.call0 hS38 hS44
 refine wl_val wn u (rv_fieldAddr ff89_2 u) ?_
 have hS51:SH _ _ _ _ _ [_,_,_,_,_]:=SH.front (p:=[_]) hS50
 refine wl_store (cs':=[.int .i64 p0_a.Id,.slice a30 n31 c32,.slice a45 n46 c47]) (v:=.slice a45 n46 c47) wn tf87 u u u (by simp [Value.cells,Value.oneCell']) hS51 u u ?_
 intro w52 hS53
 refine nr ?_
 refine wl_val wn u (rv_loadmS (ds:=[.int .i64 p0_a.Id,.slice a30 n31 c32,.slice a45 n46 c47]) tf89 u (.head _) hS53 u u) ?_
 have hS54:SH _ _ _ _ _ [_,_,_,_,_]:=SH.front (p:=[_,_,_]) hS53
 refine wl_store (cs':=[.int .i64 p0_a.Id,.slice a30 n31 c32,.slice a45 n46 c47]) (v:=.agg #[.int .i64 p0_a.Id,.slice a30 n31 c32,.slice a45 n46 c47]) wn tf89 u u u (by simp [Value.cells,Value.oneCell']) hS54 u u ?_
 intro w55 hS56
 refine nq ?_
 refine wc_ret ?_
 obtain rfl:=oi h41
 have hS57:SH _ _ _ _ _ [_,_,_,_,_]:=SH.front (p:=[_,_]) hS56
 have hS58:SH _ _ _ _ _ [_,_,_,_,_]:=SH.front (p:=[_,_,_]) hS57
 have hS59:SH _ _ _ _ _ [_,_]:=SH.sublist hS58 (.cons_cons _ (.cons_cons _ (.cons _ (.cons _ (.cons _ .slnil)))))
 exact qe_ret (vs:=[_]) Tryz.results69 ⟨⟨_,_,u,run_loadVar_at tf89 (cs:=[.int .i64 p0_a.Id,.slice a30 n31 c32,.slice a45 n46 c47]) (fun j c e=>by rw [Nat.zero_add,hS56.mem_obj (.head _)];exact e) (.inl ⟨u,u,u⟩)⟩,trivial⟩ ⟨a30,n31,c32,a45,n46,c47,K42,(B27++B42),u,SH.bagJoin hS59,hr1,(SliceAt.mono (only_mono hS44.le fun _ h=>List.mem_append_left _ h) hs33),(SliceAt.mono (only_mono (KLe.refl _) fun _ h=>List.mem_append_right _ h) hs48)⟩

theorem bag_laws_toDocS (F:Nat){w:World}{K:KMap}{a1:Option Addr}{n2 c3:Nat}{p0_a:List GDoc}{r:(List GDoc)}(hS:SH w K [] w K [])(hs4:SliceAt tGDoc K a1 n2 c3 p0_a)(hm:M.laws_toDocS F p0_a=some r):
  Calls Tryz.prog 33 #[.slice a1 n2 c3] w fun e w'=>∃(a_1:Option Addr) (n_2 c_3:Nat) (K':KMap) (B':List Nat),e= .returned (.slice a_1 n_2 c_3)∧SH w K [] w' K' [bag B']∧SliceAt tGDoc (K'.only B') a_1 n_2 c_3 r:=by
 rw [M.laws_toDocS] at hm
 refine calls_in Tryz.func33 u Tryz.ntmps33 u ?_
 refine sr ?_
 refine wl_val wn u (rv_assign (v:=.slice none 0 0) u) ?_
 refine nr ?_
 refine vm u u ?_
 refine wl_val wn u (rv_len (t:=tGDoc) Tryz.underlying26 u hs4) ?_
 obtain⟨x5,hx6,h7⟩:=ob hm
 refine wl_make (t:=Ty.fix tGDoc (K.only [])) wn u Tryz.underlying38 tf89 u u u hx6 ⟨none,0,0,none,0,0,u,d_0,(SliceAt.nil _ _),(SliceAt.nil _ _)⟩ hS ?_
 intro g8 cs9 w10 hmx13 hrow11 hS12
 obtain⟨m14,hm15⟩: ∃m,m=x5.length:=⟨_,u⟩
 rw [←hm15] at hmx13
 rw [←hm15]
 refine va u u ?_
 refine nsr ?_
 refine wl_val wn u (rv_assign (v:=.int .i64 0) u) ?_
 refine nq ?_
 obtain⟨o16,h17,h18⟩:=ob h7
 refine wc_cutg (fun E' w'=>∃(cs23:List Value) (K19:KMap) (B19:List Nat),E'=[(3,.slice (some ⟨g8,0,none⟩) m14 m14)]∧SH w K [] w' K19 [obj g8 cs23 89,bag B19]∧KLe K K19∧RowAt true tGDoc (K19.only B19) cs23 o16∧m14=o16.length) ?_ ?_
 ·refine wc_block ?_
  obtain⟨r27,h28,h29⟩:=ob h17
  refine wc_while' (fun (s26:Int×(List GDoc)) E' w'=>∃(cs36:List Value) (K30:KMap) (B30:List Nat),E'=[(0,.slice a1 n2 c3),(3,.slice (some ⟨g8,0,none⟩) m14 m14),(4,.int .i64 s26.1)]∧SH w K [] w' K30 [obj g8 cs36 89,bag B30]∧KLe K K30∧rng64 s26.1∧RowAt true tGDoc (K30.only B30) cs36 s26.2∧m14=s26.2.length) h28 ⟨cs9,K,[],u,(SH.perm (SH.bag0 hS12) (List.Perm.swap _ _ _)),(KLe.refl _),d_0,hrow11,hm15⟩ ⟨u,u,u,trivial⟩ ?_
  rintro s26 _ w33 r39 h40 hx41 ⟨cs36,K30,B30,rfl,hS34,hl31,hr35,hrow37,hm38⟩
  refine wc_seq ?_
  refine sr ?_
  refine vm u u ?_
  refine vm u u ?_
  refine wl_val wn u (rv_len (t:=tGDoc) Tryz.underlying26 u (SliceAt.mono hl31 hs4)) ?_
  refine wl_val wn u (rv_lss u u) ?_
  refine nq ?_
  refine wc_cond u (fun hb42=>?_) (fun hb42=>?_)
  ·have h43:=cond_t hb42 h40
   refine wc_skip ?_
   refine qs ?_
   refine wc_block ?_
   refine wc_region ?_
   refine vm u u ?_
   refine vm u u ?_
   refine vm u u ?_
   refine vm u u ?_
   obtain⟨x44,hx45,h46⟩:=ob h43
   refine wl_indexAddr (t:=tGDoc) wn u Tryz.underlying26 tf103 u u (SliceAt.mono hl31 hs4) hx45 ?_
   intro b47 o48 u49 hu50 ha51
   obtain⟨a53,n54,c55,a57,n58,c59,rfl,hr52,hs56,hs60⟩:=hu50
   have ha61:AtK _ b47 o48 [.int .i64 x44.Id,.slice a53 n54 c55,.slice a57 n58 c59]:=ha51
   refine wl_val wn u (rv_loadS (cs:=[.int .i64 x44.Id,.slice a53 n54 c55,.slice a57 n58 c59]) tf103 u hS34 ha61 u) ?_
   obtain⟨r62,hx63,h64⟩:=ob h46
   refine wl_call wn u (rt_call (vs:=[.agg #[.int .i64 x44.Id,.slice a53 n54 c55,.slice a57 n58 c59]]) co69 u) ((bag_laws_toDoc F) hS34.enter0 hr52 hs56 hs60 hx63) ?_
   rintro e77 w66 ⟨a69,n70,c71,a73,n74,c75,K65,B65,rfl,hS67,hr68,hs72,hs76⟩
   refine⟨_,u,?_⟩
   have hS78:SH _ _ _ _ _ [_,_]:=SH.bagJoin (SH.perm (SH.call0 hS34 hS67) (List.Perm.cons _ (List.Perm.swap _ _ _)))
   obtain⟨x79,hx80,h81⟩:=ob h64
   obtain⟨u82,hu83,hk84⟩:=RowAt.at (RowAt.mono (only_mono hS67.le fun _ h=>h) hrow37) hx80
   obtain⟨a87,n88,c89,a91,n92,c93,rfl,hr86,hs90,hs94⟩:=hu83
   have hk85: ∀(j:Nat) (d:Value),[.int .i64 x79.Id,.slice a87 n88 c89,.slice a91 n92 c93][j]? =some d→cs36[s26.1.toNat*tGDoc.size+j]? =some d:=hk84
   refine wl_val wn u (rv_indexRow (t:=tGDoc) Tryz.underlying38 tf89 u u hm38 hx80) ?_
   have hS95:SH _ _ _ _ _ [_,_]:=SH.front (p:=[_]) hS78
   refine wl_storeRow (t:=Ty.fix tGDoc (K65.only (B65++B30))) (v:=.agg #[.int .i64 r62.Id,.slice a69 n70 c71,.slice a73 n74 c75]) (e:=r62) wn tf89 u u ⟨a69,n70,c71,a73,n74,c75,u,hr68,(SliceAt.mono (only_mono (KLe.refl _) fun _ h=>List.mem_append_left _ h) hs72),(SliceAt.mono (only_mono (KLe.refl _) fun _ h=>List.mem_append_left _ h) hs76)⟩ hS95 (show RowAt true tGDoc (K65.only (B65++B30)) _ _ from RowAt.mono (only_mono hS67.le fun _ h=>List.mem_append_right _ h) hrow37) hx80 ?_
   intro cs96 w97 hrow98 hS99
   have hm100:=hm38.trans (List.length_set (i:=s26.1.toNat) (a:=r62)).symm
   refine nb ?_
   refine qe_seq ?_
   refine wc_region ?_
   refine vm u u ?_
   refine wl_val wn u (rv_add u u) ?_
   refine va u u ?_
   refine wl_nil ?_
   obtain rfl:=oi h81
   have hS101:=hS99
   exact qe_mid' ⟨_,u,cs96,K65,(B65++B30),u,hS101,(hl31.trans hS67.le),(w64_rng _),hrow98,hm100⟩ ⟨u,u,u,trivial⟩
  ·have h43:=cond_f hb42 h40
   refine wc_exit ?_
   refine qe_then_exit ?_
   refine qe_then_exit ?_
   obtain rfl:=oi h43
   have e102:=hx41 _ u
   subst e102
   refine qe_block_eq ?_
   obtain rfl:=oi h29
   exact qe_mid' ⟨cs36,K30,B30,u,hS34,hl31,hrow37,hm38⟩ ⟨u,trivial⟩
 ·rintro _ w21 ⟨cs23,K19,B19,rfl,hS22,hl20,hrow24,hm25⟩
  refine qr ?_
  refine vm u u ?_
  refine va u u ?_
  refine nq ?_
  refine wc_ret ?_
  obtain⟨K103,hl104,hs105,hS106⟩:=SH.freeze (t:=Ty.fix tGDoc (K19.only B19)) hS22 hrow24 (row_max hm25 hmx13)
  rw [←hm25] at hs105 hS106
  obtain rfl:=oi h18
  obtain⟨Bz,hSz,hBz⟩:=SH.bagTail hS106
  exact qe_ret (vs:=[_]) Tryz.results33 ⟨u,trivial⟩ ⟨(some ⟨g8,0,none⟩),m14,m14,K103,(Bz++B19),u,SH.bagJoin hSz,SliceAt.unfix hs105 (only_mono hl104 fun _ h=>List.mem_append_right _ h) (fun hc b o e=>List.mem_append_left _ (hBz hc b o e))⟩

theorem ok_laws_eqStringS {q0:List Str}{q1:List Str}{r:Bool}(hS:SH w K [] w K [])(k:SliceAt tStr K A a b q0)(x:SliceAt tStr K B c d q1)(hm:M.laws_eqStringS F q0 q1=some r):
  Calls prog 23 #[V3 A a b,V3 B c d] w (R_b w K r):=by
 rw [M.laws_eqStringS] at hm
 refine ci func23 u ntmps23 (sr (lv (r_f u) (nsr (mv u (lv (rv_len underlying22 u k) (mv u (lv (rv_len underlying22 u x) (lv (rv_neq u u) (nq ?_)))))))))
 refine wc_cond u (fun l=>?_) (fun l=>?_)
 ·have m:=cond_t l hm
  refine sr (lv (r_f u) (nq (rr ?_)))
  cases oi m
  exact ey results23 ⟨K,u,hS⟩
 have m:=cond_f l hm
 refine wc_skip (qs (sr (lv (r_0 u) (nq ?_))))
 obtain⟨I,J,i⟩:=ob m
 refine wc_cutg (IE I w K [] K [] []) ?_ ?_
 ·refine wc_block ?_
  obtain⟨ap,O,y⟩:=ob J
  refine qw (fun (o:Int)=>IW w K [] K [(0,V3 A a b),(1,V3 B c d),(5,V6 o)] [] (rng64 o)) O ⟨K,u,hS,kr,d_0⟩ ?_
  rintro o _ aq ar R C ⟨S,rfl,D,f,au⟩
  refine wc_seq (sr (mv u (mv u (lv (rv_len underlying22 u (k.mono f)) (lv (rv_lss u u) (nq (wcc R u (fun T q=>?_) (fun T q=>?_))))))))
  ·refine wc_skip (qs (wc_block (wc_seq (wc_quiet mixed (by kernel_rfl) D (km u (km u ?_))))))
   obtain⟨U,V,W⟩:=ob q
   refine ki underlying22 tf9 (k.mono f) V fun X Y aw aa ab=>?_
   obtain⟨rfl,ax⟩:=aa
   have ac:AtK _ X Y [sv U]:=ab
   refine kh (rq_load1 tf9 u (ac 0 _ u)) (km u (km u ?_))
   obtain⟨ad,ae,af⟩:=ob W
   refine ki underlying22 tf9 (x.mono f) ae fun ag ah ay ai aj=>?_
   obtain⟨rfl,az⟩:=ai
   have ak:AtK _ ag ah [sv ad]:=aj
   refine kh (rq_load1 tf9 u (ak 0 _ u)) (kv (rv_sneq u u) (wq_nil ?_))
   rintro aA ⟨G,H,al⟩
   refine qe_seq (wcc af u (fun am s=>?_) (fun am s=>?_))
   ·refine sr (lv (r_f u) (nq (wc_ret (qe_block_ret (qe_then_ret (qe_then_ret ?_))))))
    cases oi s
    cases C _ u
    refine qe_block_ret (qe_then_ret ?_)
    cases oi y
    refine qe_then_ret ?_
    cases oi i
    exact ey results23 ⟨G,u,H⟩
   refine wc_skip (qe_block (qe_seq (wc_region (mv u (lv (rv_add u u) (av u (wl_nil ?_)))))))
   cases oi s
   exact qd ⟨_,u,G,u,H,(f.trans al),(w64_rng _)⟩
  refine wc_exit (qe_then_exit (qe_then_exit ?_))
  cases oi q
  cases C _ u
  refine qe_block_eq ?_
  cases oi y
  exact qe_mid' ⟨_,S,u,u,D,f⟩ trivial
 rintro _ aB ⟨aC,an,rfl,rfl,ao,aD⟩
 have i:=elim_l i
 refine qr (lv (r_t u) (nq (wc_ret ?_)))
 cases oi i
 exact ey results23 ⟨an,u,ao⟩

theorem ok_laws_eqSyn {q0:GSyn}{q1:GSyn}{r:Bool}(hS:SH w K [] w K [])(o:SliceAt tStr K A a b q0.From)(R:q0.To.length≤maxLen)(q:SliceAt tStr K B c d q1.From)(S:q1.To.length≤maxLen)(hm:M.laws_eqSyn F q0 q1=some r):
  Calls prog 77 #[.agg #[V3 A a b,sv q0.To],.agg #[V3 B c d,sv q1.To]] w (R_b w K r):=by
 rw [M.laws_eqSyn] at hm
 refine ci func77 u ntmps77 (sr (bx u hS fun s T x=>?_))
 have y:SH _ _ _ _ _ [obj s [V3 A a b,sv q0.To] 120]:=x
 refine bx u y fun C U D=>?_
 have i:SH _ _ _ _ _ [obj C [V3 B c d,sv q1.To] 120,_]:=D
 refine lv (r_f u) (nsr (fl ff120_0 u tf22 m1 i u (fl ff120_0 u tf22 m0 i u ?_)))
 obtain⟨V,G,H⟩:=ob hm
 refine lk co23 (ok_laws_eqStringS F i.enter0 o q G) ?_
 rintro W X ⟨k,rfl,I⟩
 have f:=(i.c0 I).t2
 refine lv (rv_not u) (nq (wcc H u (fun J l=>?_) (fun J l=>?_)))
 ·refine sr (lv (r_f u) (nq (rr ?_)))
  cases oi l
  exact ey results77 ⟨k,u,f.s⟩
 refine wc_skip (qs (sr (fl ff120_1 u tf9 m1 f u (fl ff120_1 u tf9 m0 f u (lv (rv_sneq u u) (nq (wcc l u (fun O m=>?_) (fun O m=>?_))))))))
 ·refine sr (lv (r_f u) (nq (rr ?_)))
  cases oi m
  exact ey results77 ⟨k,u,f.s⟩
 refine wc_skip (qr (lv (r_t u) (nq (wc_ret ?_))))
 cases oi m
 exact ey results77 ⟨k,u,f.s⟩

theorem ok_laws_eqSynS {q0:List GSyn}{q1:List GSyn}{r:Bool}(hS:SH w K [] w K [])(k:SliceAt tGSyn K A a b q0)(x:SliceAt tGSyn K B c d q1)(hm:M.laws_eqSynS F q0 q1=some r):
  Calls prog 38 #[V3 A a b,V3 B c d] w (R_b w K r):=by
 rw [M.laws_eqSynS] at hm
 refine ci func38 u ntmps38 (sr (lv (r_f u) (nsr (mv u (lv (rv_len underlying34 u k) (mv u (lv (rv_len underlying34 u x) (lv (rv_neq u u) (nq ?_)))))))))
 refine wc_cond u (fun l=>?_) (fun l=>?_)
 ·have m:=cond_t l hm
  refine sr (lv (r_f u) (nq (rr ?_)))
  cases oi m
  exact ey results38 ⟨K,u,hS⟩
 have m:=cond_f l hm
 refine wc_skip (qs (sr (lv (r_0 u) (nq ?_))))
 obtain⟨J,O,i⟩:=ob m
 refine wc_cutg (IE J w K [] K [] []) ?_ ?_
 ·refine wc_block ?_
  obtain⟨aG,R,y⟩:=ob O
  refine qw (fun (o:Int)=>IW w K [] K [(0,V3 A a b),(1,V3 B c d),(5,V6 o)] [] (rng64 o)) R ⟨K,u,hS,kr,d_0⟩ ?_
  rintro o _ aH aI S C ⟨T,rfl,D,f,aJ⟩
  refine wc_seq (sr (mv u (mv u (lv (rv_len underlying34 u (k.mono f)) (lv (rv_lss u u) (nq (wcc S u (fun U q=>?_) (fun U q=>?_))))))))
  ·refine wc_skip (qs (wc_block (wc_seq (wc_quiet mixed (by kernel_rfl) D (km u (km u ?_))))))
   obtain⟨V,W,X⟩:=ob q
   refine ki underlying34 tf120 (k.mono f) W fun Y aa aK ab ac=>?_
   obtain⟨ad,ae,af,rfl,ag,ah⟩:=ab
   have ai:AtK _ Y aa [V3 ad ae af,sv V.To]:=ac
   refine kh (rq_loadS tf120 u ai u) (km u (km u ?_))
   obtain⟨aj,ak,al⟩:=ob X
   refine ki underlying34 tf120 (x.mono f) ak fun am an aL ao ap=>?_
   obtain⟨aq,ar,au,rfl,aw,ax⟩:=ao
   have ay:AtK _ am an [V3 aq ar au,sv aj.To]:=ap
   refine kh (rq_loadS tf120 u ay u) ?_
   obtain⟨aM,az,aA⟩:=ob al
   refine kc co77 (fun _ _ aB G=>(ok_laws_eqSyn F) aB.enter0 (ag.mono G) ah (aw.mono G) ax az) (kv (rv_not u) (wq_nil ?_))
   rintro aN ⟨H,I,aC⟩
   refine qe_seq (wcc aA u (fun aD s=>?_) (fun aD s=>?_))
   ·refine sr (lv (r_f u) (nq (wc_ret (qe_block_ret (qe_then_ret (qe_then_ret ?_))))))
    cases oi s
    cases C _ u
    refine qe_block_ret (qe_then_ret ?_)
    cases oi y
    refine qe_then_ret ?_
    cases oi i
    exact ey results38 ⟨H,u,I⟩
   refine wc_skip (qe_block (qe_seq (wc_region (mv u (lv (rv_add u u) (av u (wl_nil ?_)))))))
   cases oi s
   exact qd ⟨_,u,H,u,I,(f.trans aC),(w64_rng _)⟩
  refine wc_exit (qe_then_exit (qe_then_exit ?_))
  cases oi q
  cases C _ u
  refine qe_block_eq ?_
  cases oi y
  exact qe_mid' ⟨_,T,u,u,D,f⟩ trivial
 rintro _ aO ⟨aP,aE,rfl,rfl,aF,aQ⟩
 have i:=elim_l i
 refine qr (lv (r_t u) (nq (wc_ret ?_)))
 cases oi i
 exact ey results38 ⟨aE,u,aF⟩

theorem ok_laws_eqConf {q0:GConf}{q1:GConf}{r:Bool}(hS:SH w K [] w K [])(H:SliceAt tStr K A a b q0.Stops)(I:SliceAt tGSyn K B c d q0.Syns)(J:SliceAt tStr K C f i q1.Stops)(O:SliceAt tGSyn K D k l q1.Syns)(hm:M.laws_eqConf F q0 q1=some r):
  Calls prog 12 #[.agg #[V3 A a b,V3 B c d],.agg #[V3 C f i,V3 D k l]] w (R_b w K r):=by
 rw [M.laws_eqConf] at hm
 refine ci func12 u ntmps12 (sr (bx u hS fun R af S=>?_))
 have T:SH _ _ _ _ _ [obj R [V3 A a b,V3 B c d] 36]:=S
 refine bx u T fun U ag V=>?_
 have o:SH _ _ _ _ _ [obj U [V3 C f i,V3 D k l] 36,_]:=V
 refine lv (r_f u) (nsr (fl ff36_0 u tf22 m1 o u (fl ff36_0 u tf22 m0 o u ?_)))
 obtain⟨ah,W,X⟩:=ob hm
 refine lk co23 (ok_laws_eqStringS F o.enter0 H J W) ?_
 rintro ai aj ⟨Y,rfl,q⟩
 have m:=(o.c0 q).t2
 refine lv (rv_not u) (nq (wcc X u (fun aa s=>?_) (fun aa s=>?_)))
 ·refine sr (lv (r_f u) (nq (rr ?_)))
  cases oi s
  exact ey results12 ⟨Y,u,m.s⟩
 refine wc_skip (qs (sr (fl ff36_1 u tf34 m1 m u (fl ff36_1 u tf34 m0 m u ?_))))
 obtain⟨ak,ab,ac⟩:=ob s
 refine lk co38 (ok_laws_eqSynS F m.enter0 (I.mono q.le) (O.mono q.le) ab) ?_
 rintro al am ⟨y,rfl,ad⟩
 have G:=(m.c0 ad).t2
 refine lv (rv_not u) (nq (wcc ac u (fun ae x=>?_) (fun ae x=>?_)))
 ·refine sr (lv (r_f u) (nq (rr ?_)))
  cases oi x
  exact ey results12 ⟨y,u,G.s⟩
 refine wc_skip (qr (lv (r_t u) (nq (wc_ret ?_))))
 cases oi x
 exact ey results12 ⟨y,u,G.s⟩

theorem ok_laws_eqField {q0:GField}{q1:GField}{r:Bool}(hS:SH w K [] w K [])(q:q0.Name.length≤maxLen)(s:q0.Text.length≤maxLen)(x:q1.Name.length≤maxLen)(y:q1.Text.length≤maxLen)(hm:M.laws_eqField F q0 q1=some r):
  Calls prog 164 #[.agg #[sv q0.Name,sv q0.Text],.agg #[sv q1.Name,sv q1.Text]] w (R_b w K r):=by
 rw [M.laws_eqField] at hm
 refine ci func164 u ntmps164 (sr (bx u hS fun f A i=>?_))
 have k:SH _ _ _ _ _ [obj f [sv q0.Name,sv q0.Text] 170]:=i
 refine bx u k fun l B m=>?_
 have a:SH _ _ _ _ _ [obj l [sv q1.Name,sv q1.Text] 170,_]:=m
 refine lv (r_f u) (nsr (fl ff170_0 u tf9 m1 a u (fl ff170_0 u tf9 m0 a u (lv (rv_sneq u u) (nq (wc_cond u (fun b=>?_) (fun b=>?_)))))))
 ·have c:=cond_t b hm
  refine sr (lv (r_f u) (nq (rr ?_)))
  cases oi c
  exact ey results164 ⟨K,u,a.s⟩
 have c:=cond_f b hm
 refine wc_skip (qs (sr (fl ff170_1 u tf9 m1 a u (fl ff170_1 u tf9 m0 a u (lv (rv_sneq u u) (nq (wcc c u (fun o d=>?_) (fun o d=>?_))))))))
 ·refine sr (lv (r_f u) (nq (rr ?_)))
  cases oi d
  exact ey results164 ⟨K,u,a.s⟩
 refine wc_skip (qr (lv (r_t u) (nq (wc_ret ?_))))
 cases oi d
 exact ey results164 ⟨K,u,a.s⟩

theorem ok_laws_eqFieldS {q0:List GField}{q1:List GField}{r:Bool}(hS:SH w K [] w K [])(k:SliceAt tGField K A a b q0)(x:SliceAt tGField K B c d q1)(hm:M.laws_eqFieldS F q0 q1=some r):
  Calls prog 125 #[V3 A a b,V3 B c d] w (R_b w K r):=by
 rw [M.laws_eqFieldS] at hm
 refine ci func125 u ntmps125 (sr (lv (r_f u) (nsr (mv u (lv (rv_len underlying86 u k) (mv u (lv (rv_len underlying86 u x) (lv (rv_neq u u) (nq ?_)))))))))
 refine wc_cond u (fun l=>?_) (fun l=>?_)
 ·have m:=cond_t l hm
  refine sr (lv (r_f u) (nq (rr ?_)))
  cases oi m
  exact ey results125 ⟨K,u,hS⟩
 have m:=cond_f l hm
 refine wc_skip (qs (sr (lv (r_0 u) (nq ?_))))
 obtain⟨O,R,i⟩:=ob m
 refine wc_cutg (IE O w K [] K [] []) ?_ ?_
 ·refine wc_block ?_
  obtain⟨az,S,y⟩:=ob R
  refine qw (fun (o:Int)=>IW w K [] K [(0,V3 A a b),(1,V3 B c d),(5,V6 o)] [] (rng64 o)) S ⟨K,u,hS,kr,d_0⟩ ?_
  rintro o _ aA aB T C ⟨U,rfl,D,f,aC⟩
  refine wc_seq (sr (mv u (mv u (lv (rv_len underlying86 u (k.mono f)) (lv (rv_lss u u) (nq (wcc T u (fun V q=>?_) (fun V q=>?_))))))))
  ·refine wc_skip (qs (wc_block (wc_seq (wc_quiet mixed (by kernel_rfl) D (km u (km u ?_))))))
   obtain⟨G,W,X⟩:=ob q
   refine ki underlying86 tf170 (k.mono f) W fun Y aa aD ab ac=>?_
   obtain⟨rfl,ad,ae⟩:=ab
   have af:AtK _ Y aa [sv G.Name,sv G.Text]:=ac
   refine kh (rq_loadS tf170 u af u) (km u (km u ?_))
   obtain⟨H,ag,ah⟩:=ob X
   refine ki underlying86 tf170 (x.mono f) ag fun ai aj aE ak al=>?_
   obtain⟨rfl,am,an⟩:=ak
   have ao:AtK _ ai aj [sv H.Name,sv H.Text]:=al
   refine kh (rq_loadS tf170 u ao u) ?_
   obtain⟨aF,ap,aq⟩:=ob ah
   refine kc co164 (fun _ _ ar aG=>(ok_laws_eqField F) ar.enter0 ad ae am an ap) (kv (rv_not u) (wq_nil ?_))
   rintro aH ⟨I,J,au⟩
   refine qe_seq (wcc aq u (fun aw s=>?_) (fun aw s=>?_))
   ·refine sr (lv (r_f u) (nq (wc_ret (qe_block_ret (qe_then_ret (qe_then_ret ?_))))))
    cases oi s
    cases C _ u
    refine qe_block_ret (qe_then_ret ?_)
    cases oi y
    refine qe_then_ret ?_
    cases oi i
    exact ey results125 ⟨I,u,J⟩
   refine wc_skip (qe_block (qe_seq (wc_region (mv u (lv (rv_add u u) (av u (wl_nil ?_)))))))
   cases oi s
   exact qd ⟨_,u,I,u,J,(f.trans au),(w64_rng _)⟩
  refine wc_exit (qe_then_exit (qe_then_exit ?_))
  cases oi q
  cases C _ u
  refine qe_block_eq ?_
  cases oi y
  exact qe_mid' ⟨_,U,u,u,D,f⟩ trivial
 rintro _ aI ⟨aJ,ax,rfl,rfl,ay,aK⟩
 have i:=elim_l i
 refine qr (lv (r_t u) (nq (wc_ret ?_)))
 cases oi i
 exact ey results125 ⟨ax,u,ay⟩

theorem ok_laws_eqAttr {q0:GAttr}{q1:GAttr}{r:Bool}(hS:SH w K [] w K [])(q:q0.Name.length≤maxLen)(s:rng64 q0.Num)(x:q1.Name.length≤maxLen)(y:rng64 q1.Num)(hm:M.laws_eqAttr F q0 q1=some r):
  Calls prog 165 #[.agg #[sv q0.Name,V6 q0.Num],.agg #[sv q1.Name,V6 q1.Num]] w (R_b w K r):=by
 rw [M.laws_eqAttr] at hm
 refine ci func165 u ntmps165 (sr (bx u hS fun f A i=>?_))
 have k:SH _ _ _ _ _ [obj f [sv q0.Name,V6 q0.Num] 183]:=i
 refine bx u k fun l B m=>?_
 have a:SH _ _ _ _ _ [obj l [sv q1.Name,V6 q1.Num] 183,_]:=m
 refine lv (r_f u) (nsr (fl ff183_0 u tf9 m1 a u (fl ff183_0 u tf9 m0 a u (lv (rv_sneq u u) (nq (wc_cond u (fun b=>?_) (fun b=>?_)))))))
 ·have c:=cond_t b hm
  refine sr (lv (r_f u) (nq (rr ?_)))
  cases oi c
  exact ey results165 ⟨K,u,a.s⟩
 have c:=cond_f b hm
 refine wc_skip (qs (sr (fl ff183_1 u tf3 m1 a u (fl ff183_1 u tf3 m0 a u (lv (rv_neq u u) (nq (wcc c u (fun o d=>?_) (fun o d=>?_))))))))
 ·refine sr (lv (r_f u) (nq (rr ?_)))
  cases oi d
  exact ey results165 ⟨K,u,a.s⟩
 refine wc_skip (qr (lv (r_t u) (nq (wc_ret ?_))))
 cases oi d
 exact ey results165 ⟨K,u,a.s⟩

theorem ok_laws_eqAttrS {q0:List GAttr}{q1:List GAttr}{r:Bool}(hS:SH w K [] w K [])(k:SliceAt tGAttr K A a b q0)(x:SliceAt tGAttr K B c d q1)(hm:M.laws_eqAttrS F q0 q1=some r):
  Calls prog 126 #[V3 A a b,V3 B c d] w (R_b w K r):=by
 rw [M.laws_eqAttrS] at hm
 refine ci func126 u ntmps126 (sr (lv (r_f u) (nsr (mv u (lv (rv_len underlying87 u k) (mv u (lv (rv_len underlying87 u x) (lv (rv_neq u u) (nq ?_)))))))))
 refine wc_cond u (fun l=>?_) (fun l=>?_)
 ·have m:=cond_t l hm
  refine sr (lv (r_f u) (nq (rr ?_)))
  cases oi m
  exact ey results126 ⟨K,u,hS⟩
 have m:=cond_f l hm
 refine wc_skip (qs (sr (lv (r_0 u) (nq ?_))))
 obtain⟨O,R,i⟩:=ob m
 refine wc_cutg (IE O w K [] K [] []) ?_ ?_
 ·refine wc_block ?_
  obtain⟨az,S,y⟩:=ob R
  refine qw (fun (o:Int)=>IW w K [] K [(0,V3 A a b),(1,V3 B c d),(5,V6 o)] [] (rng64 o)) S ⟨K,u,hS,kr,d_0⟩ ?_
  rintro o _ aA aB T C ⟨U,rfl,D,f,aC⟩
  refine wc_seq (sr (mv u (mv u (lv (rv_len underlying87 u (k.mono f)) (lv (rv_lss u u) (nq (wcc T u (fun V q=>?_) (fun V q=>?_))))))))
  ·refine wc_skip (qs (wc_block (wc_seq (wc_quiet mixed (by kernel_rfl) D (km u (km u ?_))))))
   obtain⟨G,W,X⟩:=ob q
   refine ki underlying87 tf183 (k.mono f) W fun Y aa aD ab ac=>?_
   obtain⟨rfl,ad,ae⟩:=ab
   have af:AtK _ Y aa [sv G.Name,V6 G.Num]:=ac
   refine kh (rq_loadS tf183 u af u) (km u (km u ?_))
   obtain⟨H,ag,ah⟩:=ob X
   refine ki underlying87 tf183 (x.mono f) ag fun ai aj aE ak al=>?_
   obtain⟨rfl,am,an⟩:=ak
   have ao:AtK _ ai aj [sv H.Name,V6 H.Num]:=al
   refine kh (rq_loadS tf183 u ao u) ?_
   obtain⟨aF,ap,aq⟩:=ob ah
   refine kc co165 (fun _ _ ar aG=>(ok_laws_eqAttr F) ar.enter0 ad ae am an ap) (kv (rv_not u) (wq_nil ?_))
   rintro aH ⟨I,J,au⟩
   refine qe_seq (wcc aq u (fun aw s=>?_) (fun aw s=>?_))
   ·refine sr (lv (r_f u) (nq (wc_ret (qe_block_ret (qe_then_ret (qe_then_ret ?_))))))
    cases oi s
    cases C _ u
    refine qe_block_ret (qe_then_ret ?_)
    cases oi y
    refine qe_then_ret ?_
    cases oi i
    exact ey results126 ⟨I,u,J⟩
   refine wc_skip (qe_block (qe_seq (wc_region (mv u (lv (rv_add u u) (av u (wl_nil ?_)))))))
   cases oi s
   exact qd ⟨_,u,I,u,J,(f.trans au),(w64_rng _)⟩
  refine wc_exit (qe_then_exit (qe_then_exit ?_))
  cases oi q
  cases C _ u
  refine qe_block_eq ?_
  cases oi y
  exact qe_mid' ⟨_,U,u,u,D,f⟩ trivial
 rintro _ aI ⟨aJ,ax,rfl,rfl,ay,aK⟩
 have i:=elim_l i
 refine qr (lv (r_t u) (nq (wc_ret ?_)))
 cases oi i
 exact ey results126 ⟨ax,u,ay⟩

theorem ok_laws_eqDoc {q0:GDoc}{q1:GDoc}{r:Bool}(hS:SH w K [] w K [])(ah:rng64 q0.Id)(J:SliceAt tGField K A a b q0.Fields)(O:SliceAt tGAttr K B c d q0.Nums)(ai:rng64 q1.Id)(R:SliceAt tGField K C f i q1.Fields)(S:SliceAt tGAttr K D k l q1.Nums)(hm:M.laws_eqDoc F q0 q1=some r):
  Calls prog 78 #[.agg #[V6 q0.Id,V3 A a b,V3 B c d],.agg #[V6 q1.Id,V3 C f i,V3 D k l]] w (R_b w K r):=by
 rw [M.laws_eqDoc] at hm
 refine ci func78 u ntmps78 (sr (bx u hS fun T aj U=>?_))
 have V:SH _ _ _ _ _ [obj T [V6 q0.Id,V3 A a b,V3 B c d] 89]:=U
 refine bx u V fun W ak X=>?_
 have m:SH _ _ _ _ _ [obj W [V6 q1.Id,V3 C f i,V3 D k l] 89,_]:=X
 refine lv (r_f u) (nsr (fl ff89_0 u tf3 m1 m u (fl ff89_0 u tf3 m0 m u (lv (rv_neq u u) (nq (wc_cond u (fun q=>?_) (fun q=>?_)))))))
 ·have s:=cond_t q hm
  refine sr (lv (r_f u) (nq (rr ?_)))
  cases oi s
  exact ey results78 ⟨K,u,m.s⟩
 have s:=cond_f q hm
 refine wc_skip (qs (sr (fl ff89_1 u tf86 m1 m u (fl ff89_1 u tf86 m0 m u ?_))))
 obtain⟨al,Y,aa⟩:=ob s
 refine lk co125 (ok_laws_eqFieldS F m.enter0 J R Y) ?_
 rintro am an ⟨ab,rfl,x⟩
 have o:=(m.c0 x).t2
 refine lv (rv_not u) (nq (wcc aa u (fun ac y=>?_) (fun ac y=>?_)))
 ·refine sr (lv (r_f u) (nq (rr ?_)))
  cases oi y
  exact ey results78 ⟨ab,u,o.s⟩
 refine wc_skip (qs (sr (fl ff89_2 u tf87 m1 o u (fl ff89_2 u tf87 m0 o u ?_))))
 obtain⟨ao,ad,ae⟩:=ob y
 refine lk co126 (ok_laws_eqAttrS F o.enter0 (O.mono x.le) (S.mono x.le) ad) ?_
 rintro ap aq ⟨H,rfl,af⟩
 have I:=(o.c0 af).t2
 refine lv (rv_not u) (nq (wcc ae u (fun ag G=>?_) (fun ag G=>?_)))
 ·refine sr (lv (r_f u) (nq (rr ?_)))
  cases oi G
  exact ey results78 ⟨H,u,I.s⟩
 refine wc_skip (qr (lv (r_t u) (nq (wc_ret ?_))))
 cases oi G
 exact ey results78 ⟨H,u,I.s⟩

theorem ok_laws_eqDocS {q0:List GDoc}{q1:List GDoc}{r:Bool}(hS:SH w K [] w K [])(l:SliceAt tGDoc K A a b q0)(y:SliceAt tGDoc K B c d q1)(hm:M.laws_eqDocS F q0 q1=some r):
  Calls prog 39 #[V3 A a b,V3 B c d] w (R_b w K r):=by
 rw [M.laws_eqDocS] at hm
 refine ci func39 u ntmps39 (sr (lv (r_f u) (nsr (mv u (lv (rv_len underlying38 u l) (mv u (lv (rv_len underlying38 u y) (lv (rv_neq u u) (nq ?_)))))))))
 refine wc_cond u (fun m=>?_) (fun m=>?_)
 ·have o:=cond_t m hm
  refine sr (lv (r_f u) (nq (rr ?_)))
  cases oi o
  exact ey results39 ⟨K,u,hS⟩
 have o:=cond_f m hm
 refine wc_skip (qs (sr (lv (r_0 u) (nq ?_))))
 obtain⟨J,O,i⟩:=ob o
 refine wc_cutg (IE J w K [] K [] []) ?_ ?_
 ·refine wc_block ?_
  obtain⟨aO,R,C⟩:=ob O
  refine qw (fun (q:Int)=>IW w K [] K [(0,V3 A a b),(1,V3 B c d),(5,V6 q)] [] (rng64 q)) R ⟨K,u,hS,kr,d_0⟩ ?_
  rintro q _ aP aQ S D ⟨T,rfl,G,f,aR⟩
  refine wc_seq (sr (mv u (mv u (lv (rv_len underlying38 u (l.mono f)) (lv (rv_lss u u) (nq (wcc S u (fun U s=>?_) (fun U s=>?_))))))))
  ·refine wc_skip (qs (wc_block (wc_seq (wc_quiet mixed (by kernel_rfl) G (km u (km u ?_))))))
   obtain⟨V,W,X⟩:=ob s
   refine ki underlying38 tf89 (l.mono f) W fun Y aa aS ab ac=>?_
   obtain⟨ad,ae,af,ag,ah,ai,rfl,aj,ak,al⟩:=ab
   have am:AtK _ Y aa [V6 V.Id,V3 ad ae af,V3 ag ah ai]:=ac
   refine kh (rq_loadS tf89 u am u) (km u (km u ?_))
   obtain⟨an,ao,ap⟩:=ob X
   refine ki underlying38 tf89 (y.mono f) ao fun aq ar aT au aw=>?_
   obtain⟨ax,ay,az,aA,aB,aC,rfl,aD,aE,aF⟩:=au
   have aG:AtK _ aq ar [V6 an.Id,V3 ax ay az,V3 aA aB aC]:=aw
   refine kh (rq_loadS tf89 u aG u) ?_
   obtain⟨aU,aH,aI⟩:=ob ap
   refine kc co78 (fun _ _ aJ k=>(ok_laws_eqDoc F) aJ.enter0 aj (ak.mono k) (al.mono k) aD (aE.mono k) (aF.mono k) aH) (kv (rv_not u) (wq_nil ?_))
   rintro aV ⟨H,I,aK⟩
   refine qe_seq (wcc aI u (fun aL x=>?_) (fun aL x=>?_))
   ·refine sr (lv (r_f u) (nq (wc_ret (qe_block_ret (qe_then_ret (qe_then_ret ?_))))))
    cases oi x
    cases D _ u
    refine qe_block_ret (qe_then_ret ?_)
    cases oi C
    refine qe_then_ret ?_
    cases oi i
    exact ey results39 ⟨H,u,I⟩
   refine wc_skip (qe_block (qe_seq (wc_region (mv u (lv (rv_add u u) (av u (wl_nil ?_)))))))
   cases oi x
   exact qd ⟨_,u,H,u,I,(f.trans aK),(w64_rng _)⟩
  refine wc_exit (qe_then_exit (qe_then_exit ?_))
  cases oi s
  cases D _ u
  refine qe_block_eq ?_
  cases oi C
  exact qe_mid' ⟨_,T,u,u,G,f⟩ trivial
 rintro _ aW ⟨aX,aM,rfl,rfl,aN,aY⟩
 have i:=elim_l i
 refine qr (lv (r_t u) (nq (wc_ret ?_)))
 cases oi i
 exact ey results39 ⟨aM,u,aN⟩

theorem ok_laws_markText {q0:Int}{r:Str}(hS:SH w K [] w K [])(y:rng64 q0)(hm:M.laws_markText F q0=some r):
  Calls prog 58 #[V6 q0] w fun e w'=>∃K',e= .returned (sv r)∧SH w K [] w' K' []∧r.length≤maxLen:=by
 rw [M.laws_markText] at hm
 refine ci func58 u ntmps58 (sr (lv (r_s u) (nsr (mv u (lv (rv_leq u u) (nq (wc_cond u (fun b=>?_) (fun b=>?_))))))))
 ·have c:=cond_t b hm
  refine sr (lv (rv_assign (v:=sv [109,48]) u) (nq (rr ?_)))
  cases oi c
  exact ey results58 ⟨K,u,hS,(by decide :([109,48]:Str).length≤maxLen)⟩
 have c:=cond_f b hm
 refine wc_skip (qr (lv (r_s u) (ns ?_)))
 obtain⟨i,A,B⟩:=ob c
 refine wc_cutg (IW w K [] K [(3,sv i)] [] (i.length≤maxLen)) ?_ ?_
 ·refine wc_block ?_
  obtain⟨ac,C,D⟩:=ob A
  refine qw (fun (a:Int×Str)=>IW w K [] K [(0,V6 a.1),(3,sv a.2)] [] (rng64 a.1∧a.2.length≤maxLen)) C ⟨K,u,hS,kr,y,(by decide :([]:Str).length≤maxLen)⟩ ?_
  rintro a _ ad ae G H ⟨I,rfl,k,l,af,J⟩
  refine wc_seq (sr (mv u (lv (rv_gtr u u) (nq (wcc G u (fun O d=>?_) (fun O d=>?_))))))
  ·refine wc_skip (qe_seq (wc_block (sr (mv u ?_))))
   obtain⟨f,R,S⟩:=ob d
   refine lv (rv_rem u u R) (lv (rv_add u u) (lv (rv_i2b underlying3 underlying5 u) (lb tU8 (iv8 (byteOfI (w64 ((48:Int)+f)))) [iv8 (byteOfI (w64 ((48:Int)+f)))] (byteOfI (w64 ((48:Int)+f))) underlying149 tf5 u k fun ag ah T U V m=>(lv (rv_b2s underlying149 underlying5 underlying9 u V m) (mv u ?_)))))
   obtain⟨ai,o,W⟩:=ob S
   refine lv (rv_sadd u u o) (av u (nq (wc_region (mv u ?_))))
   obtain⟨aj,q,X⟩:=ob W
   refine lv (rv_quo u u q) (av u (nb ?_))
   cases oi X
   exact qd ⟨_,u,T,u,m.s,(l.trans U),(rng_quo q),(len_cat o)⟩
  refine wc_exit (qe_then_exit (qe_then_exit ?_))
  cases oi d
  cases H _ u
  refine qe_block_eq ?_
  cases oi D
  exact qd ⟨I,u,k,l,J⟩
 rintro _ w9 ⟨Y,rfl,aa,al,am⟩
 refine qr (mv u ?_)
 obtain⟨an,x,ab⟩:=ob B
 refine lv (rv_sadd (s:=([109]:Str)) u u x) (av u (nq (wc_ret ?_)))
 cases oi ab
 exact ey results58 ⟨Y,u,aa,(len_cat x)⟩

theorem ok_laws_markStringS {B:List Nat}{KM:KMap}{q0:List Str}{q1:Int}{r:Int}(hS:SH w K Z w K [mkI B KM])(i:SliceAt tStr (KM.only B) A a b q0)(q:rng64 q1)(hm:M.laws_markStringS F q0 q1=some r):
  Calls prog 24 #[V3 A a b,V6 q1] w fun e w'=>∃K',e= .returned (V6 r)∧SH w K Z w' K' [mkI B KM]∧rng64 r:=by
 rw [M.laws_markStringS] at hm
 refine ci func24 u ntmps24 (sr (lv (r_0 u) (nsr (lv (r_0 u) (nq ?_)))))
 obtain⟨k,s,x⟩:=ob hm
 refine wc_cutg (IW w K Z K [(1,V6 k)] [mkI B KM] (rng64 k)) ?_ ?_
 ·refine wc_block ?_
  obtain⟨ah,y,C⟩:=ob s
  refine qw (fun (c:Int×Int)=>IW w K Z K [(0,V3 A a b),(1,V6 c.1),(5,V6 c.2)] [mkI B KM] (rng64 c.1∧rng64 c.2)) y ⟨K,u,hS,kr,q,d_0⟩ ?_
  rintro c _ ai aj D G ⟨H,rfl,d,l,m,ak⟩
  refine wc_seq (sr (mv u (mv u (lv (rv_len underlying22 u i) (lv (rv_lss u u) (nq (wcc D u (fun I f=>?_) (fun I f=>?_))))))))
  ·refine wc_skip (qs (wc_block (sr (mv u (mv u (mv u ?_))))))
   obtain⟨J,O,R⟩:=ob f
   refine lk co58 (ok_laws_markText F d.enter0 m O) ?_
   rintro al am ⟨S,rfl,o,an⟩
   have T:=(d.c0 o).t1
   obtain⟨U,V,W⟩:=ob R
   refine li underlying22 tf9 i V fun X Y ao aa ab=>?_
   obtain⟨rfl,ap⟩:=aa
   have ac:AtK _ X Y [sv U]:=ab
   refine mk_store (v:=sv J) wn tf9 u u u T (ac 0 _ u) u fun aq ad=>(nq (wc_region (mv u (lv (rv_add u u) (av u (nb (qe_seq (wc_region (mv u ?_)))))))))
   refine lv (rv_add u u) (av u (wl_nil ?_))
   cases oi W
   exact qd ⟨_,u,S,u,ad,(l.trans o.le),(w64_rng _),(w64_rng _)⟩
  refine wc_exit (qe_then_exit (qe_then_exit ?_))
  cases oi f
  cases G _ u
  refine qe_block_eq ?_
  cases oi C
  exact qd ⟨H,u,d,l,m⟩
 rintro _ ar ⟨K9,rfl,af,au,ag⟩
 refine qr (mv u (av u (nq (wc_ret ?_))))
 cases oi x
 exact ey results24 ⟨K9,u,af,ag⟩

theorem ok_laws_markSynS {B:List Nat}{KM:KMap}{q0:List GSyn}{q1:Int}{r:Int}(hS:SH w K Z w K [mkI B KM])(f:SliceAt tGSyn (KM.only B) A a b q0)(x:rng64 q1)(hm:M.laws_markSynS F q0 q1=some r):
  Calls prog 41 #[V3 A a b,V6 q1] w fun e w'=>∃K',e= .returned (V6 r)∧SH w K Z w' K' [mkI B KM]∧rng64 r:=by
 rw [M.laws_markSynS] at hm
 refine ci func41 u ntmps41 (sr (lv (r_0 u) (nsr (lv (r_0 u) (nq ?_)))))
 obtain⟨k,y,C⟩:=ob hm
 refine wc_cutg (IW w K Z K [(1,V6 k)] [mkI B KM] (rng64 k)) ?_ ?_
 ·refine wc_block ?_
  obtain⟨aE,D,G⟩:=ob y
  refine qw (fun (c:Int×Int)=>IW w K Z K [(0,V3 A a b),(1,V6 c.1),(5,V6 c.2)] [mkI B KM] (rng64 c.1∧rng64 c.2)) D ⟨K,u,hS,kr,x,d_0⟩ ?_
  rintro c _ aF aG H I ⟨J,rfl,d,l,m,aH⟩
  refine wc_seq (sr (mv u (mv u (lv (rv_len underlying34 u f) (lv (rv_lss u u) (nq (wcc H u (fun O i=>?_) (fun O i=>?_))))))))
  ·refine wc_skip (qs (wc_block (sr (mv u (mv u ?_)))))
   obtain⟨R,S,T⟩:=ob i
   refine li underlying34 tf120 f S fun U V aI W X=>?_
   obtain⟨Y,aa,ab,rfl,ac,aJ⟩:=W
   have ad:AtK _ U V [V3 Y aa ab,sv R.To]:=X
   refine fa ff120_0 u (lv (mk_load tf22 u d (ad 0 _ u)) (mv u ?_))
   obtain⟨aK,ae,af⟩:=ob T
   refine lk co24 (ok_laws_markStringS F d.e1 ac m ae) ?_
   rintro aL aM ⟨aN,rfl,o,ag⟩
   have q:=(d.c1 o).t1
   refine av u (nr (mv u (mv u (mv u ?_))))
   obtain⟨ah,ai,aj⟩:=ob af
   refine lk co58 (ok_laws_markText F q.enter0 ag ai) ?_
   rintro aO aP ⟨ak,rfl,s,aQ⟩
   have al:=(q.c0 s).t1
   obtain⟨am,an,ao⟩:=ob aj
   refine li underlying34 tf120 f an fun ap aq aR ar au=>?_
   obtain⟨aw,ax,ay,rfl,aS,aT⟩:=ar
   have az:AtK _ ap aq [V3 aw ax ay,sv am.To]:=au
   refine fa ff120_1 u (mk_store (v:=sv ah) wn tf9 u u u al (az 1 _ u) u fun aU aA=>(nq (wc_region (mv u (lv (rv_add u u) (av u (nb (qe_seq (wc_region ?_)))))))))
   refine mv u (lv (rv_add u u) (av u (wl_nil ?_)))
   cases oi ao
   exact qd ⟨_,u,ak,u,aA,((l.trans o.le).trans s.le),(w64_rng _),(w64_rng _)⟩
  refine wc_exit (qe_then_exit (qe_then_exit ?_))
  cases oi i
  cases I _ u
  refine qe_block_eq ?_
  cases oi G
  exact qd ⟨J,u,d,l,m⟩
 rintro _ aV ⟨K9,rfl,aC,aW,aD⟩
 refine qr (mv u (av u (nq (wc_ret ?_))))
 cases oi C
 exact ey results41 ⟨K9,u,aC,aD⟩

theorem ok_laws_markConf {B:List Nat}{KM:KMap}{q0:GConf}{q1:Int}{r:Int}(hS:SH w K Z w K [mkI B KM])(l:SliceAt tStr (KM.only B) A a b q0.Stops)(m:SliceAt tGSyn (KM.only B) C c d q0.Syns)(o:rng64 q1)(hm:M.laws_markConf F q0 q1=some r):
  Calls prog 14 #[.agg #[V3 A a b,V3 C c d],V6 q1] w fun e w'=>∃K',e= .returned (V6 r)∧SH w K Z w' K' [mkI B KM]∧rng64 r:=by
 rw [M.laws_markConf] at hm
 refine ci func14 u ntmps14 (sr (bx u hS fun q T s=>?_))
 have i:SH _ _ _ _ _ [obj q [V3 A a b,V3 C c d] 36,_]:=s
 refine lv (r_0 u) (nr (fl ff36_0 u tf22 m0 i u (mv u ?_)))
 obtain⟨U,x,y⟩:=ob hm
 have k:=i.f1
 refine lk co24 (ok_laws_markStringS F k.e1 l o x) ?_
 rintro V W ⟨X,rfl,D,G⟩
 have f:=(k.c1 D).t2
 refine av u (nr (fl ff36_1 u tf34 m1 f u (mv u ?_)))
 obtain⟨Y,H,I⟩:=ob y
 refine lk co41 (ok_laws_markSynS F f.e1 m G H) ?_
 rintro aa ab ⟨J,rfl,O,R⟩
 have S:=(f.c1 O).t2
 refine av u (nr (mv u (av u (nq (wc_ret ?_)))))
 cases oi I
 exact ey results14 ⟨J,u,S.s,R⟩

theorem ok_laws_markFieldS {B:List Nat}{KM:KMap}{q0:List GField}{q1:Int}{r:Int}(hS:SH w K Z w K [mkI B KM])(d:SliceAt tGField (KM.only B) A a b q0)(C:rng64 q1)(hm:M.laws_markFieldS F q0 q1=some r):
  Calls prog 80 #[V3 A a b,V6 q1] w fun e w'=>∃K',e= .returned (V6 r)∧SH w K Z w' K' [mkI B KM]∧rng64 r:=by
 rw [M.laws_markFieldS] at hm
 refine ci func80 u ntmps80 (sr (lv (r_0 u) (nsr (lv (r_0 u) (nq ?_)))))
 obtain⟨k,D,G⟩:=ob hm
 refine wc_cutg (IW w K Z K [(1,V6 k)] [mkI B KM] (rng64 k)) ?_ ?_
 ·refine wc_block ?_
  obtain⟨ay,H,I⟩:=ob D
  refine qw (fun (c:Int×Int)=>IW w K Z K [(0,V3 A a b),(1,V6 c.1),(5,V6 c.2)] [mkI B KM] (rng64 c.1∧rng64 c.2)) H ⟨K,u,hS,kr,C,d_0⟩ ?_
  rintro c _ az aA J O ⟨R,rfl,f,l,m,aB⟩
  refine wc_seq (sr (mv u (mv u (lv (rv_len underlying86 u d) (lv (rv_lss u u) (nq (wcc J u (fun S i=>?_) (fun S i=>?_))))))))
  ·refine wc_skip (qs (wc_block (sr (mv u (mv u (mv u ?_))))))
   obtain⟨T,U,V⟩:=ob i
   refine lk co58 (ok_laws_markText F f.enter0 m U) ?_
   rintro aC aD ⟨aE,rfl,o,aF⟩
   have W:=(f.c0 o).t1
   obtain⟨q,X,Y⟩:=ob V
   refine li underlying86 tf170 d X fun aa ab aG ac ad=>?_
   obtain⟨rfl,aH,aI⟩:=ac
   have ae:AtK _ aa ab [sv q.Name,sv q.Text]:=ad
   refine fa ff170_0 u (mk_store (v:=sv T) wn tf9 u u u W (ae 0 _ u) u fun aJ s=>(nr (mv u (lv (rv_add u u) (av u (nr (mv u (mv u (mv u ?_)))))))))
   obtain⟨af,ag,ah⟩:=ob Y
   refine lk co58 (ok_laws_markText F s.enter0 (w64_rng _) ag) ?_
   rintro aK aL ⟨ai,rfl,x,aM⟩
   have aj:=(s.c0 x).t1
   obtain⟨y,ak,al⟩:=ob ah
   refine li underlying86 tf170 d ak fun am an aN ao ap=>?_
   obtain⟨rfl,aO,aP⟩:=ao
   have aq:AtK _ am an [sv y.Name,sv y.Text]:=ap
   refine fa ff170_1 u (mk_store (v:=sv af) wn tf9 u u u aj (aq 1 _ u) u fun aQ ar=>(nq (wc_region (mv u (lv (rv_add u u) (av u (nb (qe_seq (wc_region ?_)))))))))
   refine mv u (lv (rv_add u u) (av u (wl_nil ?_)))
   cases oi al
   exact qd ⟨_,u,ai,u,ar,((l.trans o.le).trans x.le),(w64_rng _),(w64_rng _)⟩
  refine wc_exit (qe_then_exit (qe_then_exit ?_))
  cases oi i
  cases O _ u
  refine qe_block_eq ?_
  cases oi I
  exact qd ⟨R,u,f,l,m⟩
 rintro _ aR ⟨K9,rfl,aw,aS,ax⟩
 refine qr (mv u (av u (nq (wc_ret ?_))))
 cases oi G
 exact ey results80 ⟨K9,u,aw,ax⟩

theorem ok_laws_markAttrS {B:List Nat}{KM:KMap}{q0:List GAttr}{q1:Int}{r:Int}(hS:SH w K Z w K [mkI B KM])(d:SliceAt tGAttr (KM.only B) A a b q0)(x:rng64 q1)(hm:M.laws_markAttrS F q0 q1=some r):
  Calls prog 81 #[V3 A a b,V6 q1] w fun e w'=>∃K',e= .returned (V6 r)∧SH w K Z w' K' [mkI B KM]∧rng64 r:=by
 rw [M.laws_markAttrS] at hm
 refine ci func81 u ntmps81 (sr (lv (r_0 u) (nsr (lv (r_0 u) (nq ?_)))))
 obtain⟨k,y,C⟩:=ob hm
 refine wc_cutg (IW w K Z K [(1,V6 k)] [mkI B KM] (rng64 k)) ?_ ?_
 ·refine wc_block ?_
  obtain⟨aq,D,G⟩:=ob y
  refine qw (fun (c:Int×Int)=>IW w K Z K [(0,V3 A a b),(1,V6 c.1),(5,V6 c.2)] [mkI B KM] (rng64 c.1∧rng64 c.2)) D ⟨K,u,hS,kr,x,d_0⟩ ?_
  rintro c _ ar au H I ⟨J,rfl,f,l,m,aw⟩
  refine wc_seq (sr (mv u (mv u (lv (rv_len underlying87 u d) (lv (rv_lss u u) (nq (wcc H u (fun O i=>?_) (fun O i=>?_))))))))
  ·refine wc_skip (qs (wc_block (sr (mv u (mv u (mv u ?_))))))
   obtain⟨R,S,T⟩:=ob i
   refine lk co58 (ok_laws_markText F f.enter0 m S) ?_
   rintro ax ay ⟨U,rfl,o,az⟩
   have V:=(f.c0 o).t1
   obtain⟨q,W,X⟩:=ob T
   refine li underlying87 tf183 d W fun Y aa aA ab ac=>?_
   obtain⟨rfl,aB,aC⟩:=ab
   have ad:AtK _ Y aa [sv q.Name,V6 q.Num]:=ac
   refine fa ff183_0 u (mk_store (v:=sv R) wn tf9 u u u V (ad 0 _ u) u fun aD ae=>(nr (mv u (lv (rv_add u u) (av u (nr (mv u (mv u (mv u ?_)))))))))
   obtain⟨s,af,ag⟩:=ob X
   refine li underlying87 tf183 d af fun ah ai aE aj ak=>?_
   obtain⟨rfl,aF,aG⟩:=aj
   have al:AtK _ ah ai [sv s.Name,V6 s.Num]:=ak
   refine fa ff183_1 u (mk_store (v:=V6 (w64 (c.1+(1:Int)))) wn tf3 u u u ae (al 1 _ u) u fun aH am=>(nq (wc_region (mv u (lv (rv_add u u) (av u (nb (qe_seq (wc_region ?_)))))))))
   refine mv u (lv (rv_add u u) (av u (wl_nil ?_)))
   cases oi ag
   exact qd ⟨_,u,U,u,am,(l.trans o.le),(w64_rng _),(w64_rng _)⟩
  refine wc_exit (qe_then_exit (qe_then_exit ?_))
  cases oi i
  cases I _ u
  refine qe_block_eq ?_
  cases oi G
  exact qd ⟨J,u,f,l,m⟩
 rintro _ aI ⟨K9,rfl,ao,aJ,ap⟩
 refine qr (mv u (av u (nq (wc_ret ?_))))
 cases oi C
 exact ey results81 ⟨K9,u,ao,ap⟩

theorem ok_laws_markDocS {B:List Nat}{KM:KMap}{q0:List GDoc}{q1:Int}{r:Int}(hS:SH w K Z w K [mkI B KM])(d:SliceAt tGDoc (KM.only B) A a b q0)(x:rng64 q1)(hm:M.laws_markDocS F q0 q1=some r):
  Calls prog 42 #[V3 A a b,V6 q1] w fun e w'=>∃K',e= .returned (V6 r)∧SH w K Z w' K' [mkI B KM]∧rng64 r:=by
 rw [M.laws_markDocS] at hm
 refine ci func42 u ntmps42 (sr (lv (r_0 u) (nsr (lv (r_0 u) (nq ?_)))))
 obtain⟨l,y,C⟩:=ob hm
 refine wc_cutg (IW w K Z K [(1,V6 l)] [mkI B KM] (rng64 l)) ?_ ?_
 ·refine wc_block ?_
  obtain⟨aZ,D,G⟩:=ob y
  refine qw (fun (c:Int×Int)=>IW w K Z K [(0,V3 A a b),(1,V6 c.1),(5,V6 c.2)] [mkI B KM] (rng64 c.1∧rng64 c.2)) D ⟨K,u,hS,kr,x,d_0⟩ ?_
  rintro c _ ba bb H I ⟨J,rfl,m,o,O,bc⟩
  refine wc_seq (sr (mv u (mv u (lv (rv_len underlying38 u d) (lv (rv_lss u u) (nq (wcc H u (fun R f=>?_) (fun R f=>?_))))))))
  ·refine wc_skip (qs (wc_block (sr (mv u (mv u (mv u ?_))))))
   obtain⟨S,T,U⟩:=ob f
   refine li underlying38 tf89 d T fun V W bd X Y=>?_
   obtain⟨aa,ab,ac,ad,ae,af,rfl,be,bf,bg⟩:=X
   have ag:AtK _ V W [V6 S.Id,V3 aa ab ac,V3 ad ae af]:=Y
   refine fa ff89_0 u (mk_store (v:=V6 c.1) wn tf3 u u u m (ag 0 _ u) u fun bh i=>(nr (mv u (lv (rv_add u u) (av u (nr (mv u (mv u ?_))))))))
   obtain⟨ah,ai,aj⟩:=ob U
   refine li underlying38 tf89 d ai fun ak al bi am an=>?_
   obtain⟨ao,ap,aq,ar,au,aw,rfl,bj,ax,bk⟩:=am
   have ay:AtK _ ak al [V6 ah.Id,V3 ao ap aq,V3 ar au aw]:=an
   refine fa ff89_1 u (lv (mk_load tf86 u i (ay 1 _ u)) (mv u ?_))
   obtain⟨bl,az,aA⟩:=ob aj
   refine lk co80 (ok_laws_markFieldS F i.e1 ax (w64_rng _) az) ?_
   rintro bm bn ⟨bo,rfl,q,aB⟩
   have k:=(i.c1 q).t1
   refine av u (nq (wc_region (mv u (mv u ?_))))
   obtain⟨aC,aD,aE⟩:=ob aA
   refine li underlying38 tf89 d aD fun aF aG bp aH aI=>?_
   obtain⟨aJ,aK,aL,aM,aN,aO,rfl,bq,br,aP⟩:=aH
   have aQ:AtK _ aF aG [V6 aC.Id,V3 aJ aK aL,V3 aM aN aO]:=aI
   refine fa ff89_2 u (lv (mk_load tf87 u k (aQ 2 _ u)) (mv u ?_))
   obtain⟨bs,aR,aS⟩:=ob aE
   refine lk co81 (ok_laws_markAttrS F k.e1 aP aB aR) ?_
   rintro bu bv ⟨aT,rfl,s,aU⟩
   have aV:=(k.c1 s).t1
   refine av u (nb (qe_seq (wc_region (mv u (lv (rv_add u u) (av u (wl_nil ?_)))))))
   cases oi aS
   exact qd ⟨_,u,aT,u,aV,((o.trans q.le).trans s.le),aU,(w64_rng _)⟩
  refine wc_exit (qe_then_exit (qe_then_exit ?_))
  cases oi f
  cases I _ u
  refine qe_block_eq ?_
  cases oi G
  exact qd ⟨J,u,m,o,O⟩
 rintro _ bx ⟨K9,rfl,aX,bz,aY⟩
 refine qr (mv u (av u (nq (wc_ret ?_))))
 cases oi C
 exact ey results42 ⟨K9,u,aX,aY⟩

theorem ok_laws_markIntS {B:List Nat}{KM:KMap}{q0:List Int}{q1:Int}{r:Int}(hS:SH w K Z w K [mkI B KM])(f:SliceAt tInt (KM.only B) A a b q0)(o:rng64 q1)(hm:M.laws_markIntS F q0 q1=some r):
  Calls prog 128 #[V3 A a b,V6 q1] w fun e w'=>∃K',e= .returned (V6 r)∧SH w K Z w' K' [mkI B KM]∧rng64 r:=by
 rw [M.laws_markIntS] at hm
 refine ci func128 u ntmps128 (sr (lv (r_0 u) (nsr (lv (r_0 u) (nq ?_)))))
 obtain⟨i,q,s⟩:=ob hm
 refine wc_cutg (IW w K Z K [(1,V6 i)] [mkI B KM] (rng64 i)) ?_ ?_
 ·refine wc_block ?_
  obtain⟨ab,x,y⟩:=ob q
  refine qw (fun (c:Int×Int)=>IW w K Z K [(0,V3 A a b),(1,V6 c.1),(5,V6 c.2)] [mkI B KM] (rng64 c.1∧rng64 c.2)) x ⟨K,u,hS,kr,o,d_0⟩ ?_
  rintro c _ ac ad C D ⟨k,rfl,l,m,G,ae⟩
  refine wc_seq (sr (mv u (mv u (lv (rv_len underlying117 u f) (lv (rv_lss u u) (nq (wcc C u (fun H d=>?_) (fun H d=>?_))))))))
  ·refine wc_skip (qs (wc_block (sr (mv u (mv u (mv u ?_))))))
   obtain⟨I,J,O⟩:=ob d
   refine li underlying117 tf3 f J fun R S af T U=>?_
   obtain⟨rfl,ag⟩:=T
   have V:AtK _ R S [V6 I]:=U
   refine mk_store (v:=V6 c.1) wn tf3 u u u l (V 0 _ u) u fun ah W=>(nq (wc_region (mv u (lv (rv_add u u) (av u (nb (qe_seq (wc_region (mv u ?_)))))))))
   refine lv (rv_add u u) (av u (wl_nil ?_))
   cases oi O
   exact qd ⟨_,u,k,u,W,m,(w64_rng _),(w64_rng _)⟩
  refine wc_exit (qe_then_exit (qe_then_exit ?_))
  cases oi d
  cases D _ u
  refine qe_block_eq ?_
  cases oi y
  exact qd ⟨k,u,l,m,G⟩
 rintro _ ai ⟨X,rfl,Y,aj,aa⟩
 refine qr (mv u (av u (nq (wc_ret ?_))))
 cases oi s
 exact ey results128 ⟨X,u,Y,aa⟩

theorem ok_laws_markPostS {B:List Nat}{KM:KMap}{q0:List GPost}{q1:Int}{r:Int}(hS:SH w K Z w K [mkI B KM])(d:SliceAt tGPost (KM.only B) A a b q0)(q:rng64 q1)(hm:M.laws_markPostS F q0 q1=some r):
  Calls prog 82 #[V3 A a b,V6 q1] w fun e w'=>∃K',e= .returned (V6 r)∧SH w K Z w' K' [mkI B KM]∧rng64 r:=by
 rw [M.laws_markPostS] at hm
 refine ci func82 u ntmps82 (sr (lv (r_0 u) (nsr (lv (r_0 u) (nq ?_)))))
 obtain⟨k,s,x⟩:=ob hm
 refine wc_cutg (IW w K Z K [(1,V6 k)] [mkI B KM] (rng64 k)) ?_ ?_
 ·refine wc_block ?_
  obtain⟨az,y,C⟩:=ob s
  refine qw (fun (c:Int×Int)=>IW w K Z K [(0,V3 A a b),(1,V6 c.1),(5,V6 c.2)] [mkI B KM] (rng64 c.1∧rng64 c.2)) y ⟨K,u,hS,kr,q,d_0⟩ ?_
  rintro c _ aA aB D G ⟨H,rfl,l,m,I,aC⟩
  refine wc_seq (sr (mv u (mv u (lv (rv_len underlying112 u d) (lv (rv_lss u u) (nq (wcc D u (fun J f=>?_) (fun J f=>?_))))))))
  ·refine wc_skip (qs (wc_block (sr (mv u (mv u (mv u ?_))))))
   obtain⟨O,R,S⟩:=ob f
   refine li underlying112 tf119 d R fun T U aD V W=>?_
   obtain⟨X,Y,aa,rfl,aE,aF⟩:=V
   have ab:AtK _ T U [V6 O.Doc,V3 X Y aa]:=W
   refine fa ff119_0 u (mk_store (v:=V6 c.1) wn tf3 u u u l (ab 0 _ u) u fun aG i=>(nr (mv u (lv (rv_add u u) (av u (nq (wc_region (mv u (mv u ?_)))))))))
   obtain⟨ac,ad,ae⟩:=ob S
   refine li underlying112 tf119 d ad fun af ag aH ah ai=>?_
   obtain⟨aj,ak,al,rfl,aI,am⟩:=ah
   have an:AtK _ af ag [V6 ac.Doc,V3 aj ak al]:=ai
   refine fa ff119_1 u (lv (mk_load tf117 u i (an 1 _ u)) (mv u ?_))
   obtain⟨aJ,ao,ap⟩:=ob ae
   refine lk co128 (ok_laws_markIntS F i.e1 am (w64_rng _) ao) ?_
   rintro aK aL ⟨aq,rfl,o,ar⟩
   have au:=(i.c1 o).t1
   refine av u (nb (qe_seq (wc_region (mv u (lv (rv_add u u) (av u (wl_nil ?_)))))))
   cases oi ap
   exact qd ⟨_,u,aq,u,au,(m.trans o.le),ar,(w64_rng _)⟩
  refine wc_exit (qe_then_exit (qe_then_exit ?_))
  cases oi f
  cases G _ u
  refine qe_block_eq ?_
  cases oi C
  exact qd ⟨H,u,l,m,I⟩
 rintro _ aM ⟨K9,rfl,ax,aN,ay⟩
 refine qr (mv u (av u (nq (wc_ret ?_))))
 cases oi x
 exact ey results82 ⟨K9,u,ax,ay⟩

theorem ok_laws_markEntryS {B:List Nat}{KM:KMap}{q0:List GEntry}{q1:Int}{r:Int}(hS:SH w K Z w K [mkI B KM])(d:SliceAt tGEntry (KM.only B) A a b q0)(H:rng64 q1)(hm:M.laws_markEntryS F q0 q1=some r):
  Calls prog 43 #[V3 A a b,V6 q1] w fun e w'=>∃K',e= .returned (V6 r)∧SH w K Z w' K' [mkI B KM]∧rng64 r:=by
 rw [M.laws_markEntryS] at hm
 refine ci func43 u ntmps43 (sr (lv (r_0 u) (nsr (lv (r_0 u) (nq ?_)))))
 obtain⟨l,I,J⟩:=ob hm
 refine wc_cutg (IW w K Z K [(1,V6 l)] [mkI B KM] (rng64 l)) ?_ ?_
 ·refine wc_block ?_
  obtain⟨aV,O,R⟩:=ob I
  refine qw (fun (c:Int×Int)=>IW w K Z K [(0,V3 A a b),(1,V6 c.1),(5,V6 c.2)] [mkI B KM] (rng64 c.1∧rng64 c.2)) O ⟨K,u,hS,kr,H,d_0⟩ ?_
  rintro c _ aW aX S T ⟨U,rfl,f,m,o,aY⟩
  refine wc_seq (sr (mv u (mv u (lv (rv_len underlying39 u d) (lv (rv_lss u u) (nq (wcc S u (fun V i=>?_) (fun V i=>?_))))))))
  ·refine wc_skip (qs (wc_block (sr (mv u (mv u (mv u ?_))))))
   obtain⟨W,X,Y⟩:=ob i
   refine lk co58 (ok_laws_markText F f.enter0 o X) ?_
   rintro aZ ba ⟨bb,rfl,q,bc⟩
   have aa:=(f.c0 q).t1
   obtain⟨s,ab,ac⟩:=ob Y
   refine li underlying39 tf114 d ab fun ad ae bd af ag=>?_
   obtain⟨ah,ai,aj,rfl,be,bf,bg⟩:=af
   have ak:AtK _ ad ae [sv s.Field,sv s.Term,V3 ah ai aj]:=ag
   refine fa ff114_0 u (mk_store (v:=sv W) wn tf9 u u u aa (ak 0 _ u) u fun bh x=>(nr (mv u (lv (rv_add u u) (av u (nr (mv u (mv u (mv u ?_)))))))))
   obtain⟨al,am,an⟩:=ob ac
   refine lk co58 (ok_laws_markText F x.enter0 (w64_rng _) am) ?_
   rintro bi bj ⟨bk,rfl,y,bl⟩
   have ao:=(x.c0 y).t1
   obtain⟨C,ap,aq⟩:=ob an
   refine li underlying39 tf114 d ap fun ar au bm aw ax=>?_
   obtain⟨ay,az,aA,rfl,bn,bo,bp⟩:=aw
   have aB:AtK _ ar au [sv C.Field,sv C.Term,V3 ay az aA]:=ax
   refine fa ff114_1 u (mk_store (v:=sv al) wn tf9 u u u ao (aB 1 _ u) u fun bq k=>(nr (mv u (lv (rv_add u u) (av u (nq (wc_region (mv u (mv u ?_)))))))))
   obtain⟨D,aC,aD⟩:=ob aq
   refine li underlying39 tf114 d aC fun aE aF br aG aH=>?_
   obtain⟨aI,aJ,aK,rfl,bs,bu,aL⟩:=aG
   have aM:AtK _ aE aF [sv D.Field,sv D.Term,V3 aI aJ aK]:=aH
   refine fa ff114_2 u (lv (mk_load tf112 u k (aM 2 _ u)) (mv u ?_))
   obtain⟨bv,aN,aO⟩:=ob aD
   refine lk co82 (ok_laws_markPostS F k.e1 aL (w64_rng _) aN) ?_
   rintro bx bz ⟨aP,rfl,G,aQ⟩
   have aR:=(k.c1 G).t1
   refine av u (nb (qe_seq (wc_region (mv u (lv (rv_add u u) (av u (wl_nil ?_)))))))
   cases oi aO
   exact qd ⟨_,u,aP,u,aR,(((m.trans q.le).trans y.le).trans G.le),aQ,(w64_rng _)⟩
  refine wc_exit (qe_then_exit (qe_then_exit ?_))
  cases oi i
  cases T _ u
  refine qe_block_eq ?_
  cases oi R
  exact qd ⟨U,u,f,m,o⟩
 rintro _ bA ⟨K9,rfl,aT,bB,aU⟩
 refine qr (mv u (av u (nq (wc_ret ?_))))
 cases oi J
 exact ey results43 ⟨K9,u,aT,aU⟩

theorem ok_laws_markSeg {B:List Nat}{KM:KMap}{q0:GSeg}{q1:Int}{r:Int}(hS:SH w K Z w K [mkI B KM])(l:SliceAt tGDoc (KM.only B) A a b q0.Docs)(m:SliceAt tGEntry (KM.only B) C c d q0.Entries)(o:rng64 q1)(hm:M.laws_markSeg F q0 q1=some r):
  Calls prog 15 #[.agg #[V3 A a b,V3 C c d],V6 q1] w fun e w'=>∃K',e= .returned (V6 r)∧SH w K Z w' K' [mkI B KM]∧rng64 r:=by
 rw [M.laws_markSeg] at hm
 refine ci func15 u ntmps15 (sr (bx u hS fun q T s=>?_))
 have i:SH _ _ _ _ _ [obj q [V3 A a b,V3 C c d] 41,_]:=s
 refine lv (r_0 u) (nr (fl ff41_0 u tf38 m0 i u (mv u ?_)))
 obtain⟨U,x,y⟩:=ob hm
 have k:=i.f1
 refine lk co42 (ok_laws_markDocS F k.e1 l o x) ?_
 rintro V W ⟨X,rfl,D,G⟩
 have f:=(k.c1 D).t2
 refine av u (nr (fl ff41_1 u tf39 m1 f u (mv u ?_)))
 obtain⟨Y,H,I⟩:=ob y
 refine lk co43 (ok_laws_markEntryS F f.e1 m G H) ?_
 rintro aa ab ⟨J,rfl,O,R⟩
 have S:=(f.c1 O).t2
 refine av u (nr (mv u (av u (nq (wc_ret ?_)))))
 cases oi I
 exact ey results15 ⟨J,u,S.s,R⟩

theorem ok_spec_l7SameInts {q0:List Int}{q1:List Int}{r:Bool}(hS:SH w K [] w K [])(k:SliceAt tInt K A a b q0)(x:SliceAt tInt K B c d q1)(hm:M.spec_l7SameInts F q0 q1=some r):
  Calls prog 106 #[V3 A a b,V3 B c d] w (R_b w K r):=by
 rw [M.spec_l7SameInts] at hm
 refine ci func106 u ntmps106 (sr (lv (r_f u) (nsr (mv u (lv (rv_len underlying117 u k) (mv u (lv (rv_len underlying117 u x) (lv (rv_neq u u) (nq ?_)))))))))
 refine wc_cond u (fun l=>?_) (fun l=>?_)
 ·have m:=cond_t l hm
  refine sr (lv (r_f u) (nq (rr ?_)))
  cases oi m
  exact ey results106 ⟨K,u,hS⟩
 have m:=cond_f l hm
 refine wc_skip (qs (sr (lv (r_0 u) (nq ?_))))
 obtain⟨I,J,i⟩:=ob m
 refine wc_cutg (IE I w K [] K [] []) ?_ ?_
 ·refine wc_block ?_
  obtain⟨ap,O,y⟩:=ob J
  refine qw (fun (o:Int)=>IW w K [] K [(0,V3 A a b),(1,V3 B c d),(5,V6 o)] [] (rng64 o)) O ⟨K,u,hS,kr,d_0⟩ ?_
  rintro o _ aq ar R C ⟨S,rfl,D,f,au⟩
  refine wc_seq (sr (mv u (mv u (lv (rv_len underlying117 u (k.mono f)) (lv (rv_lss u u) (nq (wcc R u (fun T q=>?_) (fun T q=>?_))))))))
  ·refine wc_skip (qs (wc_block (wc_seq (wc_quiet mixed (by kernel_rfl) D (km u (km u ?_))))))
   obtain⟨U,V,W⟩:=ob q
   refine ki underlying117 tf3 (k.mono f) V fun X Y aw aa ab=>?_
   obtain⟨rfl,ax⟩:=aa
   have ac:AtK _ X Y [V6 U]:=ab
   refine kh (rq_load1 tf3 u (ac 0 _ u)) (km u (km u ?_))
   obtain⟨ad,ae,af⟩:=ob W
   refine ki underlying117 tf3 (x.mono f) ae fun ag ah ay ai aj=>?_
   obtain⟨rfl,az⟩:=ai
   have ak:AtK _ ag ah [V6 ad]:=aj
   refine kh (rq_load1 tf3 u (ak 0 _ u)) (kv (rv_neq u u) (wq_nil ?_))
   rintro aA ⟨G,H,al⟩
   refine qe_seq (wcc af u (fun am s=>?_) (fun am s=>?_))
   ·refine sr (lv (r_f u) (nq (wc_ret (qe_block_ret (qe_then_ret (qe_then_ret ?_))))))
    cases oi s
    cases C _ u
    refine qe_block_ret (qe_then_ret ?_)
    cases oi y
    refine qe_then_ret ?_
    cases oi i
    exact ey results106 ⟨G,u,H⟩
   refine wc_skip (qe_block (qe_seq (wc_region (mv u (lv (rv_add u u) (av u (wl_nil ?_)))))))
   cases oi s
   exact qd ⟨_,u,G,u,H,(f.trans al),(w64_rng _)⟩
  refine wc_exit (qe_then_exit (qe_then_exit ?_))
  cases oi q
  cases C _ u
  refine qe_block_eq ?_
  cases oi y
  exact qe_mid' ⟨_,S,u,u,D,f⟩ trivial
 rintro _ aB ⟨aC,an,rfl,rfl,ao,aD⟩
 have i:=elim_l i
 refine qr (lv (r_t u) (nq (wc_ret ?_)))
 cases oi i
 exact ey results106 ⟨an,u,ao⟩

theorem ok_spec_l7SameEntry {q0:GEntry}{q1:GEntry}{r:Bool}(hS:SH w K [] w K [])(bF:q0.Field.length≤maxLen)(bG:q0.Term.length≤maxLen)(x:SliceAt tGPost K A a b q0.Posts)(bH:q1.Field.length≤maxLen)(bI:q1.Term.length≤maxLen)(G:SliceAt tGPost K B c d q1.Posts)(hm:M.spec_l7SameEntry F q0 q1=some r):
  Calls prog 65 #[.agg #[sv q0.Field,sv q0.Term,V3 A a b],.agg #[sv q1.Field,sv q1.Term,V3 B c d]] w (R_b w K r):=by
 rw [M.spec_l7SameEntry] at hm
 refine ci func65 u ntmps65 (sr (bx u hS fun m bJ ac=>?_))
 have ad:SH _ _ _ _ _ [obj m [sv q0.Field,sv q0.Term,V3 A a b] 114]:=ac
 refine bx u ad fun o bK ae=>?_
 have k:SH _ _ _ _ _ [obj o [sv q1.Field,sv q1.Term,V3 B c d] 114,_]:=ae
 refine lv (r_f u) (ns (wc_seq ?_))
 obtain⟨af,ag,ah⟩:=ob hm
 refine wc_cutg (IV w K [] K [(2,pt m),(3,pt o),(26,.bool af)] [obj m [sv q0.Field,sv q0.Term,V3 A a b] 114,obj o [sv q1.Field,sv q1.Term,V3 B c d] 114]) ?_ ?_
 ·refine wc_region (fl ff114_0 u tf9 m1 k u (fl ff114_0 u tf9 m0 k u (lv (rv_sneq u u) (mv u (bt ag (fun l H=>?_) (fun l H=>?_))))))
  ·iterate 5 refine lu l ?_
   refine lv (p_t u l u) (mv u ?_)
   iterate 7 refine lu u ?_
   refine lv (p_t u u u) (wl_nil ?_)
   cases oi H
   exact qd ⟨K,u,k.f1,kr⟩
  refine lg l (rv_fieldAddr ff114_1 u) (lg l (rv_loadm1 tf9 u m1 k u) (lg l (rv_fieldAddr ff114_1 u) (lg l (rv_loadm1 tf9 u m0 k u) (lg l (rv_sneq u u) (lv (rv_pick_f u l u) (mv u (bt H (fun i I=>?_) (fun i I=>?_))))))))
  ·iterate 7 refine lu i ?_
   refine lv (p_t u i u) (wl_nil ?_)
   cases oi I
   exact qd ⟨K,u,k.f1,kr⟩
  refine lg i (rv_fieldAddr ff114_2 u) (lg i (rv_loadm1 tf112 u m1 k u) (lg i (rv_len underlying112 u x) (lg i (rv_fieldAddr ff114_2 u) (lg i (rv_loadm1 tf112 u m0 k u) (lg i (rv_len underlying112 u G) (lg i (rv_neq u u) (lv (rv_pick_f u i u) (wl_nil ?_))))))))
  cases oi I
  exact qd ⟨K,u,k.f1,kr⟩
 rintro _ bL ⟨y,rfl,U,s⟩
 refine qe_seq (wcc ah u (fun ai J=>?_) (fun ai J=>?_))
 ·refine sr (lv (r_f u) (nq (rr ?_)))
  cases oi J
  exact ey results65 ⟨y,u,U.s⟩
 refine wc_skip (qs (sr (lv (r_0 u) (nq ?_))))
 obtain⟨aj,ak,C⟩:=ob J
 refine wc_cutg (IE aj w K [] y [] []) ?_ ?_
 ·refine wc_block ?_
  obtain⟨bM,al,V⟩:=ob ak
  refine qw (fun (D:Int)=>IW w K [] y [(2,pt m),(3,pt o),(5,V6 D)] [obj m [sv q0.Field,sv q0.Term,V3 A a b] 114,obj o [sv q1.Field,sv q1.Term,V3 B c d] 114] (rng64 D)) al ⟨y,u,U,kr,d_0⟩ ?_
  rintro D _ bN bO am W ⟨X,rfl,O,q,bP⟩
  refine wc_seq (sr (mv u (fl ff114_2 u tf112 m0 O u (lv (rv_len underlying112 u (x.mono (s.trans q))) (lv (rv_lss u u) (nq (wcc am u (fun an R=>?_) (fun an R=>?_))))))))
  ·refine wc_skip (qs (wc_block (wc_seq ?_)))
   obtain⟨ao,ap,aq⟩:=ob R
   refine wc_cutg (IV w K [] X [(2,pt m),(3,pt o),(5,V6 D),(62,.bool ao)] [obj m [sv q0.Field,sv q0.Term,V3 A a b] 114,obj o [sv q1.Field,sv q1.Term,V3 B c d] 114]) ?_ ?_
   ·refine wc_quiet mixed (by kernel_rfl) O (kv (rv_fieldAddr ff114_2 u) (kh (rq_loadm1 tf112 u m0 u) (km u ?_)))
    obtain⟨ar,au,aw⟩:=ob ap
    refine ki underlying112 tf119 (x.mono (s.trans q)) au fun ax ay bQ az aA=>?_
    obtain⟨aB,aC,aD,rfl,bR,bS⟩:=az
    have aE:AtK _ ax ay [V6 ar.Doc,V3 aB aC aD]:=aA
    refine kv (rv_fieldAddr ff119_0 u) (kh (rq_load1 tf3 u (aE 0 _ u)) (kv (rv_fieldAddr ff114_2 u) (kh (rq_loadm1 tf112 u m1 u) (km u ?_))))
    obtain⟨aF,aG,aH⟩:=ob aw
    refine ki underlying112 tf119 (G.mono (s.trans q)) aG fun aI aJ bT aK aL=>?_
    obtain⟨aM,aN,aO,rfl,bU,bV⟩:=aK
    have aP:AtK _ aI aJ [V6 aF.Doc,V3 aM aN aO]:=aL
    refine kv (rv_fieldAddr ff119_0 u) (kh (rq_load1 tf3 u (aP 0 _ u)) (kv (rv_neq u u) (km u (bt aH (fun f S=>?_) (fun f S=>?_)))))
    ·iterate 14 refine kn f ?_
     refine kv (p_t u f u) (wq_nil ?_)
     rintro bW ⟨aQ,aR,aS⟩
     cases oi S
     exact qd ⟨aQ,u,aR,aS⟩
    refine kg f (rv_fieldAddr ff114_2 u) (kgh f (rq_loadm1 tf112 u m0 u) (kg f (rv_move u) ?_))
    obtain⟨aT,aU,aV⟩:=ob S
    refine wq_indexAddr (t:=tGPost) (wg u u f) u underlying112 tf119 u u (x.mono (s.trans q)) aU fun aW aX bX aY aZ=>?_
    obtain⟨ba,bb,bc,rfl,bY,bd⟩:=aY
    have be:AtK _ aW aX [V6 aT.Doc,V3 ba bb bc]:=aZ
    refine kg f (rv_fieldAddr ff119_1 u) (kgh f (rq_load1 tf117 u (be 1 _ u)) (kg f (rv_fieldAddr ff114_2 u) (kgh f (rq_loadm1 tf112 u m1 u) (kg f (rv_move u) ?_))))
    obtain⟨bf,bg,bh⟩:=ob aV
    refine wq_indexAddr (t:=tGPost) (wg u u f) u underlying112 tf119 u u (G.mono (s.trans q)) bg fun bi bj bZ bk bl=>?_
    obtain⟨bm,bn,bo,rfl,ca,bp⟩:=bk
    have bq:AtK _ bi bj [V6 bf.Doc,V3 bm bn bo]:=bl
    refine kg f (rv_fieldAddr ff119_1 u) (kgh f (rq_load1 tf117 u (bq 1 _ u)) ?_)
    obtain⟨cb,br,bs⟩:=ob bh
    refine kcg f co106 (fun _ _ bu Y=>(ok_spec_l7SameInts F) bu.enter0 (bd.mono Y) (bp.mono Y) br) (kg f (rv_not u) (kv (rv_pick_f u f u) (wq_nil ?_)))
    rintro cc ⟨bv,bz,bA⟩
    cases oi bs
    exact qd ⟨bv,u,bz,bA⟩
   rintro _ cd ⟨aa,rfl,ab,bB⟩
   refine qe_seq (wcc aq u (fun bC T=>?_) (fun bC T=>?_))
   ·refine sr (lv (r_f u) (nq (wc_ret (qe_block_ret (qe_then_ret (qe_then_ret ?_))))))
    cases oi T
    cases W _ u
    refine qe_block_ret (qe_then_ret ?_)
    cases oi V
    refine qe_then_ret ?_
    cases oi C
    exact ey results65 ⟨aa,u,ab.s⟩
   refine wc_skip (qe_block (qe_seq (wc_region (mv u (lv (rv_add u u) (av u (wl_nil ?_)))))))
   cases oi T
   exact qd ⟨_,u,aa,u,ab,(q.trans bB),(w64_rng _)⟩
  refine wc_exit (qe_then_exit (qe_then_exit ?_))
  cases oi R
  cases W _ u
  refine qe_block_eq ?_
  cases oi V
  exact qe_mid' ⟨_,X,u,u,O.s,q⟩ trivial
 rintro _ ce ⟨cf,bD,rfl,rfl,bE,cg⟩
 have C:=elim_l C
 refine qr (lv (r_t u) (nq (wc_ret ?_)))
 cases oi C
 exact ey results65 ⟨bD,u,bE⟩

theorem ok_spec_l14Most {q0:List GBlock}{q1:Int}{r:Int}(hS:SH w K [] w K [])(i:SliceAt tGBlock K A a b q0)(ah:rng64 q1)(hm:M.spec_l14Most F q0 q1=some r):
  Calls prog 85 #[V3 A a b,V6 q1] w (R_i w K r):=by
 rw [M.spec_l14Most] at hm
 refine ci func85 u ntmps85 (sr (lv (r_0 u) (nsr (lv (r_0 u) (nq ?_)))))
 obtain⟨B,C,f⟩:=ob hm
 refine wc_cutg (IE B w K [] K [] []) ?_ ?_
 ·refine wc_block ?_
  obtain⟨ai,D,q⟩:=ob C
  refine qw (fun (k:Int)=>IW w K [] K [(0,V3 A a b),(1,V6 q1),(5,V6 k)] [] (rng64 k)) D ⟨K,u,hS,kr,d_0⟩ ?_
  rintro k _ aj ak G s ⟨l,rfl,c,d,al⟩
  refine wc_seq (sr (mv u (mv u (lv (rv_len underlying32 u (i.mono d)) (lv (rv_lss u u) (nq (wcc G u (fun H m=>?_) (fun H m=>?_))))))))
  ·refine wc_skip (qs (wc_block (sr (mv u (mv u (mv u ?_))))))
   obtain⟨x,I,J⟩:=ob m
   refine li underlying32 tf73 (i.mono d) I fun O R am S T=>?_
   obtain⟨rfl,an,ao⟩:=S
   have U:AtK _ O R [V6 x.Last,V6 x.Most]:=T
   refine fa ff73_0 u (lv (rv_load1 tf3 u c (U 0 _ u)) (lv (rv_leq u u) (nq (wcc J u (fun V o=>?_) (fun V o=>?_)))))
   ·refine sr (mv u (mv u ?_))
    obtain⟨y,W,X⟩:=ob o
    refine li underlying32 tf73 (i.mono d) W fun Y aa ap ab ac=>?_
    obtain⟨rfl,aq,ad⟩:=ab
    have ae:AtK _ Y aa [V6 y.Last,V6 y.Most]:=ac
    refine fa ff73_1 u (lv (rv_load1 tf3 u c (ae 1 _ u)) (av u (nq (wc_ret (qe_block_ret (qe_then_ret (qe_then_ret ?_)))))))
    cases oi X
    cases s _ u
    refine qe_block_ret (qe_then_ret ?_)
    cases oi q
    refine qe_then_ret ?_
    cases oi f
    exact ey results85 ⟨l,u,c,ad⟩
   refine wc_skip (qe_block (qe_seq (wc_region (mv u (lv (rv_add u u) (av u (wl_nil ?_)))))))
   cases oi o
   exact qd ⟨_,u,l,u,c,d,(w64_rng _)⟩
  refine wc_exit (qe_then_exit (qe_then_exit ?_))
  cases oi m
  cases s _ u
  refine qe_block_eq ?_
  cases oi q
  exact qe_mid' ⟨_,l,u,u,c,d⟩ trivial
 rintro _ ar ⟨s9,af,rfl,rfl,ag,aw⟩
 have f:=elim_l f
 refine qr (lv (r_0 u) (nq (wc_ret ?_)))
 cases oi f
 exact ey results85 ⟨af,u,ag,d_0⟩

theorem ok_spec_l13Less {q0:GHit}{q1:GHit}{r:Bool}(hS:SH w K [] w K [])(q:rng64 q0.Doc)(s:rng64 q0.Points)(x:rng64 q1.Doc)(y:rng64 q1.Points)(hm:M.spec_l13Less F q0 q1=some r):
  Calls prog 131 #[.agg #[V6 q0.Doc,V6 q0.Points],.agg #[V6 q1.Doc,V6 q1.Points]] w (R_b w K r):=by
 rw [M.spec_l13Less] at hm
 refine ci func131 u ntmps131 (sr (bx u hS fun i A k=>?_))
 have l:SH _ _ _ _ _ [obj i [V6 q0.Doc,V6 q0.Points] 92]:=k
 refine bx u l fun m B o=>?_
 have b:SH _ _ _ _ _ [obj m [V6 q1.Doc,V6 q1.Points] 92,_]:=o
 refine lv (r_f u) (nr (fl ff92_1 u tf3 m1 b u (fl ff92_1 u tf3 m0 b u (lv (rv_gtr u u) (mv u (bt hm (fun a d=>?_) (fun a d=>?_)))))))
 ·iterate 6 refine lu a ?_
  refine wl_un (uu u u) u (wl_un (uu u u) u (wl_un (uu u u) u (wl_un (uu u u) u (wl_un (uu u u) u (lu a (lv (p_t u a u) (av u (nq (wc_ret ?_)))))))))
  cases oi d
  exact ey results131 ⟨K,u,b.s⟩
 refine lg a (rv_fieldAddr ff92_1 u) (lg a (rv_loadm1 tf3 u m1 b u) (lg a (rv_fieldAddr ff92_1 u) (lg a (rv_loadm1 tf3 u m0 b u) (lg a (rv_eql u u) (lg a (rv_move u) (bt d (fun c f=>?_) (fun c f=>?_)))))))
 ·refine lg c (rv_fieldAddr ff92_0 u) (lg c (rv_loadm1 tf3 u m1 b u) (lg c (rv_fieldAddr ff92_0 u) (lg c (rv_loadm1 tf3 u m0 b u) (lg c (rv_lss u u) (lg a (rv_pick_t u c u) (lv (rv_pick_f u a u) (av u (nq (wc_ret ?_)))))))))
  cases oi f
  exact ey results131 ⟨K,u,b.s⟩
 iterate 5 refine lu c ?_
 refine lg a (p_f u c u) (lv (rv_pick_f u a u) (av u (nq (wc_ret ?_))))
 cases oi f
 exact ey results131 ⟨K,u,b.s⟩

theorem ok_spec_l13Push {q0:List GHit}{q1:GHit}{q2:Int}{r:(List GHit)}(hS:SH w K [] w K [])(f:SliceAt tGHit K A a b q0)(s:rng64 q1.Doc)(x:rng64 q1.Points)(bk:rng64 q2)(hm:M.spec_l13Push F q0 q1 q2=some r):
  Calls prog 86 #[V3 A a b,.agg #[V6 q1.Doc,V6 q1.Points],V6 q2] w fun e w'=>∃a_1 n_2 c_3 K',e= .returned (V3 a_1 n_2 c_3)∧SH w K [] w' K' []∧SliceAt tGHit K' a_1 n_2 c_3 r:=by
 rw [M.spec_l13Push] at hm
 refine ci func86 u ntmps86 (sr (bx u hS fun d w9 T=>?_))
 have U:SH _ _ _ _ _ [obj d [V6 q1.Doc,V6 q1.Points] 92]:=T
 refine lv (r_n u) (nr (lv (r_0 u) (ns ?_)))
 obtain⟨y,V,W⟩:=ob hm
 refine wc_cutg (IW w K [] K [(0,V3 A a b),(2,V6 q2),(4,pt d),(7,V6 y)] [obj d [V6 q1.Doc,V6 q1.Points] 92] (rng64 y)) ?_ ?_
 ·refine wc_block ?_
  obtain⟨bm,X,Y⟩:=ob V
  refine qw (fun (i:Int)=>IW w K [] K [(0,V3 A a b),(2,V6 q2),(4,pt d),(7,V6 i)] [obj d [V6 q1.Doc,V6 q1.Points] 92] (rng64 i)) X ⟨K,u,U,kr,d_0⟩ ?_
  rintro i _ bn bo aa ab ⟨ac,rfl,ad,k,ae⟩
  refine wc_seq (wc_seq ?_)
  obtain⟨af,ag,ah⟩:=ob aa
  refine wc_cutg (IV w K [] ac [(0,V3 A a b),(2,V6 q2),(4,pt d),(7,V6 i),(20,.bool af)] [obj d [V6 q1.Doc,V6 q1.Points] 92]) ?_ ?_
  ·refine wc_quiet mixed (by kernel_rfl) ad (km u (km u (kv (rv_len underlying51 u (f.mono k)) (kv (rv_lss u u) (km u (bt ag (fun c l=>?_) (fun c l=>?_)))))))
   ·refine kg c (rv_move u) (kg c (rv_move u) ?_)
    obtain⟨B,ai,aj⟩:=ob l
    refine wq_indexAddr (t:=tGHit) (wg u u c) u underlying51 tf92 u u (f.mono k) ai fun ak al bp am an=>?_
    obtain⟨rfl,ao,ap⟩:=am
    have aq:AtK _ ak al [V6 B.Doc,V6 B.Points]:=an
    refine kgh c (rq_loadS tf92 u aq u) (kgh c (rq_loadmS (ds:=[V6 q1.Doc,V6 q1.Points]) tf92 u m0 u u) ?_)
    obtain⟨bq,ar,au⟩:=ob aj
    refine kcg c co131 (fun _ _ aw br=>(ok_spec_l13Less F) aw.enter0 ao ap s x ar) (kv (rv_pick_t u c u) (wq_nil ?_))
    rintro bs ⟨ax,ay,az⟩
    cases oi au
    exact qd ⟨ax,u,ay,az⟩
   iterate 6 refine kn c ?_
   refine kv (p_f u c u) (wq_nil ?_)
   rintro bu ⟨aA,aB,aC⟩
   cases oi l
   exact qd ⟨aA,u,aB,aC⟩
  rintro _ bv ⟨C,rfl,D,G⟩
  refine qe_seq (wcc ah u (fun aD m=>?_) (fun aD m=>?_))
  ·refine wc_skip (qe_seq (wc_block (wc_region (mv u (lv (rv_add u u) (av u (nb ?_)))))))
   cases oi m
   exact qd ⟨_,u,C,u,D,(k.trans G),(w64_rng _)⟩
  refine wc_exit (qe_then_exit (qe_then_exit ?_))
  cases oi m
  cases ab _ u
  refine qe_block_eq ?_
  cases oi Y
  exact qd ⟨C,u,D,(k.trans G),ae⟩
 rintro _ bz ⟨bA,rfl,aE,H,bB⟩
 refine qr (b0 tGHit underlying51 tf92 aE fun bC bD bE I aF aG=>(mv u (mv u ?_)))
 obtain⟨bF,aH,aI⟩:=ob W
 refine wl_sl_h (t:=tGHit) wn u underlying51 tf92 u u (f.mono (H.trans I)) aH fun bG bH bI aJ=>?_
 obtain⟨bJ,aK,aL⟩:=ob aI
 refine lp underlying51 tf92 aF aJ aK aG fun bK bL bM bN bO aM aN J=>(av u (nr (mv u (lv (rv_loadmS (ds:=[V6 q1.Doc,V6 q1.Points]) tf92 u m1 J u u) (lb tGHit (.agg #[V6 q1.Doc,V6 q1.Points]) [V6 q1.Doc,V6 q1.Points] q1 underlying51 tf92 ⟨u,s,x⟩ J fun bP bQ bR O aO aP=>?_)))))
 obtain⟨bS,aQ,aR⟩:=ob aL
 refine lp underlying51 tf92 (aN.mono O) aO aQ aP.f1 fun bT bU bV bW bX aS aT aU=>(av u (nr (mv u (mv u (mv u ?_)))))
 obtain⟨bY,aV,aW⟩:=ob aR
 refine wl_sl_l (t:=tGHit) wn u underlying51 tf92 u u (SliceAt.mono ((((H.trans I).trans aM).trans O).trans aS) f) aV fun bZ ca cb aX=>?_
 obtain⟨cc,aY,aZ⟩:=ob aW
 refine lp underlying51 tf92 aT aX aY aU fun ba bb bc cd R ce o S=>(av u (nsr (mv u (lv (rv_len underlying51 u o) (mv u (lv (rv_gtr u u) (nq (wcc aZ u (fun bd q=>?_) (fun bd q=>?_)))))))))
 ·refine sr (mv u (mv u ?_))
  obtain⟨cf,be,bf⟩:=ob q
  refine wl_sl_h (t:=tGHit) wn u underlying51 tf92 u u o be fun bg bh bi bj=>(av u (nq (rr ?_)))
  cases oi bf
  exact ey results86 ⟨bg,bh,bi,R,u,S.s,bj⟩
 refine wc_skip (qr (mv u (av u (nq (wc_ret ?_)))))
 cases oi q
 exact ey results86 ⟨ba,bb,bc,R,u,S.s,o⟩

theorem ok_impl_Seg_put_1 {q0:GEntry}{q1:Str}{q2:GTerm}{r:Bool}(hS:SH w K Z w K [obj c [sv q1] 9,obj d [sv q2.Text,V6 q2.At] 136])(o:q0.Field.length≤maxLen)(q:q0.Term.length≤maxLen)(s:SliceAt tGPost K A a b q0.Posts)(x:q1.length≤maxLen)(y:q2.Text.length≤maxLen)(B:rng64 q2.At)(hm:M.impl_Seg_put_1 F q0 q1 q2=some r):
  Calls prog 159 #[.agg #[sv q0.Field,sv q0.Term,V3 A a b],.pointer (some ⟨c,0,none⟩),.pointer (some ⟨d,0,none⟩)] w fun e w'=>∃K',e= .returned (.bool r)∧SH w K Z w' K' [obj c [sv q1] 9,obj d [sv q2.Text,V6 q2.At] 136]:=by
 rw [M.impl_Seg_put_1] at hm
 refine ci func159 u ntmps159 (sr (bx u hS fun l C m=>?_))
 have i:SH _ _ _ _ _ [obj l [sv q0.Field,sv q0.Term,V3 A a b] 114,_,_]:=m
 refine lv (r_f u) (nr (fl ff114_0 u tf9 m0 i u (lv (rv_loadm1 tf9 u m1 i u) (lv (rv_seql u u) (mv u (bt hm (fun f k=>?_) (fun f k=>?_)))))))
 ·refine lg f (rv_fieldAddr ff114_1 u) (lg f (rv_loadm1 tf9 u m0 i u) (lg f (rv_fieldAddr ff136_0 u) (lg f (rv_loadm1 tf9 u m2 i u) (lg f (rv_seql u u) (lv (rv_pick_t u f u) (av u (nq (wc_ret ?_))))))))
  cases oi k
  exact ey results159 ⟨K,u,i.s⟩
 iterate 5 refine lu f ?_
 refine lv (p_f u f u) (av u (nq (wc_ret ?_)))
 cases oi k
 exact ey results159 ⟨K,u,i.s⟩

theorem ok_slices_IndexFunc_Entry__impl_Seg_put_1 {q0:List GEntry}{q1c0:Str}{q1c1:GTerm}{r:Int}(hS:SH w K Z w K [obj c [sv q1c0] 9,obj d [sv q1c1.Text,V6 q1c1.At] 136])(f:SliceAt tGEntry K A a b q0)(O:q1c0.length≤maxLen)(R:q1c1.Text.length≤maxLen)(S:rng64 q1c1.At)(hm:M.slices_IndexFunc_Entry__impl_Seg_put_1 F q0 q1c0 q1c1=some r):
  Calls prog 158 #[V3 A a b,.func (.func 159) #[] #[.pointer (some ⟨c,0,none⟩),.pointer (some ⟨d,0,none⟩)]] w fun e w'=>∃K',e= .returned (V6 r)∧SH w K Z w' K' [obj c [sv q1c0] 9,obj d [sv q1c1.Text,V6 q1c1.At] 136]∧rng64 r:=by
 rw [M.slices_IndexFunc_Entry__impl_Seg_put_1] at hm
 refine ci func158 u ntmps158 (sr (lv (r_0 u) (nsr (mv u (lv (rv_len underlying39 u f) (lv (r_m u) (nq ?_)))))))
 obtain⟨T,U,i⟩:=ob hm
 refine wc_cutg (IE T w K Z K [] [obj c [sv q1c0] 9,obj d [sv q1c1.Text,V6 q1c1.At] 136]) ?_ ?_
 ·refine wc_block ?_
  obtain⟨aq,V,q⟩:=ob U
  refine qf (fun (s:Nat) (x:Unit)=>IV w K Z K [(0,V3 A a b),(1,.func (.func 159) #[] #[pt c,pt d]),(7,V6 (q0.length:Int)),(8,V6 ((s:Nat):Int))] [obj c [sv q1c0] 9,obj d [sv q1c1.Text,V6 q1c1.At] 136]) V ⟨K,u,hS,kr⟩ ?_ ?_
  ·rintro s x _ W ar hi29 X Y ⟨y,rfl,k,l⟩
   refine sr (lv (rv_lss u u) (ns (wc_cond_t u (decide_eq_true (by omega)) (wc_skip (qe_seq (wc_seq (wc_block (sr (mv u (av u (nr (mv u ?_))))))))))))
   refine mv u (mv u ?_)
   obtain⟨m,aa,ab⟩:=ob X
   refine li underlying39 tf114 (f.mono l) aa fun ac ad au ae af=>?_
   obtain⟨B,C,D,rfl,ag,ah,ai⟩:=ae
   have aj:AtK _ ac ad [sv m.Field,sv m.Term,V3 B C D]:=af
   refine lv (rv_loadS tf114 u k aj u) ?_
   obtain⟨aw,ak,al⟩:=ob ab
   have G:=k.f1.f1
   refine wl_call wn u (rt_callv (vs:=[.agg #[sv m.Field,sv m.Term,V3 B C D]]) (cap:=#[pt c,pt d]) co159 u u) (ok_impl_Seg_put_1 F G.e2 ag ah ai O R S ak) ?_
   rintro ax ay ⟨H,rfl,I⟩
   refine⟨_,u,?_⟩
   have J:=(G.c2 I).t2
   refine nq (wcc al u (fun am o=>?_) (fun am o=>?_))
   ·refine sr (mv u (av u (nq (wc_ret (qe_block_ret (qe_then_ret (qe_then_ret ?_)))))))
    cases oi o
    cases Y _ u
    refine qe_block_ret (qe_then_ret ?_)
    cases oi q
    refine qe_then_ret ?_
    cases oi i
    exact ey results158 ⟨H,u,J,(rng_idx hi29 (SliceAt.max f))⟩
   refine wc_skip (qe_block (qg (lv (rv_add_to u u (w64_succ hi29 (SliceAt.max f))) (mv u (wl_nil ?_)))))
   cases oi o
   exact qd ⟨_,u,H,u,J,(l.trans I.le)⟩
  rintro x _ W an ⟨y,rfl,k,l⟩
  subst an
  refine sr (lv (rv_lss u u) (ns (wc_cond_f u (decide_eq_false (by omega)) (wc_exit (qe_then_exit (qe_then_exit (qe_block_eq ?_)))))))
  cases oi q
  exact qe_mid' ⟨_,y,u,u,k,l⟩ trivial
 rintro _ az ⟨aA,ao,rfl,rfl,ap,aB⟩
 have i:=elim_l i
 refine qr (lv (rv_assign (v:=V6 (-1)) u) (nq (wc_ret ?_)))
 cases oi i
 exact ey results158 ⟨ao,u,ap,(by decide :rng64 (-1))⟩

theorem ok_impl_Seg_put {g:Nat}{a:Option Addr}{n:Nat}{c:Nat}{lay:List ELay}{q0:GSeg}{q1:Str}{q2:GTerm}{q3:Int}{r:GSeg}(aJ:SH w K (List.flatMap Item.gs [obj g [V3 A b d,V3 a n c] 41,pack (segItems 114 119 3 a n c lay)]) w K [obj g [V3 A b d,V3 a n c] 41,pack (segItems 114 119 3 a n c lay)])(aK:SliceAt tGDoc K A b d q0.Docs)(U:LayOk lay q0.Entries)(ap:q1.length≤maxLen)(aq:q2.Text.length≤maxLen)(ag:rng64 q2.At)(aL:rng64 q3)(hm:M.impl_Seg_put F q0 q1 q2 q3=some r):
  Calls prog 118 #[.pointer (some ⟨g,0,none⟩),sv q1,.agg #[sv q2.Text,V6 q2.At],V6 q3] w fun e w'=>∃a_1 n_2 c_3 a_4 n_5 c_6 lay_7 K',e= .returned (.tuple #[])∧SH w K (List.flatMap Item.gs [obj g [V3 A b d,V3 a n c] 41,pack (segItems 114 119 3 a n c lay)]) w' K' [obj g [V3 a_1 n_2 c_3,V3 a_4 n_5 c_6] 41,pack (segItems 114 119 3 a_4 n_5 c_6 lay_7)]∧SliceAt tGDoc K' a_1 n_2 c_3 r.Docs∧LayOk lay_7 r.Entries:=by
 rw [M.impl_Seg_put] at hm
 obtain⟨k,aM,h1⟩:=ob hm
 obtain⟨es,B,h2⟩:=ob h1
 obtain⟨en,ar,h3⟩:=ob h2
 obtain⟨ps,C,h4⟩:=ob h3
 obtain⟨p,ah,h5⟩:=ob h4
 obtain⟨at_,V,h6⟩:=ob h5
 cases oi h6
 have aT:SH w K (List.flatMap Item.gs [obj g [V3 A b d,V3 a n c] 41,pack (segItems 114 119 3 a n c lay)]) w K (segTop 114 a n c lay::((lay).flatMap (ELay.items 119 3)++[obj g [V3 A b d,V3 a n c] 41])):=(aJ.perm (List.Perm.swap _ _ _)).unpack
 have aU:SH w K (List.flatMap Item.gs [obj g [V3 A b d,V3 a n c] 41,pack (segItems 114 119 3 a n c lay)]) w K (obj g [V3 A b d,V3 a n c] 41::segTop 114 a n c lay::(lay).flatMap (ELay.items 119 3)):=aT.perm (by rw [←List.cons_append];exact List.perm_append_singleton _ _ |>.symm)
 generalize hMM:(List.flatMap Item.gs [obj g [V3 A b d,V3 a n c] 41,pack (segItems 114 119 3 a n c lay)])=MM at *
 refine ci func118 rfl ntmps118 (sr (bx rfl aU fun i w5 hS3'=>?_))
 have aW:SH w K MM w5 K (obj i [sv q1] 9::obj g [V3 A b d,V3 a n c] 41::segTop 114 a n c lay::(lay).flatMap (ELay.items 119 3)):=hS3'
 refine bx rfl aW fun f w6 hS4'=>?_
 have au:SH w K MM w6 K (obj f [sv q2.Text,V6 q2.At] 136::obj i [sv q1] 9::obj g [V3 A b d,V3 a n c] 41::segTop 114 a n c lay::(lay).flatMap (ELay.items 119 3)):=hS4'
 refine nr (mv rfl (lv (rv_nilCheck rfl) (fl ff41_1 rfl tf39 m2 au rfl (lv (rv_makeFunc (vs:=[pt i,pt f]) rfl) ?_))))
 obtain⟨gs,hgs⟩: ∃gs,gs=(segTop 114 a n c lay::(lay).flatMap (ELay.items 119 3)).flatMap Item.gs:=⟨_,rfl⟩
 have s:SH w K MM w6 K ([obj i [sv q1] 9,obj f [sv q2.Text,V6 q2.At] 136]++(obj g [V3 A b d,V3 a n c] 41::segTop 114 a n c lay::(lay).flatMap (ELay.items 119 3))):=au.perm (List.Perm.swap _ _ _)
 have hnd:=s.nodup
 rw [List.flatMap_append,List.nodup_append,List.flatMap_cons] at hnd
 have hg56:i∉gs∧f∉gs:=by
  rw [hgs]
  exact⟨fun hb=>hnd.2.2 i (by simp [obj,Go.Fk.one]) i (List.mem_append_right _ hb) rfl,fun hb=>hnd.2.2 f (by simp [obj,Go.Fk.one]) f (List.mem_append_right _ hb) rfl⟩
 have hseg:=seg_lent (TE:=114) (TP:=119) (TI:=3) (gs:=gs) s (fun it hi=>List.mem_append_right _ (List.mem_cons_of_mem _ hi)) (fun it hi b hb=>by rw [hgs];exact List.mem_flatMap.2 ⟨it,hi,hb⟩) U
 have hlnd:=s.lend (Kin:=seeK K w6 gs) (see_holds s.holds) (fun it hi=>by
  rcases List.mem_cons.1 hi with rfl | hi
  ·exact obj_see (s.items _ (List.mem_cons_self ..)) hg56.1
  rcases List.mem_singleton.1 hi with rfl
  exact obj_see (s.items _ (List.mem_cons_of_mem _ (List.mem_cons_self ..))) hg56.2)
 refine lk co158 (ok_slices_IndexFunc_Entry__impl_Seg_put_1 F hlnd hseg.1 ap aq ag aM) ?_
 rintro e7 w7 ⟨K7,rfl,hS7',bz⟩
 have aX:SH w K MM w7 K ([obj i [sv q1] 9,obj f [sv q2.Text,V6 q2.At] 136]++(obj g [V3 A b d,V3 a n c] 41::segTop 114 a n c lay::(lay).flatMap (ELay.items 119 3))):=s.lent (see_le s.holds) hS7' rfl (fun it hi=>by
  rcases List.mem_cons.1 hi with rfl | hi
  ·exact obj_on (hS7'.items _ (List.mem_cons_self ..)) ((see_le s.holds).trans hS7'.le)
  rcases List.mem_singleton.1 hi with rfl
  exact obj_on (hS7'.items _ (List.mem_cons_of_mem _ (List.mem_cons_self ..))) ((see_le s.holds).trans hS7'.le))
 have aj:SH w K MM w7 K (obj f [sv q2.Text,V6 q2.At] 136::obj i [sv q1] 9::obj g [V3 A b d,V3 a n c] 41::segTop 114 a n c lay::(lay).flatMap (ELay.items 119 3)):=aX.perm (List.Perm.swap _ _ _)
 refine av rfl (nsr (mv rfl (lv (rv_lss rfl rfl) (nq (wc_cutg (fun E' w'=>∃a2 l m lay2 D,E'=[(0,pt g),(3,V6 q3),(6,pt f),(8,V6 (cond (decide (k<0)) (q0.Entries.length:Int) k))]∧SH w K MM w' D (obj f [sv q2.Text,V6 q2.At] 136::obj i [sv q1] 9::obj g [V3 A b d,V3 a2 l m] 41::segTop 114 a2 l m lay2::(lay2).flatMap (ELay.items 119 3))∧KLe K D∧LayOk lay2 es) ?_ ?_)))))
 ·refine wc_cond rfl (fun hb=>?_) (fun hb=>?_)
  ·rw [hb] at B ⊢
   simp only [cond_true] at B ⊢
   refine sr (mv rfl (lv (rv_nilCheck rfl) (fl ff41_1 rfl tf39 m2 aj rfl (lv (rv_lenRow underlying39 rfl hseg.2) (av rfl (nq ?_))))))
   have G:=aj.drew
   refine wh1 (fun w'=>Holds K w'∧HasObj i [sv q1] w'∧HasObj f [sv q2.Text,V6 q2.At] w') (fun w'=>HasObj g [V3 A b d,V3 a n c] w') 13 [(4,10),(10,13)] mixed ⟨G.hasK kr,G.hasObj m1,G.hasObj m0⟩ (fun _=>G.hasObj (.tail _ (.tail _ (.head _)))) (gt (rv_move rfl) (gt (rv_move rfl) (gt (rv_nilCheck rfl) (gt (rv_fieldAddr ff41_1 rfl) (gf (fun _ h=>rh_loadm1 tf39 rfl rfl h) (gh (fun _ h=>rh_loadm1 tf9 rfl rfl h.2.1) (gt (rv_fieldAddr ff136_0 rfl) (gh (fun _ h=>rh_loadm1 tf9 rfl rfl h.2.2) (gt (rv_build (cs:=#[sv q1,sv q2.Text,V3 none 0 0]) sp114 tf114 rfl (by kernel_rfl)) ?_)))))))))
   refine gn (wl_buildSlice (t:=tRaw 3) (n:=1) (pv:=[(0,.agg #[sv q1,sv q2.Text,V3 none 0 0])]) (cs:=[sv q1,sv q2.Text,V3 none 0 0]) (xs:=[([sv q1,sv q2.Text,V3 none 0 0]:List Value)]) wn rfl underlying39 tf114 rfl rfl rfl (by kernel_rfl) rfl rfl (lit_cons (t:=tRaw 3) (u:=.agg #[sv q1,sv q2.Text,V3 none 0 0]) (z:=([sv q1,sv q2.Text,V3 none 0 0]:List Value)) ⟨rfl,rfl,by simp [Value.oneCell',sv]⟩ lit_nil) G fun a9 w9 K9 W ay hS9'=>?_)
   obtain⟨b9,o9,rfl⟩:=raw_addr ay
   have aZ:=raw_lit ay
   have H:=hS9'.drop
   refine wl_nil (qh ⟨H.hasK W,H.hasObj m1,H.hasObj m0⟩ (fun _=>H.hasObj (.tail _ (.tail _ (.head _)))) ?_)
   unfold catL at B
   split at B
   case isFalse=>cases B
   rename_i hbd
   cases B
   have hnl:n=q0.Entries.length:=hseg.2
   have hS9t:SH w K MM w9 K9 (rowI (V3 a n c) (lay.flatMap ELay.cells) 114 3::(obj f [sv q2.Text,V6 q2.At] 136::obj i [sv q1] 9::obj g [V3 A b d,V3 a n c] 41::(lay).flatMap (ELay.items 119 3))):=H.perm (List.perm_middle (l₁:=[_,_,_])).symm
   refine gn ?_
   have hcl9:(lay.flatMap ELay.cells).length=n*3:=by rw [sg_cells3,←sg_top_len hS9t (List.mem_cons_self ..)]
   refine wl_appendI wn rfl underlying39 tf114 rfl rfl rfl (by decide) rfl aZ (by simp [Value.oneCell',sv]) hcl9 (by simp at hbd;omega) (by simp at hbd;omega) hS9t fun X Y bD I=>(wl_nil (qh ⟨I.hasK W,I.hasObj m2,I.hasObj m1⟩ (fun _=>I.hasObj (.tail _ (.tail _ (.tail _ (.head _))))) (gt (rv_nilCheck rfl) (gt (rv_fieldAddr ff41_1 rfl) (gn (ls [V3 A b d,V3 (some ⟨X,0,none⟩) (n+1) Y] (V3 (some ⟨X,0,none⟩) (n+1) Y) tf39 I.f3 fun ba aa=>(wl_nil (qh ⟨aa.hasK W,aa.hasObj m3,aa.hasObj m2⟩ (fun h=>nomatch h) (gd' ?_)))))))))
   have bb:=SH.rowNil aa 119 2
   have bc:SH w K MM ba K9 (obj f [sv q2.Text,V6 q2.At] 136::obj i [sv q1] 9::obj g [V3 A b d,V3 (some ⟨X,0,none⟩) (n+1) Y] 41::segTop 114 (some ⟨X,0,none⟩) (n+1) Y (lay++[ELay.mk q1 q2.Text [] none 0 0])::((lay++[ELay.mk q1 q2.Text [] none 0 0])).flatMap (ELay.items 119 3)):=by
    have e1:(lay++[ELay.mk q1 q2.Text [] none 0 0]).flatMap ELay.cells=lay.flatMap ELay.cells++[sv q1,sv q2.Text,V3 none 0 0]:=by rw [List.flatMap_append];rfl
    have e2:((lay++[ELay.mk q1 q2.Text [] none 0 0])).flatMap (ELay.items 119 3)=(lay).flatMap (ELay.items 119 3)++[rowI (V3 none 0 0) [] 119 2]:=by rw [List.flatMap_append];rfl
    unfold segTop
    rw [e1,e2]
    exact bb.perm ((show List.Perm ((_::_::_::_::(lay).flatMap (ELay.items 119 3))++[_]) _ from List.perm_append_singleton _ _).trans (.cons _ (List.Perm.append_right ((lay).flatMap (ELay.items 119 3)) (List.perm_append_comm (l₁:=[_,_]) (l₂:=[_,_])))))
   refine qe_mid' ⟨_,_,_,_,K9,rfl,bc,W,fun x hx=>?_,?_⟩ ⟨rfl,rfl,rfl,rfl,trivial⟩
   ·rcases List.mem_append.1 hx with hx | hx
    ·exact U.1 x hx
    rcases List.mem_singleton.1 hx with rfl
    exact⟨ap,aq,by simp⟩
   rw [List.map_append,U.2];rfl
  rw [hb] at B ⊢
  simp only [cond_false] at B ⊢
  cases oi B
  exact wc_skip (qd ⟨a,n,c,lay,K,rfl,aj,.refl _,U⟩)
 rintro _ az ⟨a2,l,m,lay2,D,rfl,am,aA,hlay2⟩
 generalize hkk:(cond (decide (k<0)) (q0.Entries.length:Int) k)=kk at *
 obtain⟨hok2,hes⟩:=hlay2
 obtain⟨el,aB,hel⟩:=sg_getI_map (hes▸ar:getI (lay2.map ELay.x) kk=some en)
 obtain⟨pre,post,hsplit,hpre,bE⟩:=sg_split aB
 have hn2:=sg_top_len am m3
 have hn2e:l=es.length:=by rw [←hes,List.length_map];exact hn2
 obtain⟨gE,rfl⟩:=SH.rowI_at am m3 hn2 aB
 obtain⟨R,hR⟩: ∃R,R=((pre).flatMap (ELay.items 119 3)++(post).flatMap (ELay.items 119 3)):=⟨_,rfl⟩
 have y:SH w K MM az D (obj f [sv q2.Text,V6 q2.At] 136::obj i [sv q1] 9::obj g [V3 A b d,V3 (some ⟨gE,0,none⟩) l m] 41::segTop 114 (some ⟨gE,0,none⟩) l m (pre++el::post)::ELay.row 119 el::(el.posts.map (PLay.item 3)++R)):=by
  rw [hR]
  have J:=am
  rw [hsplit] at J
  exact J.perm ((List.Perm.append_left [_,_,_] (seg_focus (TE:=114) (TP:=119) (TI:=3))).symm)
 have helok:el.ok:=hok2 el (by rw [hsplit];simp)
 have hnP:el.n=el.posts.length:=sg_row_len y m4
 have hhead:=sg_head_at (pre:=pre) (post:=post) (e:=el) (o:=kk.toNat*3+2) (by rw [hpre])
 have hpl:el.posts.length≤maxLen:=rowI_max y m4 hnP
 have henp:en.Posts=el.posts.map PLay.x:=by rw [←hel];rfl
 refine qr (mv rfl (lv (rv_nilCheck rfl) (fl ff41_1 rfl tf39 m2 y rfl (mv rfl (lv (rv_indexI (t:=tGEntry) underlying39 tf114 rfl rfl rfl hn2e ar) (av rfl (nr (mv rfl (lv (rv_nilCheck rfl) ?_)))))))))
 refine fa ff114_2 rfl (lv (rh_loadI1 tf112 rfl rfl hhead rfl (y.hasRow (.tail _ (.tail _ (.tail _ (.head _)))))) (lv (rv_lenRow underlying112 rfl hnP) (lv (rv_sub rfl rfl) (av rfl (ns (wc_seq (wc_cutg (fun E' w'=>E'=[(3,V6 q3),(6,pt f),(9,.pointer (some ⟨gE,kk.toNat*tGEntry.size,none⟩)),(10,V6 (w64 ((el.posts.length:Int)-1))),(62,.bool (needPost en.Posts q3))]∧w'=az) ?_ ?_)))))))
 ·refine wc_region (mv rfl (lv (rv_lss rfl rfl) (mv rfl ?_)))
  rcases List.eq_nil_or_concat el.posts with hnil | ⟨ps0,p0,hcat⟩
  ·have hb:decide (w64 ((el.posts.length:Int)-1)<0)=true:=by rw [sg_pred hpl,hnil];rfl
   have hnp:needPost en.Posts q3=true:=by rw [henp,hnil];rfl
   rw [hnp]
   iterate 10 refine lu hb ?_
   refine lv (p_t rfl hb rfl) (wl_nil ?_)
   exact qd ⟨rfl,rfl⟩
  rw [List.concat_eq_append] at hcat
  have hlp:el.posts.length=ps0.length+1:=by rw [hcat];simp
  have hw:w64 ((el.posts.length:Int)-1)=(ps0.length:Int):=by rw [sg_pred hpl,hlp];omega
  have hb:decide (w64 ((el.posts.length:Int)-1)<0)=false:=by rw [hw];exact decide_eq_false (by omega)
  have hnp:needPost en.Posts q3= !(p0.doc==q3):=by rw [henp,hcat,List.map_append];simp [needPost,PLay.x]
  rw [hnp]
  have hzp:getI en.Posts (w64 ((el.posts.length:Int)-1))=some p0.x:=by rw [henp,hcat,List.map_append];exact sg_last (by rw [←hcat,hw];simp)
  have hnPe:el.n=en.Posts.length:=by rw [henp,List.length_map];exact hnP
  obtain⟨gP,hgP⟩:=SH.rowI_at y m4 hnPe hzp
  have hdoc:(el.posts.flatMap PLay.cells)[(w64 ((el.posts.length:Int)-1)).toNat*2+0]? =some (V6 p0.doc):=by rw [hcat];exact sg_post_at (k:=0) (by rw [←hcat,hw];simp)
  refine lg hb (rv_move rfl) (lg hb (rv_nilCheck rfl) (lg hb (rv_fieldAddr ff114_2 rfl) (lg hb (rh_loadI1 tf112 rfl rfl hhead rfl (y.hasRow (.tail _ (.tail _ (.tail _ (.head _)))))) (lg hb (rv_move rfl) (lg hb (rv_indexI (t:=tGPost) underlying112 tf119 rfl rfl hgP hnPe hzp) (lg hb (rv_fieldAddr ff119_0 rfl) (lg hb (rh_loadI1 tf3 rfl rfl hdoc hgP (y.hasRow (.tail _ (.tail _ (.tail _ (.tail _ (.head _))))))) (lg hb (rv_move rfl) (lg hb (rv_neq rfl rfl) ?_)))))))))
  refine lv (rv_pick_f rfl hb rfl) (wl_nil ?_)
  exact qd ⟨rfl,rfl⟩
 rintro _ _ ⟨rfl,rfl⟩
 refine qe_seq (wc_cutg (fun E' w'=>∃el2 ps0 pl K3,E'=[(6,pt f),(9,.pointer (some ⟨gE,kk.toNat*tGEntry.size,none⟩)),(10,V6 (ps0.length:Int))]∧SH w K MM w' K3 (obj f [sv q2.Text,V6 q2.At] 136::obj i [sv q1] 9::obj g [V3 A b d,V3 (some ⟨gE,0,none⟩) l m] 41::segTop 114 (some ⟨gE,0,none⟩) l m (pre++el2::post)::ELay.row 119 el2::(pl.item 3::(ps0.map (PLay.item 3)++R)))∧KLe K K3∧el2.ok∧el2.field=el.field∧el2.term=el.term∧el2.posts=ps0++[pl]∧ps=el2.posts.map PLay.x) ?_ ?_)
 ·refine wc_cond rfl (fun hb=>?_) (fun hb=>?_)
  ·rw [hb] at C
   simp only [cond_true] at C
   refine sr (mv rfl (mv rfl (lv (rv_nilCheck rfl) (fa ff114_2 rfl (lv (rh_loadI1 tf112 rfl rfl hhead rfl (y.hasRow (.tail _ (.tail _ (.tail _ (.head _)))))) (mv rfl (lv (rv_build (cs:=#[V6 q3,V3 none 0 0]) sp119 tf119 rfl (by kernel_rfl)) (wl_buildSlice (t:=tRaw 2) (n:=1) (pv:=[(0,.agg #[V6 q3,V3 none 0 0])]) (cs:=[V6 q3,V3 none 0 0]) (xs:=[([V6 q3,V3 none 0 0]:List Value)]) wn rfl underlying112 tf119 rfl rfl rfl (by kernel_rfl) rfl rfl (lit_cons (t:=tRaw 2) (u:=.agg #[V6 q3,V3 none 0 0]) (z:=([V6 q3,V3 none 0 0]:List Value)) ⟨rfl,rfl,by simp [Value.oneCell']⟩ lit_nil) y fun bF bG aC bd aD hS22'=>?_))))))))
   obtain⟨bH,bI,rfl⟩:=raw_addr aD
   have be:=raw_lit aD
   have bf:=hS22'.drop
   unfold catL at C
   split at C
   case isFalse=>cases C
   rename_i hbd
   cases C
   have hbd2:(el.n+1)*32≤140737488355328:=by rw [henp] at hbd;simp at hbd;rw [hnP];exact hbd
   refine wl_appendI wn rfl underlying112 tf119 rfl rfl rfl (by decide) rfl be (by simp [Value.oneCell']) (by rw [sg_cells2,hnP]) (by omega) hbd2 bf.f4 fun aE c24 bJ bg=>(lv (rv_nilCheck rfl) (fa ff114_2 rfl (wl_storeC wn tf112 rfl rfl rfl bg.f4 (by have:=(List.getElem?_eq_some_iff.1 hhead).1;exact this) ?_)))
   intro bh bi
   refine nq (wc_region (mv rfl (lv (rv_add rfl rfl) (lv (rv_as rfl (congrArg (Value.int .i64) (sg_back hpl))) (wl_nil ?_)))))
   obtain⟨el2,hel2⟩: ∃el2:ELay,el2=⟨el.field,el.term,el.posts++[⟨q3,[],none,0,0⟩],some ⟨aE,0,none⟩,el.n+1,c24⟩:=⟨_,rfl⟩
   have hset:=sg_head_set (pre:=pre) (post:=post) (e:=el) (e':=el2) (o:=kk.toNat*3+2) (by rw [hpre]) (by rw [hel2]) (by rw [hel2])
   have bj:SH w K MM bh aC (rowI (V3 (some ⟨gE,0,none⟩) l m) ((pre++el2::post).flatMap ELay.cells) 114 3::ELay.row 119 el2::obj f [sv q2.Text,V6 q2.At] 136::obj i [sv q1] 9::obj g [V3 A b d,V3 (some ⟨gE,0,none⟩) l m] 41::(el.posts.map (PLay.item 3)++R)):=by
    have e1:el2.posts.flatMap PLay.cells=el.posts.flatMap PLay.cells++[V6 q3,V3 none 0 0]:=by rw [hel2,List.flatMap_append];rfl
    have e2:el2.a=some ⟨aE,0,none⟩:=by rw [hel2]
    have e3:el2.n=el.n+1:=by rw [hel2]
    have e4:el2.c=c24:=by rw [hel2]
    rw [←hset]
    unfold ELay.row
    rw [e1,e2,e3,e4]
    exact bi
   have bk:=SH.rowNil bj 3 1
   refine qe_mid' ⟨el2,el.posts,⟨q3,[],none,0,0⟩,aC,rfl,bk.perm ?_,aA.trans bd,?_,by rw [hel2],by rw [hel2],by rw [hel2],?_⟩ ⟨rfl,rfl,rfl,trivial⟩
   ·exact(List.Perm.append_left [_,_,_,_,_] (List.Perm.refl _)).trans ((List.perm_middle (l₁:=[_,_,_,_,_])).trans (.cons _ (List.Perm.append_right _ (List.perm_append_comm (l₁:=[_,_,_]) (l₂:=[_,_])))))
   ·rw [hel2]
    refine⟨helok.1,helok.2.1,fun q hq=>?_⟩
    rcases List.mem_append.1 hq with hq | hq
    ·exact helok.2.2 q hq
    rcases List.mem_singleton.1 hq with rfl
    exact⟨aL,by simp⟩
   rw [hel2,henp,List.map_append];rfl
  rw [hb] at C
  simp only [cond_false] at C
  cases oi C
  refine wc_skip ?_
  rcases List.eq_nil_or_concat el.posts with hnil | ⟨ps0,p0,hcat⟩
  ·rw [henp,hnil] at hb;cases hb
  rw [List.concat_eq_append] at hcat
  have hlp:el.posts.length=ps0.length+1:=by rw [hcat];simp
  have hw:w64 ((el.posts.length:Int)-1)=(ps0.length:Int):=by rw [sg_pred hpl,hlp];omega
  rw [hw]
  refine qe_mid' ⟨el,ps0,p0,D,rfl,?_,aA,helok,rfl,rfl,hcat,henp⟩ ⟨rfl,rfl,rfl,trivial⟩
  have J:=y
  rw [hcat] at J
  exact J.perm (List.Perm.append_left [_,_,_,_,_] (post_focus (TI:=3)).symm)
 rintro _ bK ⟨el2,ps0,pl,K3,rfl,ac,bl,hel2ok,hf2,ht2,hcat2,hps⟩
 refine qe_seq ?_
 have hpx:p=pl.x:=by rw [hps,hcat2,List.map_append] at ah;simp at ah;exact ah.symm
 have hn30:el2.n=el2.posts.length:=sg_row_len ac m4
 have bm:getI el2.posts (ps0.length:Int)=some pl:=by rw [hcat2];exact sg_last rfl
 obtain⟨gP,hgP⟩:=SH.rowI_at ac m4 hn30 bm
 have hpn:pl.n=pl.at_.length:=sg_item_len ac m5
 have hhead2:=sg_head_at (pre:=pre) (post:=post) (e:=el2) (o:=kk.toNat*3+2) (by rw [hpre])
 have aF:getI (el2.posts.map PLay.x) (ps0.length:Int)=some pl.x:=by rw [hcat2,List.map_append];exact sg_last (by simp)
 have hn31:el2.n=(el2.posts.map PLay.x).length:=by rw [List.length_map];exact hn30
 have hat:(el2.posts.flatMap PLay.cells)[(ps0.length:Int).toNat*2+1]? =some (V3 pl.a pl.n pl.c):=by rw [hcat2];exact sg_post_at (k:=1) (by simp)
 have O:=ac.drew
 refine wh1 (fun w'=>Holds K3 w'∧HasRow (some ⟨gE,0,none⟩) ((pre++el2::post).flatMap ELay.cells) w'∧HasObj f [sv q2.Text,V6 q2.At] w') (fun w'=>HasRow el2.a (el2.posts.flatMap PLay.cells) w') 19 [(12,16),(16,19)] mixed ⟨O.hasK kr,O.hasRow m3,O.hasObj m0⟩ (fun _=>O.hasRow (.tail _ (.tail _ (.tail _ (.tail _ (.head _)))))) (gt (rv_move rfl) (gt (rv_nilCheck rfl) (gt (rv_fieldAddr ff114_2 rfl) (gh (fun _ h=>rh_loadI1 tf112 rfl rfl hhead2 rfl h.2.1) (gt (rv_move rfl) (gt (rv_move rfl) (gt (rv_nilCheck rfl) (gt (rv_fieldAddr ff114_2 rfl) (gh (fun _ h=>rh_loadI1 tf112 rfl rfl hhead2 rfl h.2.1) ?_)))))))))
 refine gt (rv_move rfl) (gt (rv_indexI (t:=tGPost) underlying112 tf119 rfl rfl hgP hn31 aF) (gt (rv_fieldAddr ff119_1 rfl) (gf (fun _ h=>rh_loadI1 tf117 rfl rfl hat hgP h) (gt (rv_fieldAddr ff136_1 rfl) (gh (fun _ h=>rh_loadm1 tf3 rfl rfl h.2.2) (gn (lb tInt (V6 q2.At) [V6 q2.At] q2.At underlying117 tf3 ⟨rfl,ag⟩ O fun bL bM ad ae aG hS35'=>?_)))))))
 obtain⟨bN,bO,rfl⟩:=sg_addr aG
 have bn:=int_lit aG
 have S:=hS35'.drop
 refine wl_nil (qh ⟨S.hasK ae,S.hasRow m3,S.hasObj m0⟩ (fun _=>S.hasRow (.tail _ (.tail _ (.tail _ (.tail _ (.head _)))))) (gn ?_))
 unfold catL at V
 split at V
 case isFalse=>cases V
 rename_i hbd
 cases V
 have hbd2:(pl.n+1)*8≤140737488355328:=by rw [hpx] at hbd;simp [PLay.x] at hbd;rw [hpn];exact hbd
 refine wl_appendI wn rfl underlying117 tf3 rfl rfl rfl (by decide) rfl bn (by simp [Value.oneCell']) (by rw [List.length_map,hpn,Nat.mul_one]) (by omega) hbd2 S.f5 fun aH c37 bP T=>(wl_nil (qh ⟨T.hasK ae,T.hasRow m4,T.hasObj m1⟩ (fun _=>T.hasRow (.tail _ (.tail _ (.tail _ (.tail _ (.tail _ (.head _))))))) (gt (rv_indexI (t:=tGPost) underlying112 tf119 rfl rfl hgP hn31 aF) (gt (rv_fieldAddr ff119_1 rfl) (gn ?_)))))
 obtain⟨fl2,tm2,po2,a2',m2',c2'⟩:=el2
 simp only at hgP hat hcat2 hf2 ht2 hn30
 subst hgP
 refine wl_storeC wn tf117 rfl rfl rfl T.f5 (by have:=(List.getElem?_eq_some_iff.1 hat).1;exact this) ?_
 intro ao af
 refine wl_nil (qh ⟨af.hasK ae,af.hasRow m5,af.hasObj m2⟩ (fun h=>nomatch h) (gd' ?_))
 subst hR
 subst hcat2
 obtain⟨pl2,hpl2⟩: ∃pl2:PLay,pl2=⟨pl.doc,pl.at_++[q2.At],some ⟨aH,0,none⟩,pl.n+1,c37⟩:=⟨_,rfl⟩
 obtain⟨el3,hel3⟩: ∃el3:ELay,el3=⟨fl2,tm2,ps0++[pl2],some ⟨gP,0,none⟩,m2',c2'⟩:=⟨_,rfl⟩
 have bo:SH w K MM ao ad (ELay.row 119 el3::pl2.item 3::obj f [sv q2.Text,V6 q2.At] 136::obj i [sv q1] 9::obj g [V3 A b d,V3 (some ⟨gE,0,none⟩) l m] 41::segTop 114 (some ⟨gE,0,none⟩) l m (pre++el3::post)::(ps0.map (PLay.item 3)++((pre).flatMap (ELay.items 119 3)++(post).flatMap (ELay.items 119 3)))):=by
  have e1:=sg_post_set (ps:=ps0) (p:=pl) (p':=pl2) (o:=(ps0.length:Int).toNat*2+1) (by simp) (by rw [hpl2])
  have e2:pl2.a=some ⟨aH,0,none⟩:=by rw [hpl2]
  have e3:pl2.n=pl.n+1:=by rw [hpl2]
  have e4:pl2.c=c37:=by rw [hpl2]
  have e5:pl2.at_.map intC=pl.at_.map intC++[V6 q2.At]:=by rw [hpl2,List.map_append];rfl
  have e6:(pre++el3::post).flatMap ELay.cells=(pre++⟨fl2,tm2,ps0++[pl],some ⟨gP,0,none⟩,m2',c2'⟩::post).flatMap ELay.cells:=by rw [hel3,List.flatMap_append,List.flatMap_append,List.flatMap_cons,List.flatMap_cons];rfl
  have e7:ELay.row 119 el3=rowI (V3 (some ⟨gP,0,none⟩) m2' c2') ((ps0++[pl2]).flatMap PLay.cells) 119 2:=by rw [hel3];rfl
  rw [e7,←e1]
  unfold segTop
  rw [e6]
  show SH w K MM ao ad (_::rowI (V3 pl2.a pl2.n pl2.c) (pl2.at_.map intC) 3 1::_)
  rw [e2,e3,e4,e5]
  exact af
 have br:=bo.sublist (.cons_cons _ (.cons_cons _ (.cons _ (.cons _ (List.Sublist.refl _)))))
 have hpo3:el3.posts=ps0++[pl2]:=by rw [hel3]
 have bs:SH w K MM ao ad (segItems 114 119 3 (some ⟨gE,0,none⟩) l m (pre++el3::post)++[obj g [V3 A b d,V3 (some ⟨gE,0,none⟩) l m] 41]):=by
  refine br.perm ((List.perm_append_singleton _ _).trans ((List.Perm.cons _ (seg_focus (TE:=114) (TP:=119) (TI:=3))).trans ?_))
  rw [hpo3]
  exact(List.Perm.append_left [_,_,_] (post_focus (TI:=3))).trans (List.Perm.append_right _ (List.perm_append_comm (l₁:=[_,_]) (l₂:=[_,_])))
 have bu:=bs.packUp.perm (List.Perm.swap _ _ _)
 refine qe_ret_normal (qe_ret (vs:=[]) results118 trivial ⟨A,b,d,some ⟨gE,0,none⟩,l,m,pre++el3::post,ad,rfl,bu,aK.mono (bl.trans ae),?_,?_⟩)
 ·intro x hx
  rw [hsplit] at hok2
  rcases List.mem_append.1 hx with hx | hx
  ·exact hok2 x (List.mem_append_left _ hx)
  rcases List.mem_cons.1 hx with rfl | hx
  ·rw [hel3,hpl2]
   refine⟨hel2ok.1,hel2ok.2.1,fun q hq=>?_⟩
   rcases List.mem_append.1 hq with hq | hq
   ·exact hel2ok.2.2 q (List.mem_append_left _ hq)
   rcases List.mem_singleton.1 hq with rfl
   have h8:=hel2ok.2.2 pl (List.mem_append_right _ (List.mem_singleton.2 rfl))
   refine⟨h8.1,fun z hz=>?_⟩
   rcases List.mem_append.1 hz with hz | hz
   ·exact h8.2 z hz
   rcases List.mem_singleton.1 hz with rfl
   exact ag
  exact hok2 x (List.mem_append_right _ (List.mem_cons_of_mem _ hx))
 show _=es.set kk.toNat _
 rw [←hes,hsplit,List.map_append,List.map_cons,List.map_append,List.map_cons,List.set_append_right _ _ (by rw [List.length_map,hpre];exact Nat.le_refl _),List.length_map,hpre,Nat.sub_self,List.set_cons_zero]
 have e1:el3.x=GEntry.mk en.Field en.Term (ps.dropLast++[GPost.mk p.Doc (p.At++[q2.At])]):=by
  rw [hel3,hps,hpx,hpl2,←hel]
  simp [ELay.x,PLay.x,hf2,ht2]
 rw [e1]

theorem ok_slices_Equal_int {q0:List Int}{q1:List Int}{r:Bool}(hS:SH w K [] w K [])(i:SliceAt tInt K A a b q0)(s:SliceAt tInt K B c d q1)(hm:M.slices_Equal_int F q0 q1=some r):
  Calls prog 163 #[V3 A a b,V3 B c d] w (R_b w K r):=by
 rw [M.slices_Equal_int] at hm
 refine ci func163 u ntmps163 (sr (lv (r_f u) (nsr (mv u (lv (rv_len underlying117 u i) (mv u (lv (rv_len underlying117 u s) (lv (rv_neq u u) (nq ?_)))))))))
 refine wc_cond u (fun l=>?_) (fun l=>?_)
 ·have m:=cond_t l hm
  refine sr (lv (r_f u) (nq (rr ?_)))
  cases oi m
  exact ey results163 ⟨K,u,hS⟩
 have m:=cond_f l hm
 refine wc_skip (qs (sr (mv u (lv (rv_len underlying117 u i) (lv (r_m u) (nq ?_))))))
 obtain⟨I,J,k⟩:=ob m
 refine wc_cutg (IE I w K [] K [] []) ?_ ?_
 ·refine wc_block ?_
  obtain⟨aq,O,x⟩:=ob J
  refine qf (fun (y:Nat) (C:Unit)=>IV w K [] K [(0,V3 A a b),(1,V3 B c d),(12,V6 (q0.length:Int)),(13,V6 ((y:Nat):Int))] []) O ⟨K,u,hS,kr⟩ ?_ ?_
  ·rintro y C _ R ar hi29 S T ⟨D,rfl,o,f⟩
   refine sr (lv (rv_lss u u) (ns (wc_cond_t u (decide_eq_true (by omega)) (wc_skip (qe_seq (wc_seq (wc_block (sr (mv u (av u (ns (wc_quiet mixed (by kernel_rfl) o ?_))))))))))))
   refine km u (km u ?_)
   obtain⟨U,V,W⟩:=ob S
   refine ki underlying117 tf3 (i.mono f) V fun X Y au aa ab=>?_
   obtain⟨rfl,aw⟩:=aa
   have ac:AtK _ X Y [V6 U]:=ab
   refine kh (rq_load1 tf3 u (ac 0 _ u)) (km u (km u ?_))
   obtain⟨ad,ae,af⟩:=ob W
   refine ki underlying117 tf3 (s.mono f) ae fun ag ah ax ai aj=>?_
   obtain⟨rfl,ay⟩:=ai
   have ak:AtK _ ag ah [V6 ad]:=aj
   refine kh (rq_load1 tf3 u (ak 0 _ u)) (kv (rv_neq u u) (wq_nil ?_))
   rintro az ⟨G,H,al⟩
   refine qe_seq (wcc af u (fun am q=>?_) (fun am q=>?_))
   ·refine sr (lv (r_f u) (nq (wc_ret (qe_block_ret (qe_then_ret (qe_then_ret ?_))))))
    cases oi q
    cases T _ u
    refine qe_block_ret (qe_then_ret ?_)
    cases oi x
    refine qe_then_ret ?_
    cases oi k
    exact ey results163 ⟨G,u,H⟩
   refine wc_skip (qe_block (qg (lv (rv_add_to u u (w64_succ hi29 (SliceAt.max i))) (mv u (wl_nil ?_)))))
   cases oi q
   exact qd ⟨_,u,G,u,H,(f.trans al)⟩
  rintro C _ R an ⟨D,rfl,o,f⟩
  subst an
  refine sr (lv (rv_lss u u) (ns (wc_cond_f u (decide_eq_false (by omega)) (wc_exit (qe_then_exit (qe_then_exit (qe_block_eq ?_)))))))
  cases oi x
  exact qe_mid' ⟨_,D,u,u,o,f⟩ trivial
 rintro _ aA ⟨aB,ao,rfl,rfl,ap,aC⟩
 have k:=elim_l k
 refine qr (lv (r_t u) (nq (wc_ret ?_)))
 cases oi k
 exact ey results163 ⟨ao,u,ap⟩

theorem ok_impl_samePost {q0:GPost}{q1:GPost}{r:Bool}(hS:SH w K [] w K [])(J:rng64 q0.Doc)(l:SliceAt tInt K A a b q0.At)(O:rng64 q1.Doc)(m:SliceAt tInt K B c d q1.At)(hm:M.impl_samePost F q0 q1=some r):
  Calls prog 124 #[.agg #[V6 q0.Doc,V3 A a b],.agg #[V6 q1.Doc,V3 B c d]] w (R_b w K r):=by
 rw [M.impl_samePost] at hm
 refine ci func124 u ntmps124 (sr (bx u hS fun o R q=>?_))
 have s:SH _ _ _ _ _ [obj o [V6 q0.Doc,V3 A a b] 119]:=q
 refine bx u s fun x S y=>?_
 have i:SH _ _ _ _ _ [obj x [V6 q1.Doc,V3 B c d] 119,_]:=y
 refine lv (r_f u) (nr (fl ff119_0 u tf3 m1 i u (fl ff119_0 u tf3 m0 i u (lv (rv_eql u u) (mv u (bt hm (fun f k=>?_) (fun f k=>?_)))))))
 ·refine lg f (rv_fieldAddr ff119_1 u) (lg f (rv_loadm1 tf117 u m1 i u) (lg f (rv_fieldAddr ff119_1 u) (lg f (rv_loadm1 tf117 u m0 i u) ?_)))
  obtain⟨T,C,D⟩:=ob k
  refine wl_call (wg u u f) u (rt_call (vs:=[V3 A a b,V3 B c d]) co163 u) (ok_slices_Equal_int F i.enter0 l m C) ?_
  rintro U V ⟨G,rfl,H⟩
  refine⟨_,u,?_⟩
  have I:=(i.c0 H).t2
  refine lv (rv_pick_t u f u) (av u (nq (wc_ret ?_)))
  cases oi D
  exact ey results124 ⟨G,u,I.s⟩
 iterate 5 refine lu f ?_
 refine lv (p_f u f u) (av u (nq (wc_ret ?_)))
 cases oi k
 exact ey results124 ⟨K,u,i.s⟩

theorem ok_slices_EqualFunc_Post__impl_samePost {q0:List GPost}{q1:List GPost}{r:Bool}(hS:SH w K [] w K [])(i:SliceAt tGPost K A a b q0)(O:SliceAt tGPost K B c d q1)(hm:M.slices_EqualFunc_Post__impl_samePost F q0 q1=some r):
  Calls prog 123 #[V3 A a b,V3 B c d,.func (.func 124) #[] #[]] w (R_b w K r):=by
 rw [M.slices_EqualFunc_Post__impl_samePost] at hm
 refine ci func123 u ntmps123 (sr (lv (r_f u) (nsr (mv u (lv (rv_len underlying112 u i) (mv u (lv (rv_len underlying112 u O) (lv (rv_neq u u) (nq ?_)))))))))
 refine wc_cond u (fun H=>?_) (fun H=>?_)
 ·have I:=cond_t H hm
  refine sr (lv (r_f u) (nq (rr ?_)))
  cases oi I
  exact ey results123 ⟨K,u,hS⟩
 have I:=cond_f H hm
 refine wc_skip (qs (sr (mv u (lv (rv_len underlying112 u i) (lv (r_m u) (nq ?_))))))
 obtain⟨aa,ab,k⟩:=ob I
 refine wc_cutg (IE aa w K [] K [] []) ?_ ?_
 ·refine wc_block ?_
  obtain⟨aO,ac,R⟩:=ob ab
  refine qf (fun (S:Nat) (T:Unit)=>IV w K [] K [(1,V3 B c d),(2,.func (.func 124) #[] #[]),(15,V3 A a b),(16,V6 (q0.length:Int)),(17,V6 ((S:Nat):Int))] []) ac ⟨K,u,hS,kr⟩ ?_ ?_
  ·rintro S T _ ad aP hi29 ae af ⟨U,rfl,l,f⟩
   refine sr (lv (rv_lss u u) (ns (wc_cond_t u (decide_eq_true (by omega)) (wc_skip (qe_seq (wc_seq (wc_block (sr (mv u ?_)))))))))
   obtain⟨m,ag,ah⟩:=ob ae
   refine li underlying112 tf119 (i.mono f) ag fun ai aj aQ ak am=>?_
   obtain⟨o,q,s,rfl,an,ao⟩:=ak
   have ap:AtK _ ai aj [V6 m.Doc,V3 o q s]:=am
   refine lv (rv_loadS tf119 u l ap u) (al tf119 l fun aq aR ar=>?_)
   have au:SH _ _ _ _ _ [obj aq [V6 0,V3 none 0 0] 119]:=ar
   refine av u (lw [V6 m.Doc,V3 o q s] tf119 au fun aS V=>(nr (mv u (mv u ?_))))
   obtain⟨x,aw,ax⟩:=ob ah
   refine li underlying112 tf119 (O.mono f) aw fun ay az aT aA aB=>?_
   obtain⟨y,C,D,rfl,aC,aD⟩:=aA
   have aE:AtK _ ay az [V6 x.Doc,V3 y C D]:=aB
   refine lv (rv_loadS tf119 u V aE u) (al tf119 V fun aF aU aG=>?_)
   have aH:SH _ _ _ _ _ [obj aF [V6 0,V3 none 0 0] 119,_]:=aG
   refine lw [V6 x.Doc,V3 y C D] tf119 aH fun aV G=>(nr (mv u (lv (rv_loadmS (ds:=[V6 m.Doc,V3 o q s]) tf119 u m1 G u u) (lv (rv_loadmS (ds:=[V6 x.Doc,V3 y C D]) tf119 u m0 G u u) ?_))))
   obtain⟨aW,aI,aJ⟩:=ob ax
   refine wl_call wn u (rt_callv (vs:=[.agg #[V6 m.Doc,V3 o q s],.agg #[V6 x.Doc,V3 y C D]]) (cap:=#[]) co124 u u) (ok_impl_samePost F G.enter0 an ao aC aD aI) ?_
   rintro aX aY ⟨W,rfl,X⟩
   refine⟨_,u,?_⟩
   have Y:=(G.c0 X).t2
   refine lv (rv_not u) (nq (wcc aJ u (fun aK J=>?_) (fun aK J=>?_)))
   ·refine sr (lv (r_f u) (nq (wc_ret (qe_block_ret (qe_then_ret (qe_then_ret ?_))))))
    cases oi J
    cases af _ u
    refine qe_block_ret (qe_then_ret ?_)
    cases oi R
    refine qe_then_ret ?_
    cases oi k
    exact ey results123 ⟨W,u,Y.s⟩
   refine wc_skip (qe_block (qg (lv (rv_add_to u u (w64_succ hi29 (SliceAt.max i))) (mv u (wl_nil ?_)))))
   cases oi J
   exact qd ⟨_,u,W,u,Y.s,(f.trans X.le)⟩
  rintro T _ ad aL ⟨U,rfl,l,f⟩
  subst aL
  refine sr (lv (rv_lss u u) (ns (wc_cond_f u (decide_eq_false (by omega)) (wc_exit (qe_then_exit (qe_then_exit (qe_block_eq ?_)))))))
  cases oi R
  exact qe_mid' ⟨_,U,u,u,l,f⟩ trivial
 rintro _ aZ ⟨ba,aM,rfl,rfl,aN,bb⟩
 have k:=elim_l k
 refine qr (lv (r_t u) (nq (wc_ret ?_)))
 cases oi k
 exact ey results123 ⟨aM,u,aN⟩

theorem ok_impl_sameEntry {q0:GEntry}{q1:GEntry}{r:Bool}(hS:SH w K [] w K [])(R:q0.Field.length≤maxLen)(S:q0.Term.length≤maxLen)(o:SliceAt tGPost K A a b q0.Posts)(T:q1.Field.length≤maxLen)(U:q1.Term.length≤maxLen)(q:SliceAt tGPost K B c d q1.Posts)(hm:M.impl_sameEntry F q0 q1=some r):
  Calls prog 75 #[.agg #[sv q0.Field,sv q0.Term,V3 A a b],.agg #[sv q1.Field,sv q1.Term,V3 B c d]] w (R_b w K r):=by
 rw [M.impl_sameEntry] at hm
 refine ci func75 u ntmps75 (sr (bx u hS fun s V x=>?_))
 have y:SH _ _ _ _ _ [obj s [sv q0.Field,sv q0.Term,V3 A a b] 114]:=x
 refine bx u y fun C W D=>?_
 have f:SH _ _ _ _ _ [obj C [sv q1.Field,sv q1.Term,V3 B c d] 114,_]:=D
 refine lv (r_f u) (nr (fl ff114_0 u tf9 m1 f u (fl ff114_0 u tf9 m0 f u (lv (rv_seql u u) (mv u (bt hm (fun i l=>?_) (fun i l=>?_)))))))
 ·refine lg i (rv_fieldAddr ff114_1 u) (lg i (rv_loadm1 tf9 u m1 f u) (lg i (rv_fieldAddr ff114_1 u) (lg i (rv_loadm1 tf9 u m0 f u) (lg i (rv_seql u u) (lv (rv_pick_t u i u) (mv u (bt l (fun k m=>?_) (fun k m=>?_))))))))
  ·refine lg k (rv_fieldAddr ff114_2 u) (lg k (rv_loadm1 tf112 u m1 f u) (lg k (rv_fieldAddr ff114_2 u) (lg k (rv_loadm1 tf112 u m0 f u) ?_)))
   obtain⟨X,G,H⟩:=ob m
   refine wl_call (wg u u k) u (rt_call (vs:=[V3 A a b,V3 B c d,.func (.func 124) #[] #[]]) co123 u) (ok_slices_EqualFunc_Post__impl_samePost F f.enter0 o q G) ?_
   rintro Y aa ⟨I,rfl,J⟩
   refine⟨_,u,?_⟩
   have O:=(f.c0 J).t2
   refine lv (rv_pick_t u k u) (av u (nq (wc_ret ?_)))
   cases oi H
   exact ey results75 ⟨I,u,O.s⟩
  iterate 5 refine lu k ?_
  refine lv (p_f u k u) (av u (nq (wc_ret ?_)))
  cases oi m
  exact ey results75 ⟨K,u,f.s⟩
 iterate 5 refine lu i ?_
 refine lv (p_f u i u) (mv u ?_)
 iterate 5 refine lu u ?_
 refine lv (p_f u u u) (av u (nq (wc_ret ?_)))
 cases oi l
 exact ey results75 ⟨K,u,f.s⟩

theorem ok_slices_EqualFunc_Entry__impl_sameEntry {q0:List GEntry}{q1:List GEntry}{r:Bool}(hS:SH w K [] w K [])(l:SliceAt tGEntry K A a b q0)(O:SliceAt tGEntry K B c d q1)(hm:M.slices_EqualFunc_Entry__impl_sameEntry F q0 q1=some r):
  Calls prog 73 #[V3 A a b,V3 B c d,.func (.func 75) #[] #[]] w (R_b w K r):=by
 rw [M.slices_EqualFunc_Entry__impl_sameEntry] at hm
 refine ci func73 u ntmps73 (sr (lv (r_f u) (nsr (mv u (lv (rv_len underlying39 u l) (mv u (lv (rv_len underlying39 u O) (lv (rv_neq u u) (nq ?_)))))))))
 refine wc_cond u (fun H=>?_) (fun H=>?_)
 ·have I:=cond_t H hm
  refine sr (lv (r_f u) (nq (rr ?_)))
  cases oi I
  exact ey results73 ⟨K,u,hS⟩
 have I:=cond_f H hm
 refine wc_skip (qs (sr (mv u (lv (rv_len underlying39 u l) (lv (r_m u) (nq ?_))))))
 obtain⟨aa,ab,m⟩:=ob I
 refine wc_cutg (IE aa w K [] K [] []) ?_ ?_
 ·refine wc_block ?_
  obtain⟨aQ,ac,R⟩:=ob ab
  refine qf (fun (S:Nat) (T:Unit)=>IV w K [] K [(1,V3 B c d),(2,.func (.func 75) #[] #[]),(15,V3 A a b),(16,V6 (q0.length:Int)),(17,V6 ((S:Nat):Int))] []) ac ⟨K,u,hS,kr⟩ ?_ ?_
  ·rintro S T _ ad aR hi29 ae af ⟨U,rfl,o,k⟩
   refine sr (lv (rv_lss u u) (ns (wc_cond_t u (decide_eq_true (by omega)) (wc_skip (qe_seq (wc_seq (wc_block (sr (mv u ?_)))))))))
   obtain⟨f,ag,ah⟩:=ob ae
   refine li underlying39 tf114 (l.mono k) ag fun ai aj aS ak am=>?_
   obtain⟨q,s,x,rfl,an,ao,ap⟩:=ak
   have aq:AtK _ ai aj [sv f.Field,sv f.Term,V3 q s x]:=am
   refine lv (rv_loadS tf114 u o aq u) (al tf114 o fun ar aT au=>?_)
   have aw:SH _ _ _ _ _ [obj ar [sv [],sv [],V3 none 0 0] 114]:=au
   refine av u (lw [sv f.Field,sv f.Term,V3 q s x] tf114 aw fun aU V=>(nr (mv u (mv u ?_))))
   obtain⟨i,ax,ay⟩:=ob ah
   refine li underlying39 tf114 (O.mono k) ax fun az aA aV aB aC=>?_
   obtain⟨y,C,D,rfl,aD,aE,aF⟩:=aB
   have aG:AtK _ az aA [sv i.Field,sv i.Term,V3 y C D]:=aC
   refine lv (rv_loadS tf114 u V aG u) (al tf114 V fun aH aW aI=>?_)
   have aJ:SH _ _ _ _ _ [obj aH [sv [],sv [],V3 none 0 0] 114,_]:=aI
   refine lw [sv i.Field,sv i.Term,V3 y C D] tf114 aJ fun aX G=>(nr (mv u (lv (rv_loadmS (ds:=[sv f.Field,sv f.Term,V3 q s x]) tf114 u m1 G u u) (lv (rv_loadmS (ds:=[sv i.Field,sv i.Term,V3 y C D]) tf114 u m0 G u u) ?_))))
   obtain⟨aY,aK,aL⟩:=ob ay
   refine wl_call wn u (rt_callv (vs:=[.agg #[sv f.Field,sv f.Term,V3 q s x],.agg #[sv i.Field,sv i.Term,V3 y C D]]) (cap:=#[]) co75 u u) (ok_impl_sameEntry F G.enter0 an ao ap aD aE aF aK) ?_
   rintro aZ ba ⟨W,rfl,X⟩
   refine⟨_,u,?_⟩
   have Y:=(G.c0 X).t2
   refine lv (rv_not u) (nq (wcc aL u (fun aM J=>?_) (fun aM J=>?_)))
   ·refine sr (lv (r_f u) (nq (wc_ret (qe_block_ret (qe_then_ret (qe_then_ret ?_))))))
    cases oi J
    cases af _ u
    refine qe_block_ret (qe_then_ret ?_)
    cases oi R
    refine qe_then_ret ?_
    cases oi m
    exact ey results73 ⟨W,u,Y.s⟩
   refine wc_skip (qe_block (qg (lv (rv_add_to u u (w64_succ hi29 (SliceAt.max l))) (mv u (wl_nil ?_)))))
   cases oi J
   exact qd ⟨_,u,W,u,Y.s,(k.trans X.le)⟩
  rintro T _ ad aN ⟨U,rfl,o,k⟩
  subst aN
  refine sr (lv (rv_lss u u) (ns (wc_cond_f u (decide_eq_false (by omega)) (wc_exit (qe_then_exit (qe_then_exit (qe_block_eq ?_)))))))
  cases oi R
  exact qe_mid' ⟨_,U,u,u,o,k⟩ trivial
 rintro _ bb ⟨bc,aO,rfl,rfl,aP,bd⟩
 have m:=elim_l m
 refine qr (lv (r_t u) (nq (wc_ret ?_)))
 cases oi m
 exact ey results73 ⟨aO,u,aP⟩

theorem ok_laws_markHitS {B:List Nat}{KM:KMap}{q0:List GHit}{q1:Int}{r:Int}(hS:SH w K Z w K [mkI B KM])(d:SliceAt tGHit (KM.only B) A a b q0)(s:rng64 q1)(hm:M.laws_markHitS F q0 q1=some r):
  Calls prog 25 #[V3 A a b,V6 q1] w fun e w'=>∃K',e= .returned (V6 r)∧SH w K Z w' K' [mkI B KM]∧rng64 r:=by
 rw [M.laws_markHitS] at hm
 refine ci func25 u ntmps25 (sr (lv (r_0 u) (nsr (lv (r_0 u) (nq ?_)))))
 obtain⟨i,x,y⟩:=ob hm
 refine wc_cutg (IW w K Z K [(1,V6 i)] [mkI B KM] (rng64 i)) ?_ ?_
 ·refine wc_block ?_
  obtain⟨ak,C,D⟩:=ob x
  refine qw (fun (c:Int×Int)=>IW w K Z K [(0,V3 A a b),(1,V6 c.1),(5,V6 c.2)] [mkI B KM] (rng64 c.1∧rng64 c.2)) C ⟨K,u,hS,kr,s,d_0⟩ ?_
  rintro c _ al am G H ⟨k,rfl,l,m,I,an⟩
  refine wc_seq (sr (mv u (mv u (lv (rv_len underlying51 u d) (lv (rv_lss u u) (nq (wcc G u (fun J f=>?_) (fun J f=>?_))))))))
  ·refine wc_skip (qs (wc_block (sr (mv u (mv u (mv u ?_))))))
   obtain⟨o,O,R⟩:=ob f
   refine li underlying51 tf92 d O fun S T ao U V=>?_
   obtain⟨rfl,ap,aq⟩:=U
   have W:AtK _ S T [V6 o.Doc,V6 o.Points]:=V
   refine fa ff92_0 u (mk_store (v:=V6 c.1) wn tf3 u u u l (W 0 _ u) u fun ar X=>(nr (mv u (lv (rv_add u u) (av u (nr (mv u (mv u (mv u ?_)))))))))
   obtain⟨q,Y,aa⟩:=ob R
   refine li underlying51 tf92 d Y fun ab ac au ad ae=>?_
   obtain⟨rfl,aw,ax⟩:=ad
   have af:AtK _ ab ac [V6 q.Doc,V6 q.Points]:=ae
   refine fa ff92_1 u (mk_store (v:=V6 (w64 (c.1+(1:Int)))) wn tf3 u u u X (af 1 _ u) u fun ay ag=>(nq (wc_region (mv u (lv (rv_add u u) (av u (nb (qe_seq (wc_region ?_)))))))))
   refine mv u (lv (rv_add u u) (av u (wl_nil ?_)))
   cases oi aa
   exact qd ⟨_,u,k,u,ag,m,(w64_rng _),(w64_rng _)⟩
  refine wc_exit (qe_then_exit (qe_then_exit ?_))
  cases oi f
  cases H _ u
  refine qe_block_eq ?_
  cases oi D
  exact qd ⟨k,u,l,m,I⟩
 rintro _ az ⟨K9,rfl,ai,aA,aj⟩
 refine qr (mv u (av u (nq (wc_ret ?_))))
 cases oi y
 exact ey results25 ⟨K9,u,ai,aj⟩

theorem xm_laws_markHitS (F:Nat){w:World}{K:KMap}{g0 n2 c3:Nat}{cs0:List Value}{p0_a:List GHit}{p1_k r:Int}(hS:SH w K (List.flatMap Item.gs [obj g0 cs0 92]) w K [obj g0 cs0 92])(hs4:RowN tGHit K cs0 p0_a)(hn0:n2=p0_a.length)(hx0:n2≤maxLen)(hr5:rng64 p1_k)(hm:M.laws_markHitS F p0_a p1_k=some r):
  Calls Tryz.prog 25 #[.slice (some ⟨g0,0,none⟩) n2 c3,.int .i64 p1_k] w fun e w'=>∃(cs':List Value) (K':KMap),e= .returned (.int .i64 r)∧SH w K (List.flatMap Item.gs [obj g0 cs0 92]) w' K' [obj g0 cs' 92]∧RowN tGHit K' cs' (marksGHit F p0_a.length p1_k)∧cs'.length=cs0.length∧rng64 r:=by
 have hml:(marksGHit F p0_a.length p1_k).length=p0_a.length:=by unfold marksGHit;rw [List.length_map,List.length_range]
 rw [M.laws_markHitS] at hm
 refine calls_in Tryz.func25 rfl Tryz.ntmps25 rfl ?_
 refine sr ?_
 refine wl_val wn rfl (rv_assign (v:=.int .i64 0) rfl) ?_
 refine nsr ?_
 refine wl_val wn rfl (rv_assign (v:=.int .i64 0) rfl) ?_
 refine nq ?_
 obtain⟨o6,h7,h8⟩:=ob hm
 refine wc_cutg (fun E' w'=>∃(K9:KMap) (cs9:List Value),E'=[(1,.int .i64 o6)]∧SH w K (List.flatMap Item.gs [obj g0 cs0 92]) w' K9 [obj g0 cs9 92]∧KLe K K9∧rng64 o6∧RowN tGHit K9 cs9 (marksGHit F p0_a.length p1_k)∧cs9.length=cs0.length) ?_ ?_
 ·refine wc_block ?_
  obtain⟨r15,h16,h17⟩:=ob h7
  refine wc_while' (fun (s14:Int×Int) E' w'=>∃(K18:KMap) (cs18:List Value) (i18:Nat),E'=[(0,.slice (some ⟨g0,0,none⟩) n2 c3),(1,.int .i64 s14.1),(5,.int .i64 s14.2)]∧SH w K (List.flatMap Item.gs [obj g0 cs0 92]) w' K18 [obj g0 cs18 92]∧KLe K K18∧rng64 s14.1∧rng64 s14.2∧s14.2=(i18:Int)∧i18≤p0_a.length∧s14.1=kapGHit p1_k i18∧RowN tGHit K18 cs18 ((marksGHit F p0_a.length p1_k).take i18++p0_a.drop i18)∧cs18.length=cs0.length) h16 ⟨K,cs0,0,rfl,hS,(KLe.refl _),hr5,d_0,rfl,Nat.zero_le _,rfl,hs4,rfl⟩ ⟨rfl,rfl,rfl,trivial⟩ ?_
  rintro s14 _ w20 r24 h25 hx26 ⟨K18,cs18,i18,rfl,hS21,hl19,hr22,hr23,hj0,hi0,hk0,hrow0,hcl0⟩
  refine wc_seq ?_
  refine sr ?_
  refine vm rfl rfl ?_
  refine vm rfl rfl ?_
  refine wl_val wn rfl (rv_lenRow Tryz.underlying51 rfl hn0) ?_
  refine wl_val wn rfl (rv_lss rfl rfl) ?_
  refine nq ?_
  refine wc_cond rfl (fun hb27=>?_) (fun hb27=>?_)
  ·have h28:=cond_t hb27 h25
   refine wc_skip ?_
   refine qs ?_
   refine wc_block ?_
   refine sr ?_
   refine vm rfl rfl ?_
   refine vm rfl rfl ?_
   refine vm rfl rfl ?_
   obtain⟨x29,hx30,h31⟩:=ob h28
   refine wl_val wn rfl (rv_indexRow (t:=tGHit) (xs:=p0_a) Tryz.underlying51 tf92 rfl rfl hn0 hx30) ?_
   refine wl_val wn rfl (rv_fieldAddr ff92_0 rfl) ?_
   refine wl_storeN (t:=tGHit) (i:=s14.2) (off:=0) (e':=(⟨s14.1,(fun y:GHit=>let ⟨_,b⟩:=y;b) x29⟩:GHit)) wn tf3 (by exact rfl) rfl rfl hS21 hrow0 (mid_get hj0 hml hx30) (by decide) (fun u hu=>by obtain⟨rfl,h1,h2⟩:=hu;exact⟨_,⟨rfl,hr22,h2⟩,rfl⟩) ?_
   intro csm1 w40 hrowm1 hclm1 hS41
   refine nr ?_
   refine vm rfl rfl ?_
   refine wl_val wn rfl (rv_add rfl rfl) ?_
   refine va rfl rfl ?_
   refine nr ?_
   refine vm rfl rfl ?_
   refine vm rfl rfl ?_
   refine vm rfl rfl ?_
   obtain⟨x42,hx43,h44⟩:=ob h31
   refine wl_val wn rfl (rv_indexRow (t:=tGHit) (xs:=p0_a) Tryz.underlying51 tf92 rfl rfl hn0 hx43) ?_
   refine wl_val wn rfl (rv_fieldAddr ff92_1 rfl) ?_
   refine wl_storeN (t:=tGHit) (i:=s14.2) (off:=1) (e':=⟨s14.1,w64 (s14.1+(1:Int))⟩) wn tf3 (by exact rfl) rfl rfl hS41 hrowm1 (set_get (mid_get hj0 hml hx43)) (by decide) (fun u hu=>by obtain⟨rfl,h1,h2⟩:=hu;exact⟨_,⟨rfl,h1,w64_rng _⟩,rfl⟩) ?_
   intro csm2 w53 hrowm2 hclm2 hS54
   refine nq ?_
   refine wc_region ?_
   refine vm rfl rfl ?_
   refine wl_val wn rfl (rv_add rfl rfl) ?_
   refine va rfl rfl ?_
   refine nb ?_
   refine qe_seq ?_
   refine wc_region ?_
   refine vm rfl rfl ?_
   refine wl_val wn rfl (rv_add rfl rfl) ?_
   refine va rfl rfl ?_
   refine wl_nil ?_
   obtain rfl:=oi h44
   obtain⟨gj0,gj1,gj2⟩:=getI_some hx43
   have hlt0:i18<p0_a.length:=by omega
   have hz0:(marksGHit F p0_a.length p1_k)[i18]? =some ⟨s14.1,w64 (s14.1+(1:Int))⟩:=by unfold marksGHit;rw [List.getElem?_map,List.getElem?_range hlt0,hk0];rfl
   rw [mid_set2 hj0 hml hx43 hz0] at hrowm2
   have hmx0:p0_a.length≤maxLen:=hn0▸hx0
   exact qe_mid' ⟨_,rfl,K18,csm2,i18+1,rfl,hS54,hl19,(w64_rng _),(w64_rng _),(by rw [hj0];exact w64_next (Nat.lt_of_lt_of_le hlt0 hmx0)),hlt0,(by rw [hk0];rfl),hrowm2,hclm2.trans (hclm1.trans hcl0)⟩ ⟨rfl,rfl,rfl,trivial⟩
  ·have h28:=cond_f hb27 h25
   refine wc_exit ?_
   refine qe_then_exit ?_
   refine qe_then_exit ?_
   obtain rfl:=oi h28
   have e55:=hx26 _ rfl
   subst e55
   refine qe_block_eq ?_
   obtain rfl:=oi h17
   have hge0:p0_a.length≤i18:=by have:=of_decide_eq_false hb27;omega
   rw [mid_end hml hge0] at hrow0
   exact qe_mid' ⟨K18,cs18,rfl,hS21,hl19,hr22,hrow0,hcl0⟩ ⟨rfl,trivial⟩
 ·rintro _ w11 ⟨K9,cs9,rfl,hS12,hl10,hr13,hrowF,hclF⟩
  refine qr ?_
  refine vm rfl rfl ?_
  refine va rfl rfl ?_
  refine nq ?_
  refine wc_ret ?_
  obtain rfl:=oi h8
  exact qe_ret (vs:=[_]) Tryz.results25 ⟨rfl,trivial⟩ ⟨cs9,K9,rfl,hS12,hrowF,hclF,hr13⟩

theorem xc_laws_markHitS (F:Nat){w0 w:World}{K0 K:KMap}{L:List Fk.Item}{a:Option Addr}{n c:Nat}{xs:List GHit}{k r:Int}(h0:Holds K0 w0)(hS:SH w0 K0 [] w K (tail (.slice a n c) 92 tGHit.size::L))(hs:SliceAt tGHit K a n c xs)(hk:rng64 k)(hm:M.laws_markHitS F xs k=some r):
  Calls Tryz.prog 25 #[.slice a n c,.int .i64 k] w fun e w'=>∃K',e= .returned (.int .i64 r)∧SH w0 K0 [] w' K' (tail (.slice a n c) 92 tGHit.size::L)∧SliceAt tGHit K' a n c (marksGHit F xs.length k)∧KLe (K.but (tail (.slice a n c) 92 tGHit.size).gs) K'∧rng64 r:=by
 refine xmark_call (t:=tGHit) (fun h=>h) h0 hS hs (by unfold marksGHit;rw [List.length_map,List.length_range]) (fun g cs K1 h1 h2=>xm_laws_markHitS F h1 h2 hs.1 (Nat.le_trans hs.2.1 hs.2.2.1) hk hm) fun hn K1 h1=>?_
 have hx:xs=[]:=List.length_eq_zero_iff.1 (hs.1.symm.trans hn)
 subst hx
 exact(ok_laws_markHitS F h1 (SliceAt.nil _ _) hk hm).mono fun e w' ⟨K2,he,h2,hr⟩=>⟨K2,he,h2,hr⟩
end Go.Proofs.YtfiahfncijjliaaGreatDoor
