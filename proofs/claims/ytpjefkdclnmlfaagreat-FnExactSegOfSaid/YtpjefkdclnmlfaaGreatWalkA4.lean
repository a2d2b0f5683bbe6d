/-
 Walks of the functions. Printed by gen.py.
-/
import Derived.Test.YtpjefkdclnmlfaaGreatWalkA3
set_option linter.unusedVariables false
set_option linter.unusedSectionVars false
set_option maxRecDepth 100000
namespace Go.Proofs.YtpjefkdclnmlfaaGreat
set_option maxHeartbeats 4000000
open Go Go.Fk Go.RowKit Tryz
variable (F:Nat){w:World}{K:KMap}{Z:List Nat}{g1 g2 g3:Nat}{A B C D G H I J O R S T:Option Addr}{a b c d f i k l m n o p q s v x y aa ab ac ad ae af ag:Nat}
variable [dr:Dr]

theorem ok_impl_Seg_put_1 {q0:GEntry}{q1:Str}{q2:GTerm}{r:Bool}(hS:SH w K Z w K [obj c [sv q1] 9,obj d [sv q2.Text,V6 q2.At] 112])(o:q0.Field.length≤maxLen)(q:q0.Term.length≤maxLen)(s:SliceAt tGPost K A a b q0.Posts)(x:q1.length≤maxLen)(y:q2.Text.length≤maxLen)(B:rng64 q2.At)(hm:M.impl_Seg_put_1 F q0 q1 q2=some r):
  Calls prog 152 #[.agg #[sv q0.Field,sv q0.Term,V3 A a b],.pointer (some ⟨c,0,none⟩),.pointer (some ⟨d,0,none⟩)] w fun e w'=>∃K',e= .returned (.bool r)∧SH w K Z w' K' [obj c [sv q1] 9,obj d [sv q2.Text,V6 q2.At] 112]:=by
 rw [M.impl_Seg_put_1] at hm
 refine ci func152 u ntmps152 (sr (bx u hS fun l C m=>?_))
 have i:SH _ _ _ _ _ [obj l [sv q0.Field,sv q0.Term,V3 A a b] 116,_,_]:=m
 refine lv (r_f u) (nr (fl ff116_0 u tf9 m0 i u (lv (rv_loadm1 tf9 u m1 i u) (lv (rv_seql u u) (mv u (bt hm (fun f k=>?_) (fun f k=>?_)))))))
 ·refine lg f (rv_fieldAddr ff116_1 u) (lg f (rv_loadm1 tf9 u m0 i u) (lg f (rv_fieldAddr ff112_0 u) (lg f (rv_loadm1 tf9 u m2 i u) (lg f (rv_seql u u) (lv (rv_pick_t u f u) (av u (nq (wc_ret ?_))))))))
  cases oi k
  exact ey results152 ⟨K,u,i.s⟩
 iterate 5 refine lu f ?_
 refine lv (p_f u f u) (av u (nq (wc_ret ?_)))
 cases oi k
 exact ey results152 ⟨K,u,i.s⟩

theorem ok_slices_IndexFunc_Entry__impl_Seg_put_1 {q0:List GEntry}{q1c0:Str}{q1c1:GTerm}{r:Int}(hS:SH w K Z w K [obj c [sv q1c0] 9,obj d [sv q1c1.Text,V6 q1c1.At] 112])(f:SliceAt tGEntry K A a b q0)(O:q1c0.length≤maxLen)(R:q1c1.Text.length≤maxLen)(S:rng64 q1c1.At)(hm:M.slices_IndexFunc_Entry__impl_Seg_put_1 F q0 q1c0 q1c1=some r):
  Calls prog 151 #[V3 A a b,.func (.func 152) #[] #[.pointer (some ⟨c,0,none⟩),.pointer (some ⟨d,0,none⟩)]] w fun e w'=>∃K',e= .returned (V6 r)∧SH w K Z w' K' [obj c [sv q1c0] 9,obj d [sv q1c1.Text,V6 q1c1.At] 112]∧rng64 r:=by
 rw [M.slices_IndexFunc_Entry__impl_Seg_put_1] at hm
 refine ci func151 u ntmps151 (sr (lv (r_0 u) (nsr (mv u (lv (rv_len underlying44 u f) (lv (r_m u) (nq ?_)))))))
 obtain⟨T,U,i⟩:=ob hm
 refine wc_cutg (IE T w K Z K [] [obj c [sv q1c0] 9,obj d [sv q1c1.Text,V6 q1c1.At] 112]) ?_ ?_
 ·refine wc_block ?_
  obtain⟨aq,V,q⟩:=ob U
  refine qf (fun (s:Nat) (x:Unit)=>IV w K Z K [(0,V3 A a b),(1,.func (.func 152) #[] #[pt c,pt d]),(7,V6 (q0.length:Int)),(8,V6 ((s:Nat):Int))] [obj c [sv q1c0] 9,obj d [sv q1c1.Text,V6 q1c1.At] 112]) V ⟨K,u,hS,kr⟩ ?_ ?_
  ·rintro s x _ W ar hi29 X Y ⟨y,rfl,k,l⟩
   refine sr (lv (rv_lss u u) (ns (wc_cond_t u (decide_eq_true (by omega)) (wc_skip (qe_seq (wc_seq (wc_block (sr (mv u (av u (nr (mv u ?_))))))))))))
   refine mv u (mv u ?_)
   obtain⟨m,aa,ab⟩:=ob X
   refine li underlying44 tf116 (f.mono l) aa fun ac ad au ae af=>?_
   obtain⟨B,C,D,rfl,ag,ah,ai⟩:=ae
   have aj:AtK _ ac ad [sv m.Field,sv m.Term,V3 B C D]:=af
   refine lv (rv_loadS tf116 u k aj u) ?_
   obtain⟨aw,ak,al⟩:=ob ab
   have G:=k.f1.f1
   refine wl_call wn u (rt_callv (vs:=[.agg #[sv m.Field,sv m.Term,V3 B C D]]) (cap:=#[pt c,pt d]) co152 u u) (ok_impl_Seg_put_1 F G.e2 ag ah ai O R S ak) ?_
   rintro ax ay ⟨H,rfl,I⟩
   refine⟨_,u,?_⟩
   have J:=(G.c2 I).t2
   refine nq (wcc al u (fun am o=>?_) (fun am o=>?_))
   ·refine sr (mv u (av u (nq (wc_ret (qe_block_ret (qe_then_ret (qe_then_ret ?_)))))))
    cases oi o
    cases Y _ u
    refine qe_block_ret (qe_then_ret ?_)
    cases oi q
    refine qe_then_ret ?_
    cases oi i
    exact ey results151 ⟨H,u,J,(rng_idx hi29 (SliceAt.max f))⟩
   refine wc_skip (qe_block (qg (lv (rv_add_to u u (w64_succ hi29 (SliceAt.max f))) (mv u (wl_nil ?_)))))
   cases oi o
   exact qd ⟨_,u,H,u,J,(l.trans I.le)⟩
  rintro x _ W an ⟨y,rfl,k,l⟩
  subst an
  refine sr (lv (rv_lss u u) (ns (wc_cond_f u (decide_eq_false (by omega)) (wc_exit (qe_then_exit (qe_then_exit (qe_block_eq ?_)))))))
  cases oi q
  exact qe_mid' ⟨_,y,u,u,k,l⟩ trivial
 rintro _ az ⟨aA,ao,rfl,rfl,ap,aB⟩
 have i:=elim_l i
 refine qr (lv (rv_assign (v:=V6 (-1)) u) (nq (wc_ret ?_)))
 cases oi i
 exact ey results151 ⟨ao,u,ap,(by decide :rng64 (-1))⟩

set_option maxHeartbeats 2000000 in
theorem own_impl_Seg_put (F:Nat){w:World}{K:KMap}{g:Nat}{a1:Option Addr}{n1 c1:Nat}{f0:List Nat}{a:Option Addr}{n c:Nat}{lay:List ELay}{p0_s:GSeg}{p1_field:Str}{p2_t:GTerm}{p3_id:Int}{r:GSeg}(hS0:SH w K (List.flatMap Item.gs [obj g [.slice a1 n1 c1,.slice a n c] 46,pack (segItems 116 134 3 a n c lay)]) w K [obj g [.slice a1 n1 c1,.slice a n c] 46,pack (segItems 116 134 3 a n c lay)])(hs1:RowO oDoc K f0 (.slice a1 n1 c1) p0_s.Docs)(hl0:LayOk lay p0_s.Entries)(hl1:p1_field.length≤maxLen)(hl2:p2_t.Text.length≤maxLen)(hr2:rng64 p2_t.At)(hr3:rng64 p3_id)(hm:M.impl_Seg_put F p0_s p1_field p2_t p3_id=some r):
  Calls Tryz.prog 74 #[.pointer (some ⟨g,0,none⟩),sv p1_field,.agg #[sv p2_t.Text,.int .i64 p2_t.At],.int .i64 p3_id] w fun e w'=>∃(a_1:Option Addr) (n_2 c_3:Nat) (a_4:Option Addr) (n_5 c_6:Nat) (lay_7:List ELay) (K':KMap),e= .returned (.tuple #[])∧SH w K (List.flatMap Item.gs [obj g [.slice a1 n1 c1,.slice a n c] 46,pack (segItems 116 134 3 a n c lay)]) w' K' [obj g [.slice a_1 n_2 c_3,.slice a_4 n_5 c_6] 46,pack (segItems 116 134 3 a_4 n_5 c_6 lay_7)]∧RowO oDoc K' f0 (.slice a_1 n_2 c_3) r.Docs∧LayOk lay_7 r.Entries:=by
 rw [M.impl_Seg_put] at hm
 obtain⟨k,hx1,h1⟩:=ob hm
 obtain⟨es,hx2,h2⟩:=ob h1
 obtain⟨en,hx3,h3⟩:=ob h2
 obtain⟨ps,hx4,h4⟩:=ob h3
 obtain⟨p,hx5,h5⟩:=ob h4
 obtain⟨at_,hx6,h6⟩:=ob h5
 obtain rfl:=oi h6
 have hS1:SH w K (List.flatMap Item.gs [obj g [.slice a1 n1 c1,.slice a n c] 46,pack (segItems 116 134 3 a n c lay)]) w K (segTop 116 a n c lay::((lay).flatMap (ELay.items 134 3)++[obj g [.slice a1 n1 c1,.slice a n c] 46])):=(hS0.perm (List.Perm.swap _ _ _)).unpack
 have hS2:SH w K (List.flatMap Item.gs [obj g [.slice a1 n1 c1,.slice a n c] 46,pack (segItems 116 134 3 a n c lay)]) w K (obj g [.slice a1 n1 c1,.slice a n c] 46::segTop 116 a n c lay::(lay).flatMap (ELay.items 134 3)):=hS1.perm (by rw [←List.cons_append];exact List.perm_append_singleton _ _ |>.symm)
 generalize hMM:(List.flatMap Item.gs [obj g [.slice a1 n1 c1,.slice a n c] 46,pack (segItems 116 134 3 a n c lay)])=MM at *
 refine calls_in Tryz.func74 rfl Tryz.ntmps74 rfl ?_
 refine sr ?_
 refine wl_box wn rfl rfl hS2 ?_
 intro g5 w5 hS3'
 have hS3:SH w K MM w5 K (obj g5 [sv p1_field] 9::obj g [.slice a1 n1 c1,.slice a n c] 46::segTop 116 a n c lay::(lay).flatMap (ELay.items 134 3)):=hS3'
 refine wl_box wn rfl rfl hS3 ?_
 intro g6 w6 hS4'
 have hS4:SH w K MM w6 K (obj g6 [sv p2_t.Text,.int .i64 p2_t.At] 112::obj g5 [sv p1_field] 9::obj g [.slice a1 n1 c1,.slice a n c] 46::segTop 116 a n c lay::(lay).flatMap (ELay.items 134 3)):=hS4'
 refine nr ?_
 refine vm rfl rfl ?_
 refine wl_val wn rfl (rv_nilCheck rfl) ?_
 refine wl_val wn rfl (rv_fieldAddr ff46_1 rfl) ?_
 refine wl_val wn rfl (rv_loadm1 tf44 rfl (.tail _ (.tail _ (.head _))) hS4 rfl) ?_
 refine wl_val wn rfl (rv_makeFunc (vs:=[.pointer (some ⟨g5,0,none⟩),.pointer (some ⟨g6,0,none⟩)]) rfl) ?_
 obtain⟨gs,hgs⟩: ∃gs,gs=(segTop 116 a n c lay::(lay).flatMap (ELay.items 134 3)).flatMap Item.gs:=⟨_,rfl⟩
 have hS5:SH w K MM w6 K ([obj g5 [sv p1_field] 9,obj g6 [sv p2_t.Text,.int .i64 p2_t.At] 112]++(obj g [.slice a1 n1 c1,.slice a n c] 46::segTop 116 a n c lay::(lay).flatMap (ELay.items 134 3))):=hS4.perm (List.Perm.swap _ _ _)
 have hnd:=hS5.nodup
 rw [List.flatMap_append,List.nodup_append,List.flatMap_cons] at hnd
 have hg56:g5∉gs∧g6∉gs:=by
  rw [hgs]
  exact⟨fun hb=>hnd.2.2 g5 (by simp [obj,Go.Fk.one]) g5 (List.mem_append_right _ hb) rfl,fun hb=>hnd.2.2 g6 (by simp [obj,Go.Fk.one]) g6 (List.mem_append_right _ hb) rfl⟩
 have hseg:=seg_lent (TE:=116) (TP:=134) (TI:=3) (gs:=gs) hS5 (fun it hi=>List.mem_append_right _ (List.mem_cons_of_mem _ hi)) (fun it hi b hb=>by rw [hgs];exact List.mem_flatMap.2 ⟨it,hi,hb⟩) hl0
 have hlnd:=hS5.lend (Kin:=seeK K w6 gs) (see_holds hS5.holds) (fun it hi=>by
  rcases List.mem_cons.1 hi with rfl | hi
  ·exact obj_see (hS5.items _ (List.mem_cons_self ..)) hg56.1
  ·rcases List.mem_singleton.1 hi with rfl
   exact obj_see (hS5.items _ (List.mem_cons_of_mem _ (List.mem_cons_self ..))) hg56.2)
 refine wl_call wn rfl (rt_call (vs:=[.slice a n c,.func (.func 152) #[] #[.pointer (some ⟨g5,0,none⟩),.pointer (some ⟨g6,0,none⟩)]]) co151 rfl) ((ok_slices_IndexFunc_Entry__impl_Seg_put_1 F) hlnd hseg.1 hl1 hl2 hr2 hx1) ?_
 rintro e7 w7 ⟨K7,rfl,hS7',hr7⟩
 refine⟨_,rfl,?_⟩
 have hS6:SH w K MM w7 K ([obj g5 [sv p1_field] 9,obj g6 [sv p2_t.Text,.int .i64 p2_t.At] 112]++(obj g [.slice a1 n1 c1,.slice a n c] 46::segTop 116 a n c lay::(lay).flatMap (ELay.items 134 3))):=hS5.lent (see_le hS5.holds) hS7' rfl (fun it hi=>by
  rcases List.mem_cons.1 hi with rfl | hi
  ·exact obj_on (hS7'.items _ (List.mem_cons_self ..)) ((see_le hS5.holds).trans hS7'.le)
  ·rcases List.mem_singleton.1 hi with rfl
   exact obj_on (hS7'.items _ (List.mem_cons_of_mem _ (List.mem_cons_self ..))) ((see_le hS5.holds).trans hS7'.le))
 have hS7:SH w K MM w7 K (obj g6 [sv p2_t.Text,.int .i64 p2_t.At] 112::obj g5 [sv p1_field] 9::obj g [.slice a1 n1 c1,.slice a n c] 46::segTop 116 a n c lay::(lay).flatMap (ELay.items 134 3)):=hS6.perm (List.Perm.swap _ _ _)
 refine va rfl rfl ?_
 refine nsr ?_
 refine vm rfl rfl ?_
 refine wl_val wn rfl (rv_lss rfl rfl) ?_
 refine nq ?_
 refine wc_cutg (fun E' w'=>∃(a2:Option Addr) (n2 c2:Nat) (lay2:List ELay) (K2:KMap),E'=[(0,.pointer (some ⟨g,0,none⟩)),(3,.int .i64 p3_id),(6,.pointer (some ⟨g6,0,none⟩)),(8,.int .i64 (cond (decide (k<0)) (p0_s.Entries.length:Int) k))]∧SH w K MM w' K2 (obj g6 [sv p2_t.Text,.int .i64 p2_t.At] 112::obj g5 [sv p1_field] 9::obj g [.slice a1 n1 c1,.slice a2 n2 c2] 46::segTop 116 a2 n2 c2 lay2::(lay2).flatMap (ELay.items 134 3))∧KLe K K2∧LayOk lay2 es) ?_ ?_
 ·refine wc_cond rfl (fun hb=>?_) (fun hb=>?_)
  ·rw [hb] at hx2 ⊢
   simp only [cond_true] at hx2 ⊢
   refine sr ?_
   refine vm rfl rfl ?_
   refine wl_val wn rfl (rv_nilCheck rfl) ?_
   refine wl_val wn rfl (rv_fieldAddr ff46_1 rfl) ?_
   refine wl_val wn rfl (rv_loadm1 tf44 rfl (.tail _ (.tail _ (.head _))) hS7 rfl) ?_
   refine wl_val wn rfl (rv_lenRow Tryz.underlying44 rfl hseg.2) ?_
   refine va rfl rfl ?_
   refine nq ?_
   refine wc_held (fun w'=>Holds K w'∧HasObj g5 [sv p1_field] w'∧HasObj g6 [sv p2_t.Text,.int .i64 p2_t.At] w') (fun w'=>HasObj g [.slice a1 n1 c1,.slice a n c] w') 13 [(4,10),(10,13)] mixed ?_
   have hS8:=SH.drew hS7
   refine wg_val (i:=0) (listed':=L_ 14 0) (fun _=>True) rfl (by kernel_rfl) (by repeat (first | exact pk_body | refine pk_then ?_ | refine pk_block ?_)) (by kernel_rfl) rfl (by kernel_rfl) (by kernel_rfl) rfl (.inl fun _ _=>trivial) ⟨⟨hS8.hasK (KLe.refl _),hS8.hasObj (.tail _ (.head _)),hS8.hasObj (.head _)⟩,(fun _=>hS8.hasObj (.tail _ (.tail _ (.head _)))),by decide⟩ wn rfl (fun _ _=>(rv_move rfl)) ?_
   refine wg_val (i:=1) (listed':=L_ 14 1) (fun _=>True) rfl (by kernel_rfl) (by repeat (first | exact pk_body | refine pk_then ?_ | refine pk_block ?_)) (by kernel_rfl) rfl (by kernel_rfl) (by kernel_rfl) rfl (.inl fun _ _=>trivial) ⟨⟨hS8.hasK (KLe.refl _),hS8.hasObj (.tail _ (.head _)),hS8.hasObj (.head _)⟩,(fun _=>hS8.hasObj (.tail _ (.tail _ (.head _)))),by decide⟩ wn rfl (fun _ _=>(rv_move rfl)) ?_
   refine wg_val (i:=2) (listed':=L_ 14 2) (fun _=>True) rfl (by kernel_rfl) (by repeat (first | exact pk_body | refine pk_then ?_ | refine pk_block ?_)) (by kernel_rfl) rfl (by kernel_rfl) (by kernel_rfl) rfl (.inl fun _ _=>trivial) ⟨⟨hS8.hasK (KLe.refl _),hS8.hasObj (.tail _ (.head _)),hS8.hasObj (.head _)⟩,(fun _=>hS8.hasObj (.tail _ (.tail _ (.head _)))),by decide⟩ wn rfl (fun _ _=>(rv_nilCheck rfl)) ?_
   refine wg_val (i:=3) (listed':=L_ 14 3) (fun _=>True) rfl (by kernel_rfl) (by repeat (first | exact pk_body | refine pk_then ?_ | refine pk_block ?_)) (by kernel_rfl) rfl (by kernel_rfl) (by kernel_rfl) rfl (.inl fun _ _=>trivial) ⟨⟨hS8.hasK (KLe.refl _),hS8.hasObj (.tail _ (.head _)),hS8.hasObj (.head _)⟩,(fun _=>hS8.hasObj (.tail _ (.tail _ (.head _)))),by decide⟩ wn rfl (fun _ _=>(rv_fieldAddr ff46_1 rfl)) ?_
   refine wg_val (i:=4) (listed':=L_ 14 4) (HasObj g [.slice a1 n1 c1,.slice a n c]) rfl (by kernel_rfl) (by repeat (first | exact pk_body | refine pk_then ?_ | refine pk_block ?_)) (by kernel_rfl) rfl (by kernel_rfl) (by kernel_rfl) rfl (.inr ⟨rfl,fun _ _ h=>h⟩) ⟨⟨hS8.hasK (KLe.refl _),hS8.hasObj (.tail _ (.head _)),hS8.hasObj (.head _)⟩,(fun _=>hS8.hasObj (.tail _ (.tail _ (.head _)))),by decide⟩ wn rfl (fun _ h=>rh_loadm1 tf44 rfl rfl h) ?_
   refine wg_val (i:=5) (listed':=L_ 14 5) (HasObj g5 [sv p1_field]) rfl (by kernel_rfl) (by repeat (first | exact pk_body | refine pk_then ?_ | refine pk_block ?_)) (by kernel_rfl) rfl (by kernel_rfl) (by kernel_rfl) rfl (.inl fun _ h=>h.2.1) ⟨⟨hS8.hasK (KLe.refl _),hS8.hasObj (.tail _ (.head _)),hS8.hasObj (.head _)⟩,(fun _=>hS8.hasObj (.tail _ (.tail _ (.head _)))),by decide⟩ wn rfl (fun _ h=>rh_loadm1 tf9 rfl rfl h) ?_
   refine wg_val (i:=6) (listed':=L_ 14 6) (fun _=>True) rfl (by kernel_rfl) (by repeat (first | exact pk_body | refine pk_then ?_ | refine pk_block ?_)) (by kernel_rfl) rfl (by kernel_rfl) (by kernel_rfl) rfl (.inl fun _ _=>trivial) ⟨⟨hS8.hasK (KLe.refl _),hS8.hasObj (.tail _ (.head _)),hS8.hasObj (.head _)⟩,(fun _=>hS8.hasObj (.tail _ (.tail _ (.head _)))),by decide⟩ wn rfl (fun _ _=>(rv_fieldAddr ff112_0 rfl)) ?_
   refine wg_val (i:=7) (listed':=L_ 14 7) (HasObj g6 [sv p2_t.Text,.int .i64 p2_t.At]) rfl (by kernel_rfl) (by repeat (first | exact pk_body | refine pk_then ?_ | refine pk_block ?_)) (by kernel_rfl) rfl (by kernel_rfl) (by kernel_rfl) rfl (.inl fun _ h=>h.2.2) ⟨⟨hS8.hasK (KLe.refl _),hS8.hasObj (.tail _ (.head _)),hS8.hasObj (.head _)⟩,(fun _=>hS8.hasObj (.tail _ (.tail _ (.head _)))),by decide⟩ wn rfl (fun _ h=>rh_loadm1 tf9 rfl rfl h) ?_
   refine wg_val (i:=8) (listed':=L_ 14 8) (fun _=>True) rfl (by kernel_rfl) (by repeat (first | exact pk_body | refine pk_then ?_ | refine pk_block ?_)) (by kernel_rfl) rfl (by kernel_rfl) (by kernel_rfl) rfl (.inl fun _ _=>trivial) ⟨⟨hS8.hasK (KLe.refl _),hS8.hasObj (.tail _ (.head _)),hS8.hasObj (.head _)⟩,(fun _=>hS8.hasObj (.tail _ (.tail _ (.head _)))),by decide⟩ wn rfl (fun _ _=>(rv_build (cs:=#[sv p1_field,sv p2_t.Text,.slice none 0 0]) sp116 tf116 rfl (by kernel_rfl))) ?_
   refine wg_one (i:=9) (by kernel_rfl) rfl ?_
   refine wl_buildSlice (t:=tRaw 3) (n:=1) (pv:=[(0,.agg #[sv p1_field,sv p2_t.Text,.slice none 0 0])]) (cs:=[sv p1_field,sv p2_t.Text,.slice none 0 0]) (xs:=[([sv p1_field,sv p2_t.Text,.slice none 0 0]:List Value)]) wn rfl Tryz.underlying44 tf116 rfl rfl rfl (by kernel_rfl) rfl rfl (lit_cons (t:=tRaw 3) (u:=.agg #[sv p1_field,sv p2_t.Text,.slice none 0 0]) (z:=([sv p1_field,sv p2_t.Text,.slice none 0 0]:List Value)) ⟨rfl,rfl,by simp [Value.oneCell',sv]⟩ lit_nil) hS8 ?_
   intro a9 w9 K9 hl9 hs9 hS9'
   obtain⟨b9,o9,rfl⟩:=raw_addr hs9
   have hk9:=raw_lit hs9
   have hS9:=hS9'.drop
   refine wl_nil (qe_held (listed':=L_ 14 9) rfl ⟨⟨hS9.hasK hl9,hS9.hasObj (.tail _ (.head _)),hS9.hasObj (.head _)⟩,(fun _=>hS9.hasObj (.tail _ (.tail _ (.head _)))),by decide⟩ ?_)
   unfold catL at hx2
   split at hx2
   case isFalse=>cases hx2
   rename_i hbd
   cases hx2
   have hnl:n=p0_s.Entries.length:=hseg.2
   have hS9t:SH w K MM w9 K9 (rowI (.slice a n c) (lay.flatMap ELay.cells) 116 3::(obj g6 [sv p2_t.Text,.int .i64 p2_t.At] 112::obj g5 [sv p1_field] 9::obj g [.slice a1 n1 c1,.slice a n c] 46::(lay).flatMap (ELay.items 134 3))):=hS9.perm (List.perm_middle (l₁:=[_,_,_])).symm
   refine wg_one (i:=10) (by kernel_rfl) rfl ?_
   have hcl9:(lay.flatMap ELay.cells).length=n*3:=by rw [sg_cells3,←sg_top_len hS9t (List.mem_cons_self ..)]
   refine wl_appendI wn rfl Tryz.underlying44 tf116 rfl rfl rfl (by decide) rfl hk9 (by simp [Value.oneCell',sv]) hcl9 (by simp at hbd;omega) (by simp at hbd;omega) hS9t ?_
   intro g10 c10 w10 hS10
   refine wl_nil (qe_held (listed':=L_ 14 10) rfl ⟨⟨hS10.hasK hl9,hS10.hasObj (.tail _ (.tail _ (.head _))),hS10.hasObj (.tail _ (.head _))⟩,(fun _=>hS10.hasObj (.tail _ (.tail _ (.tail _ (.head _))))),by decide⟩ ?_)
   refine wg_val (i:=11) (listed':=L_ 14 11) (fun _=>True) rfl (by kernel_rfl) (by repeat (first | exact pk_body | refine pk_then ?_ | refine pk_block ?_)) (by kernel_rfl) rfl (by kernel_rfl) (by kernel_rfl) rfl (.inl fun _ _=>trivial) ⟨⟨hS10.hasK hl9,hS10.hasObj (.tail _ (.tail _ (.head _))),hS10.hasObj (.tail _ (.head _))⟩,(fun _=>hS10.hasObj (.tail _ (.tail _ (.tail _ (.head _))))),by decide⟩ wn rfl (fun _ _=>(rv_nilCheck rfl)) ?_
   refine wg_val (i:=12) (listed':=L_ 14 12) (fun _=>True) rfl (by kernel_rfl) (by repeat (first | exact pk_body | refine pk_then ?_ | refine pk_block ?_)) (by kernel_rfl) rfl (by kernel_rfl) (by kernel_rfl) rfl (.inl fun _ _=>trivial) ⟨⟨hS10.hasK hl9,hS10.hasObj (.tail _ (.tail _ (.head _))),hS10.hasObj (.tail _ (.head _))⟩,(fun _=>hS10.hasObj (.tail _ (.tail _ (.tail _ (.head _))))),by decide⟩ wn rfl (fun _ _=>(rv_fieldAddr ff46_1 rfl)) ?_
   refine wg_one (i:=13) (by kernel_rfl) rfl ?_
   have hS11:=SH.front (p:=[_,_,_]) hS10
   refine wl_store (cs':=[.slice a1 n1 c1,.slice (some ⟨g10,0,none⟩) (n+1) c10]) (v:=.slice (some ⟨g10,0,none⟩) (n+1) c10) wn tf44 rfl rfl rfl (by simp [Value.cells,Value.oneCell']) hS11 rfl rfl ?_
   intro w13 hS13
   refine wl_nil (qe_held (listed':=L_ 14 13) rfl ⟨⟨hS13.hasK hl9,hS13.hasObj (.tail _ (.tail _ (.tail _ (.head _)))),hS13.hasObj (.tail _ (.tail _ (.head _)))⟩,(fun h=>nomatch h),by decide⟩ ?_)
   refine wg_done (by kernel_rfl) ?_
   have hS14:=SH.rowNil hS13 134 2
   have hS15:SH w K MM w13 K9 (obj g6 [sv p2_t.Text,.int .i64 p2_t.At] 112::obj g5 [sv p1_field] 9::obj g [.slice a1 n1 c1,.slice (some ⟨g10,0,none⟩) (n+1) c10] 46::segTop 116 (some ⟨g10,0,none⟩) (n+1) c10 (lay++[ELay.mk p1_field p2_t.Text [] none 0 0])::((lay++[ELay.mk p1_field p2_t.Text [] none 0 0])).flatMap (ELay.items 134 3)):=by
    have e1:(lay++[ELay.mk p1_field p2_t.Text [] none 0 0]).flatMap ELay.cells=lay.flatMap ELay.cells++[sv p1_field,sv p2_t.Text,.slice none 0 0]:=by rw [List.flatMap_append];rfl
    have e2:((lay++[ELay.mk p1_field p2_t.Text [] none 0 0])).flatMap (ELay.items 134 3)=(lay).flatMap (ELay.items 134 3)++[rowI (.slice none 0 0) [] 134 2]:=by rw [List.flatMap_append];rfl
    unfold segTop
    rw [e1,e2]
    refine hS14.perm ?_
    exact(show List.Perm ((_::_::_::_::(lay).flatMap (ELay.items 134 3))++[_]) _ from List.perm_append_singleton _ _).trans (.cons _ (List.Perm.append_right ((lay).flatMap (ELay.items 134 3)) (List.perm_append_comm (l₁:=[_,_]) (l₂:=[_,_]))))
   refine qe_mid' ⟨_,_,_,_,K9,rfl,hS15,hl9,fun x hx=>?_,?_⟩ ⟨rfl,rfl,rfl,rfl,trivial⟩
   ·rcases List.mem_append.1 hx with hx | hx
    ·exact hl0.1 x hx
    ·rcases List.mem_singleton.1 hx with rfl
     exact⟨hl1,hl2,by simp⟩
   ·rw [List.map_append,hl0.2];rfl
  ·rw [hb] at hx2 ⊢
   simp only [cond_false] at hx2 ⊢
   obtain rfl:=oi hx2
   refine wc_skip ?_
   exact qe_mid' ⟨a,n,c,lay,K,rfl,hS7,.refl _,hl0⟩ ⟨rfl,rfl,rfl,rfl,trivial⟩
 rintro _ w15 ⟨a2,n2,c2,lay2,K2,rfl,hS20,hl20,hlay2⟩
 generalize hkk:(cond (decide (k<0)) (p0_s.Entries.length:Int) k)=kk at *
 obtain⟨hok2,hes⟩:=hlay2
 obtain⟨el,hz2,hel⟩:=sg_getI_map (hes▸hx3:getI (lay2.map ELay.x) kk=some en)
 obtain⟨pre,post,hsplit,hpre,hk0⟩:=sg_split hz2
 have hn2:=sg_top_len hS20 (.tail _ (.tail _ (.tail _ (.head _))))
 have hn2e:n2=es.length:=by rw [←hes,List.length_map];exact hn2
 obtain⟨gE,rfl⟩:=SH.rowI_at hS20 (.tail _ (.tail _ (.tail _ (.head _)))) hn2 hz2
 obtain⟨R,hR⟩: ∃R,R=((pre).flatMap (ELay.items 134 3)++(post).flatMap (ELay.items 134 3)):=⟨_,rfl⟩
 have hS21:SH w K MM w15 K2 (obj g6 [sv p2_t.Text,.int .i64 p2_t.At] 112::obj g5 [sv p1_field] 9::obj g [.slice a1 n1 c1,.slice (some ⟨gE,0,none⟩) n2 c2] 46::segTop 116 (some ⟨gE,0,none⟩) n2 c2 (pre++el::post)::ELay.row 134 el::(el.posts.map (PLay.item 3)++R)):=by
  rw [hR]
  have h7:=hS20
  rw [hsplit] at h7
  exact h7.perm ((List.Perm.append_left [_,_,_] (seg_focus (TE:=116) (TP:=134) (TI:=3))).symm)
 have helok:el.ok:=hok2 el (by rw [hsplit];simp)
 have hnP:el.n=el.posts.length:=sg_row_len hS21 (.tail _ (.tail _ (.tail _ (.tail _ (.head _)))))
 have hhead:=sg_head_at (pre:=pre) (post:=post) (e:=el) (o:=kk.toNat*3+2) (by rw [hpre])
 have hpl:el.posts.length≤maxLen:=rowI_max hS21 (.tail _ (.tail _ (.tail _ (.tail _ (.head _))))) hnP
 have henp:en.Posts=el.posts.map PLay.x:=by rw [←hel];rfl
 refine qr ?_
 refine vm rfl rfl ?_
 refine wl_val wn rfl (rv_nilCheck rfl) ?_
 refine wl_val wn rfl (rv_fieldAddr ff46_1 rfl) ?_
 refine wl_val wn rfl (rv_loadm1 tf44 rfl (.tail _ (.tail _ (.head _))) hS21 rfl) ?_
 refine vm rfl rfl ?_
 refine wl_val wn rfl (rv_indexI (t:=tGEntry) Tryz.underlying44 tf116 rfl rfl rfl hn2e hx3) ?_
 refine va rfl rfl ?_
 refine nr ?_
 refine vm rfl rfl ?_
 refine wl_val wn rfl (rv_nilCheck rfl) ?_
 refine wl_val wn rfl (rv_fieldAddr ff116_2 rfl) ?_
 refine wl_val wn rfl (rh_loadI1 tf61 rfl rfl hhead rfl (hS21.hasRow (.tail _ (.tail _ (.tail _ (.head _)))))) ?_
 refine wl_val wn rfl (rv_lenRow Tryz.underlying61 rfl hnP) ?_
 refine wl_val wn rfl (rv_sub rfl rfl) ?_
 refine va rfl rfl ?_
 refine ns ?_
 refine wc_seq ?_
 refine wc_cutg (fun E' w'=>E'=[(3,.int .i64 p3_id),(6,.pointer (some ⟨g6,0,none⟩)),(9,.pointer (some ⟨gE,kk.toNat*tGEntry.size,none⟩)),(10,.int .i64 (w64 ((el.posts.length:Int)-1))),(62,.bool (needPost en.Posts p3_id))]∧w'=w15) ?_ ?_
 ·refine wc_region ?_
  refine vm rfl rfl ?_
  refine wl_val wn rfl (rv_lss rfl rfl) ?_
  refine vm rfl rfl ?_
  rcases List.eq_nil_or_concat el.posts with hnil | ⟨ps0,p0,hcat⟩
  ·have hb:decide (w64 ((el.posts.length:Int)-1)<0)=true:=by rw [sg_pred hpl,hnil];rfl
   have hnp:needPost en.Posts p3_id=true:=by rw [henp,hnil];rfl
   rw [hnp]
   refine wl_un (ug rfl rfl hb) rfl ?_
   refine wl_un (ug rfl rfl hb) rfl ?_
   refine wl_un (ug rfl rfl hb) rfl ?_
   refine wl_un (ug rfl rfl hb) rfl ?_
   refine wl_un (ug rfl rfl hb) rfl ?_
   refine wl_un (ug rfl rfl hb) rfl ?_
   refine wl_un (ug rfl rfl hb) rfl ?_
   refine wl_un (ug rfl rfl hb) rfl ?_
   refine wl_un (ug rfl rfl hb) rfl ?_
   refine wl_un (ug rfl rfl hb) rfl ?_
   refine wl_val wn rfl (p_t rfl hb rfl) ?_
   refine wl_nil ?_
   exact qe_mid' ⟨rfl,rfl⟩ ⟨rfl,rfl,rfl,rfl,rfl,trivial⟩
  ·rw [List.concat_eq_append] at hcat
   have hlp:el.posts.length=ps0.length+1:=by rw [hcat];simp
   have hw:w64 ((el.posts.length:Int)-1)=(ps0.length:Int):=by rw [sg_pred hpl,hlp];omega
   have hb:decide (w64 ((el.posts.length:Int)-1)<0)=false:=by rw [hw];exact decide_eq_false (by omega)
   have hnp:needPost en.Posts p3_id= !(p0.doc==p3_id):=by rw [henp,hcat,List.map_append];simp [needPost,PLay.x]
   rw [hnp]
   have hzp:getI en.Posts (w64 ((el.posts.length:Int)-1))=some p0.x:=by rw [henp,hcat,List.map_append];exact sg_last (by rw [←hcat,hw];simp)
   have hnPe:el.n=en.Posts.length:=by rw [henp,List.length_map];exact hnP
   obtain⟨gP,hgP⟩:=SH.rowI_at hS21 (.tail _ (.tail _ (.tail _ (.tail _ (.head _))))) hnPe hzp
   have hdoc:(el.posts.flatMap PLay.cells)[(w64 ((el.posts.length:Int)-1)).toNat*2+0]? =some (.int .i64 p0.doc):=by rw [hcat];exact sg_post_at (k:=0) (by rw [←hcat,hw];simp)
   refine wl_val (wg rfl rfl hb) rfl (rv_move rfl) ?_
   refine wl_val (wg rfl rfl hb) rfl (rv_nilCheck rfl) ?_
   refine wl_val (wg rfl rfl hb) rfl (rv_fieldAddr ff116_2 rfl) ?_
   refine wl_val (wg rfl rfl hb) rfl (rh_loadI1 tf61 rfl rfl hhead rfl (hS21.hasRow (.tail _ (.tail _ (.tail _ (.head _)))))) ?_
   refine wl_val (wg rfl rfl hb) rfl (rv_move rfl) ?_
   refine wl_val (wg rfl rfl hb) rfl (rv_indexI (t:=tGPost) Tryz.underlying61 tf134 rfl rfl hgP hnPe hzp) ?_
   refine wl_val (wg rfl rfl hb) rfl (rv_fieldAddr ff134_0 rfl) ?_
   refine wl_val (wg rfl rfl hb) rfl (rh_loadI1 tf3 rfl rfl hdoc hgP (hS21.hasRow (.tail _ (.tail _ (.tail _ (.tail _ (.head _))))))) ?_
   refine wl_val (wg rfl rfl hb) rfl (rv_move rfl) ?_
   refine wl_val (wg rfl rfl hb) rfl (rv_neq rfl rfl) ?_
   refine wl_val wn rfl (rv_pick_f rfl hb rfl) ?_
   refine wl_nil ?_
   exact qe_mid' ⟨rfl,rfl⟩ ⟨rfl,rfl,rfl,rfl,rfl,trivial⟩
 rintro _ _ ⟨rfl,rfl⟩
 refine qe_seq ?_
 refine wc_cutg (fun E' w'=>∃(el2:ELay) (ps0:List PLay) (pl:PLay) (K3:KMap),E'=[(6,.pointer (some ⟨g6,0,none⟩)),(9,.pointer (some ⟨gE,kk.toNat*tGEntry.size,none⟩)),(10,.int .i64 (ps0.length:Int))]∧SH w K MM w' K3 (obj g6 [sv p2_t.Text,.int .i64 p2_t.At] 112::obj g5 [sv p1_field] 9::obj g [.slice a1 n1 c1,.slice (some ⟨gE,0,none⟩) n2 c2] 46::segTop 116 (some ⟨gE,0,none⟩) n2 c2 (pre++el2::post)::ELay.row 134 el2::(pl.item 3::(ps0.map (PLay.item 3)++R)))∧KLe K K3∧el2.ok∧el2.field=el.field∧el2.term=el.term∧el2.posts=ps0++[pl]∧ps=el2.posts.map PLay.x) ?_ ?_
 ·refine wc_cond rfl (fun hb=>?_) (fun hb=>?_)
  ·rw [hb] at hx4
   simp only [cond_true] at hx4
   refine sr ?_
   refine vm rfl rfl ?_
   refine vm rfl rfl ?_
   refine wl_val wn rfl (rv_nilCheck rfl) ?_
   refine wl_val wn rfl (rv_fieldAddr ff116_2 rfl) ?_
   refine wl_val wn rfl (rh_loadI1 tf61 rfl rfl hhead rfl (hS21.hasRow (.tail _ (.tail _ (.tail _ (.head _)))))) ?_
   refine vm rfl rfl ?_
   refine wl_val wn rfl (rv_build (cs:=#[.int .i64 p3_id,.slice none 0 0]) sp134 tf134 rfl (by kernel_rfl)) ?_
   refine wl_buildSlice (t:=tRaw 2) (n:=1) (pv:=[(0,.agg #[.int .i64 p3_id,.slice none 0 0])]) (cs:=[.int .i64 p3_id,.slice none 0 0]) (xs:=[([.int .i64 p3_id,.slice none 0 0]:List Value)]) wn rfl Tryz.underlying61 tf134 rfl rfl rfl (by kernel_rfl) rfl rfl (lit_cons (t:=tRaw 2) (u:=.agg #[.int .i64 p3_id,.slice none 0 0]) (z:=([.int .i64 p3_id,.slice none 0 0]:List Value)) ⟨rfl,rfl,by simp [Value.oneCell']⟩ lit_nil) hS21 ?_
   intro a22 w22 K22 hl22 hs22 hS22'
   obtain⟨b22,o22,rfl⟩:=raw_addr hs22
   have hk22:=raw_lit hs22
   have hS22:=hS22'.drop
   unfold catL at hx4
   split at hx4
   case isFalse=>cases hx4
   rename_i hbd
   cases hx4
   have hbd2:(el.n+1)*32≤140737488355328:=by rw [henp] at hbd;simp at hbd;rw [hnP];exact hbd
   have hS23:=SH.front (p:=[_,_,_,_]) hS22
   refine wl_appendI wn rfl Tryz.underlying61 tf134 rfl rfl rfl (by decide) rfl hk22 (by simp [Value.oneCell']) (by rw [sg_cells2,hnP]) (by omega) hbd2 hS23 ?_
   intro g24 c24 w24 hS24
   refine wl_val wn rfl (rv_nilCheck rfl) ?_
   refine wl_val wn rfl (rv_fieldAddr ff116_2 rfl) ?_
   have hS25:=SH.front (p:=[_,_,_,_]) hS24
   refine wl_storeC wn tf61 rfl rfl rfl hS25 (by have:=(List.getElem?_eq_some_iff.1 hhead).1;exact this) ?_
   intro w26 hS26
   refine nq ?_
   refine wc_region ?_
   refine vm rfl rfl ?_
   refine wl_val wn rfl (rv_add rfl rfl) ?_
   refine wl_val wn rfl (rv_as rfl (congrArg (Value.int .i64) (sg_back hpl))) ?_
   refine wl_nil ?_
   obtain⟨el2,hel2⟩: ∃el2:ELay,el2=⟨el.field,el.term,el.posts++[⟨p3_id,[],none,0,0⟩],some ⟨g24,0,none⟩,el.n+1,c24⟩:=⟨_,rfl⟩
   have hset:=sg_head_set (pre:=pre) (post:=post) (e:=el) (e':=el2) (o:=kk.toNat*3+2) (by rw [hpre]) (by rw [hel2]) (by rw [hel2])
   have hS27:SH w K MM w26 K22 (rowI (.slice (some ⟨gE,0,none⟩) n2 c2) ((pre++el2::post).flatMap ELay.cells) 116 3::ELay.row 134 el2::obj g6 [sv p2_t.Text,.int .i64 p2_t.At] 112::obj g5 [sv p1_field] 9::obj g [.slice a1 n1 c1,.slice (some ⟨gE,0,none⟩) n2 c2] 46::(el.posts.map (PLay.item 3)++R)):=by
    have e1:el2.posts.flatMap PLay.cells=el.posts.flatMap PLay.cells++[.int .i64 p3_id,.slice none 0 0]:=by rw [hel2,List.flatMap_append];rfl
    have e2:el2.a=some ⟨g24,0,none⟩:=by rw [hel2]
    have e3:el2.n=el.n+1:=by rw [hel2]
    have e4:el2.c=c24:=by rw [hel2]
    rw [←hset]
    unfold ELay.row
    rw [e1,e2,e3,e4]
    exact hS26
   have hS28:=SH.rowNil hS27 3 1
   refine qe_mid' ⟨el2,el.posts,⟨p3_id,[],none,0,0⟩,K22,rfl,hS28.perm ?_,hl20.trans hl22,?_,by rw [hel2],by rw [hel2],by rw [hel2],?_⟩ ⟨rfl,rfl,rfl,trivial⟩
   ·exact(List.Perm.append_left [_,_,_,_,_] (List.Perm.refl _)).trans ((List.perm_middle (l₁:=[_,_,_,_,_])).trans (.cons _ (List.Perm.append_right _ (List.perm_append_comm (l₁:=[_,_,_]) (l₂:=[_,_])))))
   ·rw [hel2]
    refine⟨helok.1,helok.2.1,fun q hq=>?_⟩
    rcases List.mem_append.1 hq with hq | hq
    ·exact helok.2.2 q hq
    ·rcases List.mem_singleton.1 hq with rfl
     exact⟨hr3,by simp⟩
   ·rw [hel2,henp,List.map_append];rfl
  ·rw [hb] at hx4
   simp only [cond_false] at hx4
   obtain rfl:=oi hx4
   refine wc_skip ?_
   rcases List.eq_nil_or_concat el.posts with hnil | ⟨ps0,p0,hcat⟩
   ·rw [henp,hnil] at hb;cases hb
   rw [List.concat_eq_append] at hcat
   have hlp:el.posts.length=ps0.length+1:=by rw [hcat];simp
   have hw:w64 ((el.posts.length:Int)-1)=(ps0.length:Int):=by rw [sg_pred hpl,hlp];omega
   rw [hw]
   refine qe_mid' ⟨el,ps0,p0,K2,rfl,?_,hl20,helok,rfl,rfl,hcat,henp⟩ ⟨rfl,rfl,rfl,trivial⟩
   have h7:=hS21
   rw [hcat] at h7
   exact h7.perm (List.Perm.append_left [_,_,_,_,_] (post_focus (TI:=3)).symm)
 rintro _ w30 ⟨el2,ps0,pl,K3,rfl,hS30,hl30,hel2ok,hf2,ht2,hcat2,hps⟩
 refine qe_seq ?_
 have hpx:p=pl.x:=by rw [hps,hcat2,List.map_append] at hx5;simp at hx5;exact hx5.symm
 have hn30:el2.n=el2.posts.length:=sg_row_len hS30 (.tail _ (.tail _ (.tail _ (.tail _ (.head _)))))
 have hz30:getI el2.posts (ps0.length:Int)=some pl:=by rw [hcat2];exact sg_last rfl
 obtain⟨gP,hgP⟩:=SH.rowI_at hS30 (.tail _ (.tail _ (.tail _ (.tail _ (.head _))))) hn30 hz30
 have hpn:pl.n=pl.at_.length:=sg_item_len hS30 (.tail _ (.tail _ (.tail _ (.tail _ (.tail _ (.head _))))))
 have hhead2:=sg_head_at (pre:=pre) (post:=post) (e:=el2) (o:=kk.toNat*3+2) (by rw [hpre])
 have hz31:getI (el2.posts.map PLay.x) (ps0.length:Int)=some pl.x:=by rw [hcat2,List.map_append];exact sg_last (by simp)
 have hn31:el2.n=(el2.posts.map PLay.x).length:=by rw [List.length_map];exact hn30
 have hat:(el2.posts.flatMap PLay.cells)[(ps0.length:Int).toNat*2+1]? =some (.slice pl.a pl.n pl.c):=by rw [hcat2];exact sg_post_at (k:=1) (by simp)
 refine wc_held (fun w'=>Holds K3 w'∧HasRow (some ⟨gE,0,none⟩) ((pre++el2::post).flatMap ELay.cells) w'∧HasObj g6 [sv p2_t.Text,.int .i64 p2_t.At] w') (fun w'=>HasRow el2.a (el2.posts.flatMap PLay.cells) w') 19 [(12,16),(16,19)] mixed ?_
 have hS31:=SH.drew hS30
 refine wg_val (i:=0) (listed':=L_ 20 0) (fun _=>True) rfl (by kernel_rfl) (by repeat (first | exact pk_body | refine pk_then ?_ | refine pk_block ?_)) (by kernel_rfl) rfl (by kernel_rfl) (by kernel_rfl) rfl (.inl fun _ _=>trivial) ⟨⟨hS31.hasK (KLe.refl _),hS31.hasRow (.tail _ (.tail _ (.tail _ (.head _)))),hS31.hasObj (.head _)⟩,(fun _=>hS31.hasRow (.tail _ (.tail _ (.tail _ (.tail _ (.head _)))))),by decide⟩ wn rfl (fun _ _=>(rv_move rfl)) ?_
 refine wg_val (i:=1) (listed':=L_ 20 1) (fun _=>True) rfl (by kernel_rfl) (by repeat (first | exact pk_body | refine pk_then ?_ | refine pk_block ?_)) (by kernel_rfl) rfl (by kernel_rfl) (by kernel_rfl) rfl (.inl fun _ _=>trivial) ⟨⟨hS31.hasK (KLe.refl _),hS31.hasRow (.tail _ (.tail _ (.tail _ (.head _)))),hS31.hasObj (.head _)⟩,(fun _=>hS31.hasRow (.tail _ (.tail _ (.tail _ (.tail _ (.head _)))))),by decide⟩ wn rfl (fun _ _=>(rv_nilCheck rfl)) ?_
 refine wg_val (i:=2) (listed':=L_ 20 2) (fun _=>True) rfl (by kernel_rfl) (by repeat (first | exact pk_body | refine pk_then ?_ | refine pk_block ?_)) (by kernel_rfl) rfl (by kernel_rfl) (by kernel_rfl) rfl (.inl fun _ _=>trivial) ⟨⟨hS31.hasK (KLe.refl _),hS31.hasRow (.tail _ (.tail _ (.tail _ (.head _)))),hS31.hasObj (.head _)⟩,(fun _=>hS31.hasRow (.tail _ (.tail _ (.tail _ (.tail _ (.head _)))))),by decide⟩ wn rfl (fun _ _=>(rv_fieldAddr ff116_2 rfl)) ?_
 refine wg_val (i:=3) (listed':=L_ 20 3) (HasRow (some ⟨gE,0,none⟩) ((pre++el2::post).flatMap ELay.cells)) rfl (by kernel_rfl) (by repeat (first | exact pk_body | refine pk_then ?_ | refine pk_block ?_)) (by kernel_rfl) rfl (by kernel_rfl) (by kernel_rfl) rfl (.inl fun _ h=>h.2.1) ⟨⟨hS31.hasK (KLe.refl _),hS31.hasRow (.tail _ (.tail _ (.tail _ (.head _)))),hS31.hasObj (.head _)⟩,(fun _=>hS31.hasRow (.tail _ (.tail _ (.tail _ (.tail _ (.head _)))))),by decide⟩ wn rfl (fun _ h=>rh_loadI1 tf61 rfl rfl hhead2 rfl h) ?_
 refine wg_val (i:=4) (listed':=L_ 20 4) (fun _=>True) rfl (by kernel_rfl) (by repeat (first | exact pk_body | refine pk_then ?_ | refine pk_block ?_)) (by kernel_rfl) rfl (by kernel_rfl) (by kernel_rfl) rfl (.inl fun _ _=>trivial) ⟨⟨hS31.hasK (KLe.refl _),hS31.hasRow (.tail _ (.tail _ (.tail _ (.head _)))),hS31.hasObj (.head _)⟩,(fun _=>hS31.hasRow (.tail _ (.tail _ (.tail _ (.tail _ (.head _)))))),by decide⟩ wn rfl (fun _ _=>(rv_move rfl)) ?_
 refine wg_val (i:=5) (listed':=L_ 20 5) (fun _=>True) rfl (by kernel_rfl) (by repeat (first | exact pk_body | refine pk_then ?_ | refine pk_block ?_)) (by kernel_rfl) rfl (by kernel_rfl) (by kernel_rfl) rfl (.inl fun _ _=>trivial) ⟨⟨hS31.hasK (KLe.refl _),hS31.hasRow (.tail _ (.tail _ (.tail _ (.head _)))),hS31.hasObj (.head _)⟩,(fun _=>hS31.hasRow (.tail _ (.tail _ (.tail _ (.tail _ (.head _)))))),by decide⟩ wn rfl (fun _ _=>(rv_move rfl)) ?_
 refine wg_val (i:=6) (listed':=L_ 20 6) (fun _=>True) rfl (by kernel_rfl) (by repeat (first | exact pk_body | refine pk_then ?_ | refine pk_block ?_)) (by kernel_rfl) rfl (by kernel_rfl) (by kernel_rfl) rfl (.inl fun _ _=>trivial) ⟨⟨hS31.hasK (KLe.refl _),hS31.hasRow (.tail _ (.tail _ (.tail _ (.head _)))),hS31.hasObj (.head _)⟩,(fun _=>hS31.hasRow (.tail _ (.tail _ (.tail _ (.tail _ (.head _)))))),by decide⟩ wn rfl (fun _ _=>(rv_nilCheck rfl)) ?_
 refine wg_val (i:=7) (listed':=L_ 20 7) (fun _=>True) rfl (by kernel_rfl) (by repeat (first | exact pk_body | refine pk_then ?_ | refine pk_block ?_)) (by kernel_rfl) rfl (by kernel_rfl) (by kernel_rfl) rfl (.inl fun _ _=>trivial) ⟨⟨hS31.hasK (KLe.refl _),hS31.hasRow (.tail _ (.tail _ (.tail _ (.head _)))),hS31.hasObj (.head _)⟩,(fun _=>hS31.hasRow (.tail _ (.tail _ (.tail _ (.tail _ (.head _)))))),by decide⟩ wn rfl (fun _ _=>(rv_fieldAddr ff116_2 rfl)) ?_
 refine wg_val (i:=8) (listed':=L_ 20 8) (HasRow (some ⟨gE,0,none⟩) ((pre++el2::post).flatMap ELay.cells)) rfl (by kernel_rfl) (by repeat (first | exact pk_body | refine pk_then ?_ | refine pk_block ?_)) (by kernel_rfl) rfl (by kernel_rfl) (by kernel_rfl) rfl (.inl fun _ h=>h.2.1) ⟨⟨hS31.hasK (KLe.refl _),hS31.hasRow (.tail _ (.tail _ (.tail _ (.head _)))),hS31.hasObj (.head _)⟩,(fun _=>hS31.hasRow (.tail _ (.tail _ (.tail _ (.tail _ (.head _)))))),by decide⟩ wn rfl (fun _ h=>rh_loadI1 tf61 rfl rfl hhead2 rfl h) ?_
 refine wg_val (i:=9) (listed':=L_ 20 9) (fun _=>True) rfl (by kernel_rfl) (by repeat (first | exact pk_body | refine pk_then ?_ | refine pk_block ?_)) (by kernel_rfl) rfl (by kernel_rfl) (by kernel_rfl) rfl (.inl fun _ _=>trivial) ⟨⟨hS31.hasK (KLe.refl _),hS31.hasRow (.tail _ (.tail _ (.tail _ (.head _)))),hS31.hasObj (.head _)⟩,(fun _=>hS31.hasRow (.tail _ (.tail _ (.tail _ (.tail _ (.head _)))))),by decide⟩ wn rfl (fun _ _=>(rv_move rfl)) ?_
 refine wg_val (i:=10) (listed':=L_ 20 10) (fun _=>True) rfl (by kernel_rfl) (by repeat (first | exact pk_body | refine pk_then ?_ | refine pk_block ?_)) (by kernel_rfl) rfl (by kernel_rfl) (by kernel_rfl) rfl (.inl fun _ _=>trivial) ⟨⟨hS31.hasK (KLe.refl _),hS31.hasRow (.tail _ (.tail _ (.tail _ (.head _)))),hS31.hasObj (.head _)⟩,(fun _=>hS31.hasRow (.tail _ (.tail _ (.tail _ (.tail _ (.head _)))))),by decide⟩ wn rfl (fun _ _=>(rv_indexI (t:=tGPost) Tryz.underlying61 tf134 rfl rfl hgP hn31 hz31)) ?_
 refine wg_val (i:=11) (listed':=L_ 20 11) (fun _=>True) rfl (by kernel_rfl) (by repeat (first | exact pk_body | refine pk_then ?_ | refine pk_block ?_)) (by kernel_rfl) rfl (by kernel_rfl) (by kernel_rfl) rfl (.inl fun _ _=>trivial) ⟨⟨hS31.hasK (KLe.refl _),hS31.hasRow (.tail _ (.tail _ (.tail _ (.head _)))),hS31.hasObj (.head _)⟩,(fun _=>hS31.hasRow (.tail _ (.tail _ (.tail _ (.tail _ (.head _)))))),by decide⟩ wn rfl (fun _ _=>(rv_fieldAddr ff134_1 rfl)) ?_
 refine wg_val (i:=12) (listed':=L_ 20 12) (HasRow el2.a (el2.posts.flatMap PLay.cells)) rfl (by kernel_rfl) (by repeat (first | exact pk_body | refine pk_then ?_ | refine pk_block ?_)) (by kernel_rfl) rfl (by kernel_rfl) (by kernel_rfl) rfl (.inr ⟨rfl,fun _ _ h=>h⟩) ⟨⟨hS31.hasK (KLe.refl _),hS31.hasRow (.tail _ (.tail _ (.tail _ (.head _)))),hS31.hasObj (.head _)⟩,(fun _=>hS31.hasRow (.tail _ (.tail _ (.tail _ (.tail _ (.head _)))))),by decide⟩ wn rfl (fun _ h=>rh_loadI1 tf71 rfl rfl hat hgP h) ?_
 refine wg_val (i:=13) (listed':=L_ 20 13) (fun _=>True) rfl (by kernel_rfl) (by repeat (first | exact pk_body | refine pk_then ?_ | refine pk_block ?_)) (by kernel_rfl) rfl (by kernel_rfl) (by kernel_rfl) rfl (.inl fun _ _=>trivial) ⟨⟨hS31.hasK (KLe.refl _),hS31.hasRow (.tail _ (.tail _ (.tail _ (.head _)))),hS31.hasObj (.head _)⟩,(fun _=>hS31.hasRow (.tail _ (.tail _ (.tail _ (.tail _ (.head _)))))),by decide⟩ wn rfl (fun _ _=>(rv_fieldAddr ff112_1 rfl)) ?_
 refine wg_val (i:=14) (listed':=L_ 20 14) (HasObj g6 [sv p2_t.Text,.int .i64 p2_t.At]) rfl (by kernel_rfl) (by repeat (first | exact pk_body | refine pk_then ?_ | refine pk_block ?_)) (by kernel_rfl) rfl (by kernel_rfl) (by kernel_rfl) rfl (.inl fun _ h=>h.2.2) ⟨⟨hS31.hasK (KLe.refl _),hS31.hasRow (.tail _ (.tail _ (.tail _ (.head _)))),hS31.hasObj (.head _)⟩,(fun _=>hS31.hasRow (.tail _ (.tail _ (.tail _ (.tail _ (.head _)))))),by decide⟩ wn rfl (fun _ h=>rh_loadm1 tf3 rfl rfl h) ?_
 refine wg_one (i:=15) (by kernel_rfl) rfl ?_
 refine wl_buildSlice (t:=tInt) (n:=1) (pv:=[(0,.int .i64 p2_t.At)]) (cs:=[.int .i64 p2_t.At]) (xs:=[p2_t.At]) wn rfl Tryz.underlying71 tf3 rfl rfl rfl (by kernel_rfl) rfl rfl (lit_cons (u:=.int .i64 p2_t.At) (z:=p2_t.At) ⟨rfl,hr2⟩ lit_nil) hS31 ?_
 intro a35 w35 K35 hl35 hs35 hS35'
 obtain⟨b35,o35,rfl⟩:=sg_addr hs35
 have hk35:=int_lit hs35
 have hS35:=hS35'.drop
 refine wl_nil (qe_held (listed':=L_ 20 15) rfl ⟨⟨hS35.hasK hl35,hS35.hasRow (.tail _ (.tail _ (.tail _ (.head _)))),hS35.hasObj (.head _)⟩,(fun _=>hS35.hasRow (.tail _ (.tail _ (.tail _ (.tail _ (.head _)))))),by decide⟩ ?_)
 refine wg_one (i:=16) (by kernel_rfl) rfl ?_
 unfold catL at hx6
 split at hx6
 case isFalse=>cases hx6
 rename_i hbd
 cases hx6
 have hbd2:(pl.n+1)*8≤140737488355328:=by rw [hpx] at hbd;simp [PLay.x] at hbd;rw [hpn];exact hbd
 have hS36:=SH.front (p:=[_,_,_,_,_]) hS35
 refine wl_appendI wn rfl Tryz.underlying71 tf3 rfl rfl rfl (by decide) rfl hk35 (by simp [Value.oneCell']) (by rw [List.length_map,hpn,Nat.mul_one]) (by omega) hbd2 hS36 ?_
 intro g37 c37 w37 hS37
 refine wl_nil (qe_held (listed':=L_ 20 16) rfl ⟨⟨hS37.hasK hl35,hS37.hasRow (.tail _ (.tail _ (.tail _ (.tail _ (.head _))))),hS37.hasObj (.tail _ (.head _))⟩,(fun _=>hS37.hasRow (.tail _ (.tail _ (.tail _ (.tail _ (.tail _ (.head _))))))),by decide⟩ ?_)
 refine wg_val (i:=17) (listed':=L_ 20 17) (fun _=>True) rfl (by kernel_rfl) (by repeat (first | exact pk_body | refine pk_then ?_ | refine pk_block ?_)) (by kernel_rfl) rfl (by kernel_rfl) (by kernel_rfl) rfl (.inl fun _ _=>trivial) ⟨⟨hS37.hasK hl35,hS37.hasRow (.tail _ (.tail _ (.tail _ (.tail _ (.head _))))),hS37.hasObj (.tail _ (.head _))⟩,(fun _=>hS37.hasRow (.tail _ (.tail _ (.tail _ (.tail _ (.tail _ (.head _))))))),by decide⟩ wn rfl (fun _ _=>(rv_indexI (t:=tGPost) Tryz.underlying61 tf134 rfl rfl hgP hn31 hz31)) ?_
 refine wg_val (i:=18) (listed':=L_ 20 18) (fun _=>True) rfl (by kernel_rfl) (by repeat (first | exact pk_body | refine pk_then ?_ | refine pk_block ?_)) (by kernel_rfl) rfl (by kernel_rfl) (by kernel_rfl) rfl (.inl fun _ _=>trivial) ⟨⟨hS37.hasK hl35,hS37.hasRow (.tail _ (.tail _ (.tail _ (.tail _ (.head _))))),hS37.hasObj (.tail _ (.head _))⟩,(fun _=>hS37.hasRow (.tail _ (.tail _ (.tail _ (.tail _ (.tail _ (.head _))))))),by decide⟩ wn rfl (fun _ _=>(rv_fieldAddr ff134_1 rfl)) ?_
 refine wg_one (i:=19) (by kernel_rfl) rfl ?_
 obtain⟨fl2,tm2,po2,a2',m2',c2'⟩:=el2
 simp only at hgP hat hcat2 hf2 ht2 hn30
 subst hgP
 have hS38:=SH.front (p:=[_,_,_,_,_]) hS37
 refine wl_storeC wn tf71 rfl rfl rfl hS38 (by have:=(List.getElem?_eq_some_iff.1 hat).1;exact this) ?_
 intro w39 hS39
 refine wl_nil (qe_held (listed':=L_ 20 19) rfl ⟨⟨hS39.hasK hl35,hS39.hasRow (.tail _ (.tail _ (.tail _ (.tail _ (.tail _ (.head _)))))),hS39.hasObj (.tail _ (.tail _ (.head _)))⟩,(fun h=>nomatch h),by decide⟩ ?_)
 refine wg_done (by kernel_rfl) ?_
 subst hR
 subst hcat2
 obtain⟨pl2,hpl2⟩: ∃pl2:PLay,pl2=⟨pl.doc,pl.at_++[p2_t.At],some ⟨g37,0,none⟩,pl.n+1,c37⟩:=⟨_,rfl⟩
 obtain⟨el3,hel3⟩: ∃el3:ELay,el3=⟨fl2,tm2,ps0++[pl2],some ⟨gP,0,none⟩,m2',c2'⟩:=⟨_,rfl⟩
 have hS40:SH w K MM w39 K35 (ELay.row 134 el3::pl2.item 3::obj g6 [sv p2_t.Text,.int .i64 p2_t.At] 112::obj g5 [sv p1_field] 9::obj g [.slice a1 n1 c1,.slice (some ⟨gE,0,none⟩) n2 c2] 46::segTop 116 (some ⟨gE,0,none⟩) n2 c2 (pre++el3::post)::(ps0.map (PLay.item 3)++((pre).flatMap (ELay.items 134 3)++(post).flatMap (ELay.items 134 3)))):=by
  have e1:=sg_post_set (ps:=ps0) (p:=pl) (p':=pl2) (o:=(ps0.length:Int).toNat*2+1) (by simp) (by rw [hpl2])
  have e2:pl2.a=some ⟨g37,0,none⟩:=by rw [hpl2]
  have e3:pl2.n=pl.n+1:=by rw [hpl2]
  have e4:pl2.c=c37:=by rw [hpl2]
  have e5:pl2.at_.map intC=pl.at_.map intC++[.int .i64 p2_t.At]:=by rw [hpl2,List.map_append];rfl
  have e6:(pre++el3::post).flatMap ELay.cells=(pre++⟨fl2,tm2,ps0++[pl],some ⟨gP,0,none⟩,m2',c2'⟩::post).flatMap ELay.cells:=by rw [hel3,List.flatMap_append,List.flatMap_append,List.flatMap_cons,List.flatMap_cons];rfl
  have e7:ELay.row 134 el3=rowI (.slice (some ⟨gP,0,none⟩) m2' c2') ((ps0++[pl2]).flatMap PLay.cells) 134 2:=by rw [hel3];rfl
  rw [e7,←e1]
  unfold segTop
  rw [e6]
  show SH w K MM w39 K35 (_::rowI (.slice pl2.a pl2.n pl2.c) (pl2.at_.map intC) 3 1::_)
  rw [e2,e3,e4,e5]
  exact hS39
 have hS41:=hS40.sublist (.cons_cons _ (.cons_cons _ (.cons _ (.cons _ (List.Sublist.refl _)))))
 have hpo3:el3.posts=ps0++[pl2]:=by rw [hel3]
 have hS42:SH w K MM w39 K35 (segItems 116 134 3 (some ⟨gE,0,none⟩) n2 c2 (pre++el3::post)++[obj g [.slice a1 n1 c1,.slice (some ⟨gE,0,none⟩) n2 c2] 46]):=by
  refine hS41.perm ((List.perm_append_singleton _ _).trans ((List.Perm.cons _ (seg_focus (TE:=116) (TP:=134) (TI:=3))).trans ?_))
  rw [hpo3]
  refine(List.Perm.append_left [_,_,_] (post_focus (TI:=3))).trans ?_
  exact List.Perm.append_right _ (List.perm_append_comm (l₁:=[_,_]) (l₂:=[_,_]))
 have hS43:=hS42.packUp.perm (List.Perm.swap _ _ _)
 refine qe_ret_normal ?_
 refine qe_ret (vs:=[]) Tryz.results74 trivial ⟨a1,n1,c1,some ⟨gE,0,none⟩,n2,c2,pre++el3::post,K35,rfl,hS43,hs1.mono (hl30.trans hl35),?_,?_⟩
 ·intro x hx
  rw [hsplit] at hok2
  rcases List.mem_append.1 hx with hx | hx
  ·exact hok2 x (List.mem_append_left _ hx)
  rcases List.mem_cons.1 hx with rfl | hx
  ·rw [hel3,hpl2]
   refine⟨hel2ok.1,hel2ok.2.1,fun q hq=>?_⟩
   rcases List.mem_append.1 hq with hq | hq
   ·exact hel2ok.2.2 q (List.mem_append_left _ hq)
   ·rcases List.mem_singleton.1 hq with rfl
    have h8:=hel2ok.2.2 pl (List.mem_append_right _ (List.mem_singleton.2 rfl))
    refine⟨h8.1,fun z hz=>?_⟩
    rcases List.mem_append.1 hz with hz | hz
    ·exact h8.2 z hz
    ·rcases List.mem_singleton.1 hz with rfl
     exact hr2
  ·exact hok2 x (List.mem_append_right _ (List.mem_cons_of_mem _ hx))
 ·show _=es.set kk.toNat _
  rw [←hes,hsplit,List.map_append,List.map_cons,List.map_append,List.map_cons,List.set_append_right _ _ (by rw [List.length_map,hpre];exact Nat.le_refl _),List.length_map,hpre,Nat.sub_self,List.set_cons_zero]
  have e1:el3.x=GEntry.mk en.Field en.Term (ps.dropLast++[GPost.mk p.Doc (p.At++[p2_t.At])]):=by
   rw [hel3,hps,hpx,hpl2,←hel]
   simp [ELay.x,PLay.x,hf2,ht2]
  rw [e1]

theorem ok_cmp_Or_int {q0:List Int}{r:Int}(hS:SH w K [] w K [])(k:SliceAt tInt K A a b q0)(hm:M.cmp_Or_int F q0=some r):
  Calls prog 77 #[V3 A a b] w (R_i w K r):=by
 rw [M.cmp_Or_int] at hm
 refine ci func77 u ntmps77 (sr (lv (r_0 u) (nr (lv (r_0 u) (nsr (mv u (lv (rv_len underlying71 u k) (lv (r_m u) (nq ?_)))))))))
 obtain⟨s,x,d⟩:=ob hm
 refine wc_cutg (IE s w K [] K [(3,V6 0)] []) ?_ ?_
 ·refine wc_block ?_
  obtain⟨aa,y,m⟩:=ob x
  refine qf (fun (o:Nat) (q:Unit)=>IV w K [] K [(3,V6 0),(6,V3 A a b),(7,V6 (q0.length:Int)),(8,V6 ((o:Nat):Int))] []) y ⟨K,u,hS,kr⟩ ?_ ?_
  ·rintro o q _ B ab hi23 C D ⟨f,rfl,c,i⟩
   refine sr (lv (rv_lss u u) (ns (wc_cond_t u (decide_eq_true (by omega)) (wc_skip (qe_seq (wc_seq (wc_block (sr ?_))))))))
   obtain⟨G,H,I⟩:=ob C
   refine li underlying71 tf3 (k.mono i) H fun J O ac R S=>?_
   obtain⟨rfl,T⟩:=R
   have U:AtK _ J O [V6 G]:=S
   refine lv (rv_load1 tf3 u c (U 0 _ u)) (av u (nr (mv u (mv u (lv (rv_neq u u) (nq (wcc I u (fun V l=>?_) (fun V l=>?_))))))))
   ·refine sr (mv u (av u (nq (wc_ret (qe_block_ret (qe_then_ret (qe_then_ret ?_)))))))
    cases oi l
    cases D _ u
    refine qe_block_ret (qe_then_ret ?_)
    cases oi m
    refine qe_then_ret ?_
    cases oi d
    exact ey results77 ⟨f,u,c,T⟩
   refine wc_skip (qe_block (qg (lv (rv_add_to u u (w64_succ hi23 (SliceAt.max k))) (mv u (wl_nil ?_)))))
   cases oi l
   exact qd ⟨_,u,f,u,c,i⟩
  rintro q _ B W ⟨f,rfl,c,i⟩
  subst W
  refine sr (lv (rv_lss u u) (ns (wc_cond_f u (decide_eq_false (by omega)) (wc_exit (qe_then_exit (qe_then_exit (qe_block_eq ?_)))))))
  cases oi m
  exact qd ⟨_,f,u,u,c,i⟩
 rintro _ ad ⟨s8,X,rfl,rfl,Y,af⟩
 have d:=elim_l d
 refine qr (mv u (av u (nq (wc_ret ?_))))
 cases oi d
 exact ey results77 ⟨X,u,Y,d_0⟩

theorem ok_cmp_isNaN_string {q0:Str}{r:Bool}(hS:SH w K [] w K [])(a:q0.length≤maxLen)(hm:M.cmp_isNaN_string F q0=some r):
  Calls prog 155 #[sv q0] w (R_b w K r):=by
 rw [M.cmp_isNaN_string] at hm
 refine ci func155 u ntmps155 (sr (lv (r_f u) (nr (mv u (mv u (lv (rv_sneq u u) (av u (nq (wc_ret ?_)))))))))
 cases oi hm
 exact ey results155 ⟨K,u,hS⟩

theorem ok_cmp_Compare_string {q0:Str}{q1:Str}{r:Int}(hS:SH w K [] w K [])(m:q0.length≤maxLen)(o:q1.length≤maxLen)(hm:M.cmp_Compare_string F q0 q1=some r):
  Calls prog 78 #[sv q0,sv q1] w (R_i w K r):=by
 rw [M.cmp_Compare_string] at hm
 refine ci func78 u ntmps78 (sr (lv (r_0 u) (nr (mv u ?_))))
 obtain⟨J,q,s⟩:=ob hm
 refine lk co155 (ok_cmp_isNaN_string F hS.enter0 m q) ?_
 rintro O R ⟨S,rfl,x⟩
 have l:=(hS.c0 x).t0
 refine av u (nr (mv u ?_))
 obtain⟨T,y,A⟩:=ob s
 refine lk co155 (ok_cmp_isNaN_string F l.enter0 o y) ?_
 rintro U V ⟨a,rfl,B⟩
 have b:=(l.c0 B).t0
 refine av u (nsr (mv u (nq (wcc A u (fun C c=>?_) (fun C c=>?_)))))
 ·refine wc_seq (sr (mv u (nq (wcc c u (fun D d=>?_) (fun D d=>?_)))))
  ·refine sr (lv (r_0 u) (nq (rr (qe_then_ret ?_))))
   cases oi d
   exact ey results78 ⟨a,u,b,d_0⟩
  refine wc_skip (qr (lv (rv_assign (v:=V6 (-1)) u) (nq (rr ?_))))
  cases oi d
  exact ey results78 ⟨a,u,b,(by decide :rng64 (-1))⟩
 refine wc_skip (qs (sr (mv u (nq (wcc c u (fun G f=>?_) (fun G f=>?_))))))
 ·refine sr (lv (rv_assign (v:=V6 1) u) (nq (rr ?_)))
  cases oi f
  exact ey results78 ⟨a,u,b,(by decide :rng64 1)⟩
 refine wc_skip (qs (sr (mv u (mv u (lv (rv_slss u u) (nq (wcc f u (fun H i=>?_) (fun H i=>?_))))))))
 ·refine sr (lv (rv_assign (v:=V6 (-1)) u) (nq (rr ?_)))
  cases oi i
  exact ey results78 ⟨a,u,b,(by decide :rng64 (-1))⟩
 refine wc_skip (qs (sr (mv u (mv u (lv (rv_sgtr u u) (nq (wcc i u (fun I k=>?_) (fun I k=>?_))))))))
 ·refine sr (lv (rv_assign (v:=V6 1) u) (nq (rr ?_)))
  cases oi k
  exact ey results78 ⟨a,u,b,(by decide :rng64 1)⟩
 refine wc_skip (qr (lv (r_0 u) (nq (wc_ret ?_))))
 cases oi k
 exact ey results78 ⟨a,u,b,d_0⟩

theorem ok_impl_SegOf_1 {q0:GEntry}{q1:GEntry}{r:Int}(hS:SH w K [] w K [])(H:q0.Field.length≤maxLen)(I:q0.Term.length≤maxLen)(ah:SliceAt tGPost K A a b q0.Posts)(J:q1.Field.length≤maxLen)(O:q1.Term.length≤maxLen)(ai:SliceAt tGPost K B c d q1.Posts)(hm:M.impl_SegOf_1 F q0 q1=some r):
  Calls prog 76 #[.agg #[sv q0.Field,sv q0.Term,V3 A a b],.agg #[sv q1.Field,sv q1.Term,V3 B c d]] w (R_i w K r):=by
 rw [M.impl_SegOf_1] at hm
 refine ci func76 rfl ntmps76 (sr (bx rfl hS fun y aj R=>?_))
 have S:SH _ _ _ _ _ [obj y [sv q0.Field,sv q0.Term,V3 A a b] 116]:=R
 refine bx rfl S fun C ak T=>?_
 have U:SH _ _ _ _ _ [obj C [sv q1.Field,sv q1.Term,V3 B c d] 116,_]:=T
 refine lv (r_0 rfl) (ns ?_)
 have f:=U.drew
 refine j_0 (fun w'=>Holds K w'∧HasObj y [sv q0.Field,sv q0.Term,V3 A a b] w'∧HasObj C [sv q1.Field,sv q1.Term,V3 B c d] w') 13 [] mixed ⟨f.hasK kr,f.hasObj m1,f.hasObj m0⟩ (jv 0 rfl (rv_fieldAddr ff116_0 rfl) (jh 1 rfl (fun _ h=>rh_loadm1 tf9 rfl rfl h.2.1) (jv 2 rfl (rv_fieldAddr ff116_0 rfl) (jh 3 rfl (fun _ h=>rh_loadm1 tf9 rfl rfl h.2.2) (jv 5 rfl (rv_fieldAddr ff116_1 rfl) (jh 6 rfl (fun _ h=>rh_loadm1 tf9 rfl rfl h.2.1) (jv 7 rfl (rv_fieldAddr ff116_1 rfl) (jh 8 rfl (fun _ h=>rh_loadm1 tf9 rfl rfl h.2.2) (j1 4 rfl ?_)))))))))
 obtain⟨i,V,W⟩:=ob hm
 refine lk co78 (ok_cmp_Compare_string F f.enter0 H J V) ?_
 rintro al am ⟨an,rfl,k,X⟩
 have l:=(f.c0 k).t2
 refine j_o ⟨l.hasK k.le,l.hasObj m1,l.hasObj m0⟩ (j1 9 rfl ?_)
 obtain⟨m,Y,aa⟩:=ob W
 refine lk co78 (ok_cmp_Compare_string F l.enter0 I O Y) ?_
 rintro ao ap ⟨aq,rfl,q,ab⟩
 have s:=(l.c0 q).t2
 refine j_o ⟨s.hasK (k.le.trans q.le),s.hasObj m1,s.hasObj m0⟩ (j1 10 rfl (wl_buildSlice (t:=tInt) (n:=2) (pv:=[(0,V6 i),(1,V6 m)]) (cs:=[V6 i,V6 m]) (xs:=[i,m]) wn rfl underlying71 tf3 rfl rfl rfl (by kernel_rfl) rfl rfl (lit_cons (u:=V6 i) (z:=i) ⟨rfl,X⟩ (lit_cons (u:=V6 m) (z:=m) ⟨rfl,ab⟩ lit_nil)) s fun ar au aw D ac o=>(j_o ⟨o.hasK ((k.le.trans q.le).trans D),o.hasObj m2,o.hasObj m1⟩ (j1 11 rfl ?_))))
 obtain⟨ax,ad,ae⟩:=ob aa
 refine lk co77 (ok_cmp_Or_int F o.enter0 ac ad) ?_
 rintro ay az ⟨af,rfl,G,ag⟩
 have x:=(o.c0 G).t3
 refine j_o ⟨x.hasK (((k.le.trans q.le).trans D).trans G.le),x.hasObj m2,x.hasObj m1⟩ (jv 12 rfl (rv_assign rfl) (jd (qe_seq (wc_ret ?_))))
 cases oi ae
 exact ey results76 ⟨af,rfl,x.s,ag⟩

set_option maxHeartbeats 2000000 in
theorem own_impl_SegOf (F:Nat){w:World}{K:KMap}{a1:Option Addr}{n2 c3:Nat}{a5:Option Addr}{n6 c7:Nat}{a9:Option Addr}{n10 c11:Nat}{p0_c:GConf}{p1_docs:List GDoc}{r:GSeg}(hS:SH w K [] w K [])(hs4:SliceAt tStr K a1 n2 c3 p0_c.Stops)(hs8:SliceAt tGSyn K a5 n6 c7 p0_c.Syns)(hs12:SliceAt tGDoc K a9 n10 c11 p1_docs)(hm:M.impl_SegOf F p0_c p1_docs=some r):
  Calls Tryz.prog 21 #[.agg #[.slice a1 n2 c3,.slice a5 n6 c7],.slice a9 n10 c11] w fun e w'=>∃(a_1:Option Addr) (n_2 c_3:Nat) (a_5:Option Addr) (n_6 c_7:Nat) (K':KMap) (f1 f2:List Nat),e= .returned (.agg #[.slice a_1 n_2 c_3,.slice a_5 n_6 c_7])∧SH w K [] w' K' [bag (f1++f2)]∧RowO oDoc K' f1 (.slice a_1 n_2 c_3) r.Docs∧RowO oEntry K' f2 (.slice a_5 n_6 c_7) r.Entries:=by
 rw [M.impl_SegOf] at hm
 refine calls_in Tryz.func21 rfl Tryz.ntmps21 rfl ?_
 refine sr ?_
 refine wl_box wn rfl rfl hS ?_
 intro g13 w14 hS15
 have hS16:SH _ _ _ _ _ [obj g13 [.slice a1 n2 c3,.slice a5 n6 c7] 33]:=hS15
 refine wl_alloc wn rfl tf46 hS16 ?_
 intro g17 w18 hS19
 have hS20:SH _ _ _ _ _ [obj g17 [.slice none 0 0,.slice none 0 0] 46,_]:=hS19
 refine ns ?_
 refine wc_seq ?_
 obtain⟨o21,h22,h23⟩:=ob hm
 refine wc_cutg (fun E' w'=>∃(K24:KMap),E'=[(1,.slice a9 n10 c11),(2,.pointer (some ⟨g13,0,none⟩)),(4,.pointer (some ⟨g17,0,none⟩)),(19,.bool o21)]∧SH w K [] w' K24 [obj g13 [.slice a1 n2 c3,.slice a5 n6 c7] 33,obj g17 [.slice none 0 0,.slice none 0 0] 46]∧KLe K K24) ?_ ?_
 ·refine wc_region ?_
  refine wl_val wn rfl (rv_loadmS (ds:=[.slice a1 n2 c3,.slice a5 n6 c7]) tf33 rfl (.tail _ (.head _)) hS20 rfl rfl) ?_
  obtain⟨r28,hx29,h30⟩:=ob h22
  refine wl_call wn rfl (rt_call (vs:=[.agg #[.slice a1 n2 c3,.slice a5 n6 c7]]) co59 rfl) ((ok_impl_ConfOk F) hS20.enter0 hs4 hs8 hx29) ?_
  rintro e35 w33 ⟨K31,rfl,hS34⟩
  refine⟨_,rfl,?_⟩
  have hS36:SH _ _ _ _ _ [_,_]:=SH.call0 hS20 hS34
  refine wl_val wn rfl (rv_not rfl) ?_
  refine vm rfl rfl ?_
  rcases bool_tf ((!r28)) with hb37 | hb37
  ·have h38:=cond_t hb37 h30
   refine wl_un (ug rfl rfl hb37) rfl ?_
   refine wl_un (ug rfl rfl hb37) rfl ?_
   refine wl_un (ug rfl rfl hb37) rfl ?_
   refine wl_val wn rfl (p_t rfl hb37 rfl) ?_
   refine wl_nil ?_
   obtain rfl:=oi h38
   have hS39:SH _ _ _ _ _ [_,_]:=SH.front (p:=[_]) hS36
   exact qe_mid' ⟨K31,rfl,hS39,hS34.le⟩ ⟨rfl,rfl,rfl,rfl,trivial⟩
  ·have h38:=cond_f hb37 h30
   refine wl_val (wg rfl rfl hb37) rfl (rv_move rfl) ?_
   obtain⟨r40,hx41,h42⟩:=ob h38
   refine wl_call (wg rfl rfl hb37) rfl (rt_call (vs:=[.slice a9 n10 c11]) co45 rfl) ((ok_impl_DocsOk F) hS36.enter0 (SliceAt.mono hS34.le hs12) hx41) ?_
   rintro e46 w44 ⟨K43,rfl,hS45⟩
   refine⟨_,rfl,?_⟩
   have hS47:SH _ _ _ _ _ [_,_]:=SH.call0 hS36 hS45
   refine wl_val (wg rfl rfl hb37) rfl (rv_not rfl) ?_
   refine wl_val wn rfl (rv_pick_f rfl hb37 rfl) ?_
   refine wl_nil ?_
   obtain rfl:=oi h42
   have hS48:SH _ _ _ _ _ [_,_]:=SH.front (p:=[_]) hS47
   exact qe_mid' ⟨K43,rfl,hS48,(hS34.le.trans hS45.le)⟩ ⟨rfl,rfl,rfl,rfl,trivial⟩
 ·rintro _ w26 ⟨K24,rfl,hS27,hl25⟩
  refine qe_seq ?_
  refine wc_cond rfl (fun hb49=>?_) (fun hb49=>?_)
  ·have h50:=cond_t hb49 h23
   refine sr ?_
   refine wl_val wn rfl (rv_build (cs:=#[.slice none 0 0,.slice none 0 0]) sp46 tf46 rfl (by kernel_rfl)) ?_
   have hS51:SH _ _ _ _ _ [_,_]:=SH.front (p:=[_]) hS27
   refine wl_store (cs':=[.slice none 0 0,.slice none 0 0]) (v:=.agg #[.slice none 0 0,.slice none 0 0]) wn tf46 rfl rfl rfl (by simp [Value.cells,Value.oneCell']) hS51 rfl rfl ?_
   intro w52 hS53
   refine nq ?_
   refine rr ?_
   obtain rfl:=oi h50
   have hS55:SH _ _ _ _ _ [bag ([]++[])]:=SH.bag0 (SH.sublist (L':=[]) hS53 (.cons _ (.cons _ .slnil)))
   exact qe_ret (vs:=[_]) Tryz.results21 ⟨⟨_,_,rfl,run_loadVar_at tf46 (cs:=[.slice none 0 0,.slice none 0 0]) (fun j c e=>by rw [Nat.zero_add,hS53.mem_obj (.head _)];exact e) (.inl ⟨rfl,rfl,rfl⟩)⟩,trivial⟩ ⟨none,0,0,none,0,0,K24,[],[],rfl,hS55,.inl ⟨rfl,rfl,rfl⟩,.inl ⟨rfl,rfl,rfl⟩⟩
  ·have h50:=cond_f hb49 h23
   refine wc_skip ?_
   refine qr ?_
   refine vm rfl rfl ?_
   obtain⟨r56,hx57,h58⟩:=ob h50
   refine wl_call wn rfl (rt_call (vs:=[.slice a9 n10 c11]) co72 rfl) ((own_impl_cloneDocs F) hS27.enter0 (SliceAt.mono hl25 hs12) hx57) ?_
   rintro e66 w60 ⟨a62,n63,c64,K59,fd0,rfl,hS61,hs65⟩
   refine⟨_,rfl,?_⟩
   have hS67:SH _ _ _ _ _ [_,_,_]:=SH.call0 hS27 hS61
   refine wl_buildSlice0 tGEntry wn rfl Tryz.underlying44 tf116 hS67 ?_
   intro a68 w69 K70 hl71 hs72 hS73
   refine wl_val wn rfl (rv_build (cs:=#[.slice a62 n63 c64,.slice a68 0 0]) sp46 tf46 rfl (by kernel_rfl)) ?_
   refine wl_alloc wn rfl tf46 hS73 ?_
   intro g74 w75 hS76
   have hS77:SH _ _ _ _ _ [obj g74 [.slice none 0 0,.slice none 0 0] 46,_,_,_,_]:=hS76
   refine wl_store (cs':=[.slice a62 n63 c64,.slice a68 0 0]) (v:=.agg #[.slice a62 n63 c64,.slice a68 0 0]) wn tf46 rfl rfl rfl (by simp [Value.cells,Value.oneCell']) hS77 rfl rfl ?_
   intro w78 hS79
   refine nsr ?_
   refine vm rfl rfl ?_
   refine wl_val wn rfl (rv_len (t:=tGDoc) Tryz.underlying43 rfl (SliceAt.mono ((hl25.trans hS61.le).trans hl71) hs12)) ?_
   refine wl_val wn rfl (rv_move (v:=.int .i64 0) rfl) ?_
   refine nq ?_
   obtain⟨o80,h81,h82⟩:=ob h58
   refine wc_cutg (fun E' w'=>∃(a87:Option Addr) (n88 c89:Nat) (a91:Option Addr) (n92 c93:Nat) (lay94:List ELay) (K83:KMap),E'=[(4,.pointer (some ⟨g17,0,none⟩)),(5,.pointer (some ⟨g74,0,none⟩))]∧SH w K [] w' K83 [obj g17 [.slice none 0 0,.slice none 0 0] 46,obj g74 [.slice a87 n88 c89,.slice a91 n92 c93] 46,pack (segItems 116 134 3 a91 n92 c93 lay94),bag fd0]∧KLe K70 K83∧RowO oDoc K83 fd0 (.slice a87 n88 c89) o80.Docs∧LayOk lay94 o80.Entries) ?_ ?_
   ·refine wc_block ?_
    obtain⟨r97,h98,h99⟩:=ob h81
    have hS114:SH _ _ _ _ _ [_,_,_,_,_]:=SH.front (p:=[_]) hS79
    have hS115:=seg_empty (TP:=134) (TI:=3) hS114
    have hS116:SH _ _ _ _ _ [_,_,_,_,_]:=SH.front (p:=[_]) hS115
    have hS117:SH _ _ _ _ _ [_,_,_,_,_]:=SH.front (p:=[_,_,_,_]) hS116
    have hS118:SH _ _ _ _ _ [_,_,_,_,_]:=SH.front (p:=[_,_,_,_]) hS117
    have hS119:SH _ _ _ _ _ [_,_,_,_,_]:=hS118
    refine wc_forE' (fun (i100:Nat) (s96:GSeg) E' w'=>∃(a105:Option Addr) (n106 c107:Nat) (a109:Option Addr) (n110 c111:Nat) (lay112:List ELay) (K101:KMap),E'=[(2,.pointer (some ⟨g13,0,none⟩)),(4,.pointer (some ⟨g17,0,none⟩)),(5,.pointer (some ⟨g74,0,none⟩)),(25,.slice a9 n10 c11),(26,.int .i64 (p1_docs.length:Int)),(27,.int .i64 ((i100:Nat):Int))]∧SH w K [] w' K101 [obj g13 [.slice a1 n2 c3,.slice a5 n6 c7] 33,obj g17 [.slice none 0 0,.slice none 0 0] 46,obj g74 [.slice a105 n106 c107,.slice a109 n110 c111] 46,pack (segItems 116 134 3 a109 n110 c111 lay112),bag fd0]∧KLe K70 K101∧RowO oDoc K101 fd0 (.slice a105 n106 c107) s96.Docs∧LayOk lay112 s96.Entries) h98 ⟨a62,n63,c64,a68,0,0,[],K70,rfl,hS119,(KLe.refl _),(RowO.mono hs65 hl71),⟨(fun _ h=>nomatch h),rfl⟩⟩ ⟨rfl,rfl,rfl,rfl,rfl,rfl,trivial⟩ ?_ ?_
    ·rintro i100 s96 _ w103 r120 hi121 h122 ⟨a105,n106,c107,a109,n110,c111,lay112,K101,rfl,hS104,hl102,hs108,hl113⟩
     refine sr ?_
     refine wl_val wn rfl (rv_lss rfl rfl) ?_
     refine ns ?_
     refine wc_cond_t rfl (decide_eq_true (by omega)) (wc_skip (qe_seq (wc_seq ?_)))
     refine wc_block ?_
     refine sr ?_
     obtain⟨x124,hx125,h126⟩:=ob h122
     refine wl_indexAddr (t:=tGDoc) wn rfl Tryz.underlying43 tf77 rfl rfl (SliceAt.mono (((hl25.trans hS61.le).trans hl71).trans hl102) hs12) hx125 ?_
     intro b127 o128 u129 hu130 ha131
     obtain⟨a133,n134,c135,a137,n138,c139,rfl,hr132,hs136,hs140⟩:=hu130
     have ha141:AtK _ b127 o128 [.int .i64 x124.Id,.slice a133 n134 c135,.slice a137 n138 c139]:=ha131
     refine wl_val wn rfl (rv_loadS (cs:=[.int .i64 x124.Id,.slice a133 n134 c135,.slice a137 n138 c139]) tf77 rfl hS104 ha141 rfl) ?_
     refine wl_alloc wn rfl tf77 hS104 ?_
     intro g142 w143 hS144
     have hS145:SH _ _ _ _ _ [obj g142 [.int .i64 0,.slice none 0 0,.slice none 0 0] 77,_,_,_,_,_]:=hS144
     refine wl_store (cs':=[.int .i64 x124.Id,.slice a133 n134 c135,.slice a137 n138 c139]) (v:=.agg #[.int .i64 x124.Id,.slice a133 n134 c135,.slice a137 n138 c139]) wn tf77 rfl rfl rfl (by simp [Value.cells,Value.oneCell']) hS145 rfl rfl ?_
     intro w146 hS147
     refine nr ?_
     refine wl_val wn rfl (rv_fieldAddr ff77_1 rfl) ?_
     refine wl_val wn rfl (rv_loadm1 tf74 rfl (.head _) hS147 rfl) ?_
     refine wl_val wn rfl (rv_len (t:=tGField) Tryz.underlying74 rfl hs136) ?_
     refine wl_val wn rfl (rv_move (v:=.int .i64 0) rfl) ?_
     refine nq ?_
     obtain⟨o148,h149,h150⟩:=ob h126
     refine wc_cutg (fun E' w'=>∃(a155:Option Addr) (n156 c157:Nat) (a159:Option Addr) (n160 c161:Nat) (lay162:List ELay) (K151:KMap),E'=[(2,.pointer (some ⟨g13,0,none⟩)),(4,.pointer (some ⟨g17,0,none⟩)),(5,.pointer (some ⟨g74,0,none⟩)),(25,.slice a9 n10 c11),(26,.int .i64 (p1_docs.length:Int)),(27,.int .i64 ((i100:Nat):Int))]∧SH w K [] w' K151 [obj g13 [.slice a1 n2 c3,.slice a5 n6 c7] 33,obj g17 [.slice none 0 0,.slice none 0 0] 46,obj g74 [.slice a155 n156 c157,.slice a159 n160 c161] 46,pack (segItems 116 134 3 a159 n160 c161 lay162),bag fd0]∧KLe K101 K151∧RowO oDoc K151 fd0 (.slice a155 n156 c157) o148.Docs∧LayOk lay162 o148.Entries) ?_ ?_
     ·refine wc_block ?_
      obtain⟨r165,h166,h167⟩:=ob h149
      have hS182:SH _ _ _ _ _ [_,_,_,_,_,_]:=SH.front (p:=[_,_,_,_]) hS147
      have hS183:SH _ _ _ _ _ [_,_,_,_,_,_]:=SH.front (p:=[_,_,_,_]) hS182
      have hS184:SH _ _ _ _ _ [_,_,_,_,_,_]:=SH.front (p:=[_,_,_,_]) hS183
      have hS185:SH _ _ _ _ _ [_,_,_,_,_,_]:=SH.front (p:=[_,_,_,_]) hS184
      refine wc_forE' (fun (i168:Nat) (s164:GSeg) E' w'=>∃(a173:Option Addr) (n174 c175:Nat) (a177:Option Addr) (n178 c179:Nat) (lay180:List ELay) (K169:KMap),E'=[(2,.pointer (some ⟨g13,0,none⟩)),(4,.pointer (some ⟨g17,0,none⟩)),(5,.pointer (some ⟨g74,0,none⟩)),(7,.pointer (some ⟨g142,0,none⟩)),(25,.slice a9 n10 c11),(26,.int .i64 (p1_docs.length:Int)),(27,.int .i64 ((i100:Nat):Int)),(32,.slice a133 n134 c135),(33,.int .i64 (x124.Fields.length:Int)),(34,.int .i64 ((i168:Nat):Int))]∧SH w K [] w' K169 [obj g13 [.slice a1 n2 c3,.slice a5 n6 c7] 33,obj g17 [.slice none 0 0,.slice none 0 0] 46,obj g74 [.slice a173 n174 c175,.slice a177 n178 c179] 46,pack (segItems 116 134 3 a177 n178 c179 lay180),obj g142 [.int .i64 x124.Id,.slice a133 n134 c135,.slice a137 n138 c139] 77,bag fd0]∧KLe K101 K169∧RowO oDoc K169 fd0 (.slice a173 n174 c175) s164.Docs∧LayOk lay180 s164.Entries) h166 ⟨a105,n106,c107,a109,n110,c111,lay112,K101,rfl,hS185,(KLe.refl _),hs108,hl113⟩ ⟨rfl,rfl,rfl,rfl,rfl,rfl,rfl,rfl,rfl,rfl,trivial⟩ ?_ ?_
      ·rintro i168 s164 _ w171 r186 hi187 h188 ⟨a173,n174,c175,a177,n178,c179,lay180,K169,rfl,hS172,hl170,hs176,hl181⟩
       refine sr ?_
       refine wl_val wn rfl (rv_lss rfl rfl) ?_
       refine ns ?_
       refine wc_cond_t rfl (decide_eq_true (by omega)) (wc_skip (qe_seq (wc_seq ?_)))
       refine wc_block ?_
       refine sr ?_
       obtain⟨x190,hx191,h192⟩:=ob h188
       refine wl_indexAddr (t:=tGField) wn rfl Tryz.underlying74 tf108 rfl rfl (SliceAt.mono hl170 hs136) hx191 ?_
       intro b193 o194 u195 hu196 ha197
       obtain⟨rfl,hl198,hl199⟩:=hu196
       have ha200:AtK _ b193 o194 [sv x190.Name,sv x190.Text]:=ha197
       refine wl_val wn rfl (rv_loadS (cs:=[sv x190.Name,sv x190.Text]) tf108 rfl hS172 ha200 rfl) ?_
       refine wl_alloc wn rfl tf108 hS172 ?_
       intro g201 w202 hS203
       have hS204:SH _ _ _ _ _ [obj g201 [sv [],sv []] 108,_,_,_,_,_,_]:=hS203
       refine wl_store (cs':=[sv x190.Name,sv x190.Text]) (v:=.agg #[sv x190.Name,sv x190.Text]) wn tf108 rfl rfl rfl (by simp [Value.cells,Value.oneCell',sv]) hS204 rfl rfl ?_
       intro w205 hS206
       refine nr ?_
       refine wl_val wn rfl (rv_loadmS (ds:=[.slice a1 n2 c3,.slice a5 n6 c7]) tf33 rfl (.tail _ (.head _)) hS206 rfl rfl) ?_
       refine wl_val wn rfl (rv_fieldAddr ff108_1 rfl) ?_
       refine wl_val wn rfl (rv_loadm1 tf9 rfl (.head _) hS206 rfl) ?_
       obtain⟨r207,hx208,h209⟩:=ob h192
       refine wl_call wn rfl (rt_call (vs:=[.agg #[.slice a1 n2 c3,.slice a5 n6 c7],sv x190.Text]) co73 rfl) ((ok_impl_TermsOf F) hS206.enter0 (SliceAt.mono ((((hl25.trans hS61.le).trans hl71).trans hl102).trans hl170) hs4) (SliceAt.mono ((((hl25.trans hS61.le).trans hl71).trans hl102).trans hl170) hs8) hl199 hx208) ?_
       rintro e217 w211 ⟨a213,n214,c215,K210,rfl,hS212,hs216⟩
       refine⟨_,rfl,?_⟩
       have hS218:SH _ _ _ _ _ [_,_,_,_,_,_,_,_]:=SH.call0 hS206 hS212
       refine wl_val wn rfl (rv_len (t:=tGTerm) Tryz.underlying109 rfl hs216) ?_
       refine wl_val wn rfl (rv_move (v:=.int .i64 0) rfl) ?_
       refine nq ?_
       obtain⟨o219,h220,h221⟩:=ob h209
       refine wc_cutg (fun E' w'=>∃(a226:Option Addr) (n227 c228:Nat) (a230:Option Addr) (n231 c232:Nat) (lay233:List ELay) (K222:KMap),E'=[(2,.pointer (some ⟨g13,0,none⟩)),(4,.pointer (some ⟨g17,0,none⟩)),(5,.pointer (some ⟨g74,0,none⟩)),(7,.pointer (some ⟨g142,0,none⟩)),(25,.slice a9 n10 c11),(26,.int .i64 (p1_docs.length:Int)),(27,.int .i64 ((i100:Nat):Int)),(32,.slice a133 n134 c135),(33,.int .i64 (x124.Fields.length:Int)),(34,.int .i64 ((i168:Nat):Int))]∧SH w K [] w' K222 [obj g13 [.slice a1 n2 c3,.slice a5 n6 c7] 33,obj g17 [.slice none 0 0,.slice none 0 0] 46,obj g74 [.slice a226 n227 c228,.slice a230 n231 c232] 46,pack (segItems 116 134 3 a230 n231 c232 lay233),obj g142 [.int .i64 x124.Id,.slice a133 n134 c135,.slice a137 n138 c139] 77,bag fd0]∧KLe K210 K222∧RowO oDoc K222 fd0 (.slice a226 n227 c228) o219.Docs∧LayOk lay233 o219.Entries) ?_ ?_
       ·refine wc_block ?_
        obtain⟨r236,h237,h238⟩:=ob h220
        have hS253:SH _ _ _ _ _ [_,_,_,_,_,_,_,_]:=SH.front (p:=[_]) hS218
        have hS254:SH _ _ _ _ _ [_,_,_,_,_,_,_,_]:=SH.front (p:=[_,_,_,_,_,_]) hS253
        have hS255:SH _ _ _ _ _ [_,_,_,_,_,_,_,_]:=SH.front (p:=[_,_,_,_,_,_]) hS254
        have hS256:SH _ _ _ _ _ [_,_,_,_,_,_,_,_]:=SH.front (p:=[_,_,_,_,_,_]) hS255
        have hS257:SH _ _ _ _ _ [_,_,_,_,_,_,_,_]:=SH.front (p:=[_,_,_,_,_,_]) hS256
        have hS258:SH _ _ _ _ _ [_,_,_,_,_,_,_,_]:=SH.front (p:=[_,_,_,_,_,_]) hS257
        have hS259:SH _ _ _ _ _ [_,_,_,_,_,_,_]:=SH.sublist hS258 (.cons_cons _ (.cons_cons _ (.cons_cons _ (.cons_cons _ (.cons_cons _ (.cons_cons _ (.cons _ (.cons_cons _ .slnil))))))))
        refine wc_forE' (fun (i239:Nat) (s235:GSeg) E' w'=>∃(a244:Option Addr) (n245 c246:Nat) (a248:Option Addr) (n249 c250:Nat) (lay251:List ELay) (K240:KMap),E'=[(2,.pointer (some ⟨g13,0,none⟩)),(4,.pointer (some ⟨g17,0,none⟩)),(5,.pointer (some ⟨g74,0,none⟩)),(7,.pointer (some ⟨g142,0,none⟩)),(9,.pointer (some ⟨g201,0,none⟩)),(25,.slice a9 n10 c11),(26,.int .i64 (p1_docs.length:Int)),(27,.int .i64 ((i100:Nat):Int)),(32,.slice a133 n134 c135),(33,.int .i64 (x124.Fields.length:Int)),(34,.int .i64 ((i168:Nat):Int)),(41,.slice a213 n214 c215),(42,.int .i64 (r207.length:Int)),(43,.int .i64 ((i239:Nat):Int))]∧SH w K [] w' K240 [obj g13 [.slice a1 n2 c3,.slice a5 n6 c7] 33,obj g17 [.slice none 0 0,.slice none 0 0] 46,obj g74 [.slice a244 n245 c246,.slice a248 n249 c250] 46,pack (segItems 116 134 3 a248 n249 c250 lay251),obj g142 [.int .i64 x124.Id,.slice a133 n134 c135,.slice a137 n138 c139] 77,obj g201 [sv x190.Name,sv x190.Text] 108,bag fd0]∧KLe K210 K240∧RowO oDoc K240 fd0 (.slice a244 n245 c246) s235.Docs∧LayOk lay251 s235.Entries) h237 ⟨a173,n174,c175,a177,n178,c179,lay180,K210,rfl,hS259,(KLe.refl _),(RowO.mono hs176 hS212.le),hl181⟩ ⟨rfl,rfl,rfl,rfl,rfl,rfl,rfl,rfl,rfl,rfl,rfl,rfl,rfl,rfl,trivial⟩ ?_ ?_
        ·rintro i239 s235 _ w242 r260 hi261 h262 ⟨a244,n245,c246,a248,n249,c250,lay251,K240,rfl,hS243,hl241,hs247,hl252⟩
         refine sr ?_
         refine wl_val wn rfl (rv_lss rfl rfl) ?_
         refine ns ?_
         refine wc_cond_t rfl (decide_eq_true (by omega)) (wc_skip (qe_seq (wc_seq ?_)))
         refine wc_block ?_
         refine sr ?_
         obtain⟨x264,hx265,h266⟩:=ob h262
         refine wl_indexAddr (t:=tGTerm) wn rfl Tryz.underlying109 tf112 rfl rfl (SliceAt.mono hl241 hs216) hx265 ?_
         intro b267 o268 u269 hu270 ha271
         obtain⟨rfl,hl272,hr273⟩:=hu270
         have ha274:AtK _ b267 o268 [sv x264.Text,.int .i64 x264.At]:=ha271
         refine wl_val wn rfl (rv_loadS (cs:=[sv x264.Text,.int .i64 x264.At]) tf112 rfl hS243 ha274 rfl) ?_
         refine wl_alloc wn rfl tf112 hS243 ?_
         intro g275 w276 hS277
         have hS278:SH _ _ _ _ _ [obj g275 [sv [],.int .i64 0] 112,_,_,_,_,_,_,_]:=hS277
         refine wl_store (cs':=[sv x264.Text,.int .i64 x264.At]) (v:=.agg #[sv x264.Text,.int .i64 x264.At]) wn tf112 rfl rfl rfl (by simp [Value.cells,Value.oneCell',sv]) hS278 rfl rfl ?_
         intro w279 hS280
         refine nq ?_
         refine wc_region ?_
         refine wl_val wn rfl (rv_fieldAddr ff108_0 rfl) ?_
         refine wl_val wn rfl (rv_loadm1 tf9 rfl (.tail _ (.tail _ (.tail _ (.tail _ (.tail _ (.tail _ (.head _))))))) hS280 rfl) ?_
         refine wl_val wn rfl (rv_loadmS (ds:=[sv x264.Text,.int .i64 x264.At]) tf112 rfl (.head _) hS280 rfl rfl) ?_
         refine wl_val wn rfl (rv_fieldAddr ff77_0 rfl) ?_
         refine wl_val wn rfl (rv_loadm1 tf3 rfl (.tail _ (.tail _ (.tail _ (.tail _ (.tail _ (.head _)))))) hS280 rfl) ?_
         obtain⟨r281,hx282,h283⟩:=ob h266
         have hS284:SH _ _ _ _ _ [_,_,_,_,_,_,_,_]:=SH.front (p:=[_,_,_,_]) hS280
         have hS285:SH _ _ _ _ _ [_,_,_,_,_,_,_,_]:=SH.front (p:=[_,_,_,_]) hS284
         refine wl_call wn rfl (rt_call (vs:=[.pointer (some ⟨g74,0,none⟩),sv x190.Name,.agg #[sv x264.Text,.int .i64 x264.At],.int .i64 x124.Id]) co74 rfl) ((own_impl_Seg_put F) (SH.enter (Lin:=[_,_]) hS285) hs247 hl252 hl198 hl272 hr273 hr132 hx282) ?_
         rintro e298 w287 ⟨a289,n290,c291,a293,n294,c295,lay296,K286,rfl,hS288,hs292,hl297⟩
         refine⟨_,rfl,?_⟩
         have hS299:SH _ _ _ _ _ [_,_,_,_,_,_,_,_]:=SH.call (Lin:=[_,_]) hS285 hS288
         refine nb ?_
         refine qg ?_
         refine wl_val wn rfl (rv_add_to rfl rfl (w64_succ hi261 (SliceAt.max hs216))) ?_
         refine vm rfl rfl ?_
         refine wl_nil ?_
         obtain rfl:=oi h283
         have hS300:SH _ _ _ _ _ [_,_,_,_,_,_,_,_]:=SH.front (p:=[_,_,_,_,_,_]) hS299
         have hS301:SH _ _ _ _ _ [_,_,_,_,_,_,_,_]:=SH.front (p:=[_,_,_,_,_,_]) hS300
         have hS302:SH _ _ _ _ _ [_,_,_,_,_,_,_,_]:=SH.front (p:=[_,_,_]) hS301
         have hS303:SH _ _ _ _ _ [_,_,_,_,_,_,_,_]:=SH.front (p:=[_,_,_]) hS302
         have hS304:SH _ _ _ _ _ [_,_,_,_,_,_,_,_]:=SH.front (p:=[_,_,_,_,_,_]) hS303
         have hS305:SH _ _ _ _ _ [_,_,_,_,_,_,_,_]:=SH.front (p:=[_,_,_,_,_,_]) hS304
         have hS306:SH _ _ _ _ _ [_,_,_,_,_,_,_]:=SH.sublist hS305 (.cons_cons _ (.cons_cons _ (.cons_cons _ (.cons_cons _ (.cons_cons _ (.cons_cons _ (.cons _ (.cons_cons _ .slnil))))))))
         exact qe_mid' ⟨a289,n290,c291,a293,n294,c295,lay296,K286,rfl,hS306,(hl241.trans hS288.le),hs292,hl297⟩ ⟨rfl,rfl,rfl,rfl,rfl,rfl,rfl,rfl,rfl,rfl,rfl,rfl,rfl,rfl,trivial⟩
        ·rintro s235 _ w242 hr307 ⟨a244,n245,c246,a248,n249,c250,lay251,K240,rfl,hS243,hl241,hs247,hl252⟩
         subst hr307
         refine sr ?_
         refine wl_val wn rfl (rv_lss rfl rfl) ?_
         refine ns ?_
         refine wc_cond_f rfl (decide_eq_false (by omega)) ?_
         refine wc_exit ?_
         refine qe_then_exit ?_
         refine qe_then_exit ?_
         refine qe_block_eq ?_
         obtain rfl:=oi h238
         have hS308:SH _ _ _ _ _ [_,_,_,_,_,_]:=SH.sublist hS243 (.cons_cons _ (.cons_cons _ (.cons_cons _ (.cons_cons _ (.cons_cons _ (.cons _ (.cons_cons _ .slnil)))))))
         exact qe_mid' ⟨a244,n245,c246,a248,n249,c250,lay251,K240,rfl,hS308,hl241,hs247,hl252⟩ ⟨rfl,rfl,rfl,rfl,rfl,rfl,rfl,rfl,rfl,rfl,trivial⟩
       ·rintro _ w224 ⟨a226,n227,c228,a230,n231,c232,lay233,K222,rfl,hS225,hl223,hs229,hl234⟩
        refine qe_block ?_
        refine qg ?_
        refine wl_val wn rfl (rv_add_to rfl rfl (w64_succ hi187 (SliceAt.max hs136))) ?_
        refine vm rfl rfl ?_
        refine wl_nil ?_
        obtain rfl:=oi h221
        exact qe_mid' ⟨a226,n227,c228,a230,n231,c232,lay233,K222,rfl,hS225,((hl170.trans hS212.le).trans hl223),hs229,hl234⟩ ⟨rfl,rfl,rfl,rfl,rfl,rfl,rfl,rfl,rfl,rfl,trivial⟩
      ·rintro s164 _ w171 hr309 ⟨a173,n174,c175,a177,n178,c179,lay180,K169,rfl,hS172,hl170,hs176,hl181⟩
       subst hr309
       refine sr ?_
       refine wl_val wn rfl (rv_lss rfl rfl) ?_
       refine ns ?_
       refine wc_cond_f rfl (decide_eq_false (by omega)) ?_
       refine wc_exit ?_
       refine qe_then_exit ?_
       refine qe_then_exit ?_
       refine qe_block_eq ?_
       obtain rfl:=oi h167
       have hS310:SH _ _ _ _ _ [_,_,_,_,_]:=SH.sublist hS172 (.cons_cons _ (.cons_cons _ (.cons_cons _ (.cons_cons _ (.cons _ (.cons_cons _ .slnil))))))
       exact qe_mid' ⟨a173,n174,c175,a177,n178,c179,lay180,K169,rfl,hS310,hl170,hs176,hl181⟩ ⟨rfl,rfl,rfl,rfl,rfl,rfl,trivial⟩
     ·rintro _ w153 ⟨a155,n156,c157,a159,n160,c161,lay162,K151,rfl,hS154,hl152,hs158,hl163⟩
      refine qe_block ?_
      refine qg ?_
      refine wl_val wn rfl (rv_add_to rfl rfl (w64_succ hi121 (SliceAt.max (SliceAt.mono ((hl25.trans hS61.le).trans hl71) hs12)))) ?_
      refine vm rfl rfl ?_
      refine wl_nil ?_
      obtain rfl:=oi h150
      exact qe_mid' ⟨a155,n156,c157,a159,n160,c161,lay162,K151,rfl,hS154,(hl102.trans hl152),hs158,hl163⟩ ⟨rfl,rfl,rfl,rfl,rfl,rfl,trivial⟩
    ·rintro s96 _ w103 hr311 ⟨a105,n106,c107,a109,n110,c111,lay112,K101,rfl,hS104,hl102,hs108,hl113⟩
     subst hr311
     refine sr ?_
     refine wl_val wn rfl (rv_lss rfl rfl) ?_
     refine ns ?_
     refine wc_cond_f rfl (decide_eq_false (by omega)) ?_
     refine wc_exit ?_
     refine qe_then_exit ?_
     refine qe_then_exit ?_
     refine qe_block_eq ?_
     obtain rfl:=oi h99
     have hS312:SH _ _ _ _ _ [_,_,_,_]:=SH.sublist hS104 (.cons _ (.cons_cons _ (.cons_cons _ (.cons_cons _ (.cons_cons _ .slnil)))))
     exact qe_mid' ⟨a105,n106,c107,a109,n110,c111,lay112,K101,rfl,hS312,hl102,hs108,hl113⟩ ⟨rfl,rfl,trivial⟩
   ·rintro _ w85 ⟨a87,n88,c89,a91,n92,c93,lay94,K83,rfl,hS86,hl84,hs90,hl95⟩
    refine qr ?_
    refine wl_val wn rfl (rv_fieldAddr ff46_1 rfl) ?_
    refine wl_val wn rfl (rv_loadm1 tf44 rfl (.tail _ (.head _)) hS86 rfl) ?_
    have hS313:SH _ _ _ _ _ [_,_,_,_]:=SH.front (p:=[_,_]) hS86
    obtain⟨K314,cs315,psE,hl316,hrow317,hfst0,hm318,hSq0⟩:=seg_own hS313 hl95
    have hS319:SH _ _ _ _ _ [_,_,_,_,_]:=SH.toEnd (p:=[_]) (q:=[_,_,_]) hSq0
    obtain⟨x320,hx321,h322⟩:=ob h82
    rw [←hfst0] at hx321
    obtain⟨qsE,hsrt0,hqf0,hqp0⟩:=sortO_pairs (c:=fun a b=>M.impl_SegOf_1 F a b) hx321
    refine wl_call wn rfl (rt_call (vs:=[.slice a91 n92 c93,.func (.func 76) #[] #[]]) co75 rfl) (sort_rowI (T:=oEntry.pair) sortLay75 sortNone75 rfl (fun w=>Go.Fk.run_isAgg tf116 w) (fun w=>Go.Fk.run_sizeOf tf116 w) (fun a b=>M.impl_SegOf_1 F a.1 b.1) 76 (Go.Proofs.enters_of Tryz.func76 (by kernel_rfl) rfl) hS319 hrow317 hm318 (fun K1 W v x u y r hW h1 h2 hm=>by
     obtain⟨a325,n326,c327,rfl,hl323,hl324,hs328⟩:=oEntry.rel h1
     obtain⟨a331,n332,c333,rfl,hl329,hl330,hs334⟩:=oEntry.rel h2
     exact(ok_impl_SegOf_1 (dr:=⟨True⟩) F (SH.start (dr:=⟨True⟩) hW) hl323 hl324 hs328 hl329 hl330 hs334 hm).mono fun e w' ⟨K',he,hS',_⟩=>⟨K',he,hS'⟩) hsrt0) ?_
    rintro e340 w336 ⟨cs335,rfl,hS339,hrow337,hm338⟩
    refine⟨_,rfl,?_⟩
    refine nr ?_
    refine wl_val wn rfl (rv_loadmS (ds:=[.slice a87 n88 c89,.slice a91 n92 c93]) tf46 rfl (.tail _ (.tail _ (.head _))) hS339 rfl rfl) ?_
    have hS341:SH _ _ _ _ _ [_,_,_,_,_]:=SH.front (p:=[_]) hS339
    refine wl_store (cs':=[.slice a87 n88 c89,.slice a91 n92 c93]) (v:=.agg #[.slice a87 n88 c89,.slice a91 n92 c93]) wn tf46 rfl rfl rfl (by simp [Value.cells,Value.oneCell']) hS341 rfl rfl ?_
    intro w342 hS343
    refine nq ?_
    refine wc_ret ?_
    have hS344:SH _ _ _ _ _ [_,_,_,_,_]:=SH.front (p:=[_]) hS343
    obtain⟨K345,hl346,hs347,hS348⟩:=SH.freezeI (t:=oEntry.pair) hS344 hrow337 hm338
    obtain rfl:=oi h322
    have hS349:SH _ _ _ _ _ [_,_,_]:=SH.sublist hS348 (.cons_cons _ (.cons _ (.cons _ (.cons_cons _ (.cons_cons _ .slnil)))))
    have hSr1:SH _ _ _ _ _ [_,_,_]:=SH.front (p:=[_,_]) hS349
    have hSr2:SH _ _ _ _ _ [bag (qsE.flatMap Prod.snd),_,_]:=SH.bagPerm hSr1 (hqp0.flatMap_right _)
    have hSr3:SH _ _ _ _ _ [_,_,_]:=SH.front (p:=[_]) hSr2
    obtain⟨fE0,hSr4,hRE0⟩:=SH.rowO (o:=oEntry) hSr3 hs347
    rw [hqf0] at hRE0
    have hSr5:=SH.bagJoin (SH.front (p:=[_]) hSr4)
    exact qe_ret (vs:=[_]) Tryz.results21 ⟨⟨_,_,rfl,run_loadVar_at tf46 (cs:=[.slice a87 n88 c89,.slice a91 n92 c93]) (fun j c e=>by rw [Nat.zero_add,hS348.mem_obj (.tail _ (.head _))];exact e) (.inl ⟨rfl,rfl,rfl⟩)⟩,trivial⟩ ⟨a87,n88,c89,a91,n92,c93,K345,fd0,fE0,rfl,hSr5,(RowO.mono hs90 (hl316.trans hl346)),hRE0⟩

theorem ok_laws_eqField {q0:GField}{q1:GField}{r:Bool}(hS:SH w K [] w K [])(q:q0.Name.length≤maxLen)(s:q0.Text.length≤maxLen)(x:q1.Name.length≤maxLen)(y:q1.Text.length≤maxLen)(hm:M.laws_eqField F q0 q1=some r):
  Calls prog 212 #[.agg #[sv q0.Name,sv q0.Text],.agg #[sv q1.Name,sv q1.Text]] w (R_b w K r):=by
 rw [M.laws_eqField] at hm
 refine ci func212 u ntmps212 (sr (bx u hS fun f A i=>?_))
 have k:SH _ _ _ _ _ [obj f [sv q0.Name,sv q0.Text] 108]:=i
 refine bx u k fun l B m=>?_
 have a:SH _ _ _ _ _ [obj l [sv q1.Name,sv q1.Text] 108,_]:=m
 refine lv (r_f u) (nsr (fl ff108_0 u tf9 m1 a u (fl ff108_0 u tf9 m0 a u (lv (rv_sneq u u) (nq (wc_cond u (fun b=>?_) (fun b=>?_)))))))
 ·have c:=cond_t b hm
  refine sr (lv (r_f u) (nq (rr ?_)))
  cases oi c
  exact ey results212 ⟨K,u,a.s⟩
 have c:=cond_f b hm
 refine wc_skip (qs (sr (fl ff108_1 u tf9 m1 a u (fl ff108_1 u tf9 m0 a u (lv (rv_sneq u u) (nq (wcc c u (fun o d=>?_) (fun o d=>?_))))))))
 ·refine sr (lv (r_f u) (nq (rr ?_)))
  cases oi d
  exact ey results212 ⟨K,u,a.s⟩
 refine wc_skip (qr (lv (r_t u) (nq (wc_ret ?_))))
 cases oi d
 exact ey results212 ⟨K,u,a.s⟩

theorem ok_laws_eqFieldS {q0:List GField}{q1:List GField}{r:Bool}(hS:SH w K [] w K [])(k:SliceAt tGField K A a b q0)(x:SliceAt tGField K B c d q1)(hm:M.laws_eqFieldS F q0 q1=some r):
  Calls prog 158 #[V3 A a b,V3 B c d] w (R_b w K r):=by
 rw [M.laws_eqFieldS] at hm
 refine ci func158 u ntmps158 (sr (lv (r_f u) (nsr (mv u (lv (rv_len underlying74 u k) (mv u (lv (rv_len underlying74 u x) (lv (rv_neq u u) (nq ?_)))))))))
 refine wc_cond u (fun l=>?_) (fun l=>?_)
 ·have m:=cond_t l hm
  refine sr (lv (r_f u) (nq (rr ?_)))
  cases oi m
  exact ey results158 ⟨K,u,hS⟩
 have m:=cond_f l hm
 refine wc_skip (qs (sr (lv (r_0 u) (nq ?_))))
 obtain⟨O,R,i⟩:=ob m
 refine wc_cutg (IE O w K [] K [] []) ?_ ?_
 ·refine wc_block ?_
  obtain⟨az,S,y⟩:=ob R
  refine qw (fun (o:Int)=>IW w K [] K [(0,V3 A a b),(1,V3 B c d),(5,V6 o)] [] (rng64 o)) S ⟨K,u,hS,kr,d_0⟩ ?_
  rintro o _ aA aB T C ⟨U,rfl,D,f,aC⟩
  refine wc_seq (sr (mv u (mv u (lv (rv_len underlying74 u (k.mono f)) (lv (rv_lss u u) (nq (wcc T u (fun V q=>?_) (fun V q=>?_))))))))
  ·refine wc_skip (qs (wc_block (wc_seq (wc_quiet mixed (by kernel_rfl) D (km u (km u ?_))))))
   obtain⟨G,W,X⟩:=ob q
   refine ki underlying74 tf108 (k.mono f) W fun Y aa aD ab ac=>?_
   obtain⟨rfl,ad,ae⟩:=ab
   have af:AtK _ Y aa [sv G.Name,sv G.Text]:=ac
   refine kh (rq_loadS tf108 u af u) (km u (km u ?_))
   obtain⟨H,ag,ah⟩:=ob X
   refine ki underlying74 tf108 (x.mono f) ag fun ai aj aE ak al=>?_
   obtain⟨rfl,am,an⟩:=ak
   have ao:AtK _ ai aj [sv H.Name,sv H.Text]:=al
   refine kh (rq_loadS tf108 u ao u) ?_
   obtain⟨aF,ap,aq⟩:=ob ah
   refine kc co212 (fun _ _ ar aG=>(ok_laws_eqField F) ar.enter0 ad ae am an ap) (kv (rv_not u) (wq_nil ?_))
   rintro aH ⟨I,J,au⟩
   refine qe_seq (wcc aq u (fun aw s=>?_) (fun aw s=>?_))
   ·refine sr (lv (r_f u) (nq (wc_ret (qe_block_ret (qe_then_ret (qe_then_ret ?_))))))
    cases oi s
    cases C _ u
    refine qe_block_ret (qe_then_ret ?_)
    cases oi y
    refine qe_then_ret ?_
    cases oi i
    exact ey results158 ⟨I,u,J⟩
   refine wc_skip (qe_block (qe_seq (wc_region (mv u (lv (rv_add u u) (av u (wl_nil ?_)))))))
   cases oi s
   exact qd ⟨_,u,I,u,J,(f.trans au),(w64_rng _)⟩
  refine wc_exit (qe_then_exit (qe_then_exit ?_))
  cases oi q
  cases C _ u
  refine qe_block_eq ?_
  cases oi y
  exact qe_mid' ⟨_,U,u,u,D,f⟩ trivial
 rintro _ aI ⟨aJ,ax,rfl,rfl,ay,aK⟩
 have i:=elim_l i
 refine qr (lv (r_t u) (nq (wc_ret ?_)))
 cases oi i
 exact ey results158 ⟨ax,u,ay⟩

theorem ok_laws_eqAttr {q0:GAttr}{q1:GAttr}{r:Bool}(hS:SH w K [] w K [])(q:q0.Name.length≤maxLen)(s:rng64 q0.Num)(x:q1.Name.length≤maxLen)(y:rng64 q1.Num)(hm:M.laws_eqAttr F q0 q1=some r):
  Calls prog 213 #[.agg #[sv q0.Name,V6 q0.Num],.agg #[sv q1.Name,V6 q1.Num]] w (R_b w K r):=by
 rw [M.laws_eqAttr] at hm
 refine ci func213 u ntmps213 (sr (bx u hS fun f A i=>?_))
 have k:SH _ _ _ _ _ [obj f [sv q0.Name,V6 q0.Num] 142]:=i
 refine bx u k fun l B m=>?_
 have a:SH _ _ _ _ _ [obj l [sv q1.Name,V6 q1.Num] 142,_]:=m
 refine lv (r_f u) (nsr (fl ff142_0 u tf9 m1 a u (fl ff142_0 u tf9 m0 a u (lv (rv_sneq u u) (nq (wc_cond u (fun b=>?_) (fun b=>?_)))))))
 ·have c:=cond_t b hm
  refine sr (lv (r_f u) (nq (rr ?_)))
  cases oi c
  exact ey results213 ⟨K,u,a.s⟩
 have c:=cond_f b hm
 refine wc_skip (qs (sr (fl ff142_1 u tf3 m1 a u (fl ff142_1 u tf3 m0 a u (lv (rv_neq u u) (nq (wcc c u (fun o d=>?_) (fun o d=>?_))))))))
 ·refine sr (lv (r_f u) (nq (rr ?_)))
  cases oi d
  exact ey results213 ⟨K,u,a.s⟩
 refine wc_skip (qr (lv (r_t u) (nq (wc_ret ?_))))
 cases oi d
 exact ey results213 ⟨K,u,a.s⟩

theorem ok_laws_eqAttrS {q0:List GAttr}{q1:List GAttr}{r:Bool}(hS:SH w K [] w K [])(k:SliceAt tGAttr K A a b q0)(x:SliceAt tGAttr K B c d q1)(hm:M.laws_eqAttrS F q0 q1=some r):
  Calls prog 159 #[V3 A a b,V3 B c d] w (R_b w K r):=by
 rw [M.laws_eqAttrS] at hm
 refine ci func159 u ntmps159 (sr (lv (r_f u) (nsr (mv u (lv (rv_len underlying75 u k) (mv u (lv (rv_len underlying75 u x) (lv (rv_neq u u) (nq ?_)))))))))
 refine wc_cond u (fun l=>?_) (fun l=>?_)
 ·have m:=cond_t l hm
  refine sr (lv (r_f u) (nq (rr ?_)))
  cases oi m
  exact ey results159 ⟨K,u,hS⟩
 have m:=cond_f l hm
 refine wc_skip (qs (sr (lv (r_0 u) (nq ?_))))
 obtain⟨O,R,i⟩:=ob m
 refine wc_cutg (IE O w K [] K [] []) ?_ ?_
 ·refine wc_block ?_
  obtain⟨az,S,y⟩:=ob R
  refine qw (fun (o:Int)=>IW w K [] K [(0,V3 A a b),(1,V3 B c d),(5,V6 o)] [] (rng64 o)) S ⟨K,u,hS,kr,d_0⟩ ?_
  rintro o _ aA aB T C ⟨U,rfl,D,f,aC⟩
  refine wc_seq (sr (mv u (mv u (lv (rv_len underlying75 u (k.mono f)) (lv (rv_lss u u) (nq (wcc T u (fun V q=>?_) (fun V q=>?_))))))))
  ·refine wc_skip (qs (wc_block (wc_seq (wc_quiet mixed (by kernel_rfl) D (km u (km u ?_))))))
   obtain⟨G,W,X⟩:=ob q
   refine ki underlying75 tf142 (k.mono f) W fun Y aa aD ab ac=>?_
   obtain⟨rfl,ad,ae⟩:=ab
   have af:AtK _ Y aa [sv G.Name,V6 G.Num]:=ac
   refine kh (rq_loadS tf142 u af u) (km u (km u ?_))
   obtain⟨H,ag,ah⟩:=ob X
   refine ki underlying75 tf142 (x.mono f) ag fun ai aj aE ak al=>?_
   obtain⟨rfl,am,an⟩:=ak
   have ao:AtK _ ai aj [sv H.Name,V6 H.Num]:=al
   refine kh (rq_loadS tf142 u ao u) ?_
   obtain⟨aF,ap,aq⟩:=ob ah
   refine kc co213 (fun _ _ ar aG=>(ok_laws_eqAttr F) ar.enter0 ad ae am an ap) (kv (rv_not u) (wq_nil ?_))
   rintro aH ⟨I,J,au⟩
   refine qe_seq (wcc aq u (fun aw s=>?_) (fun aw s=>?_))
   ·refine sr (lv (r_f u) (nq (wc_ret (qe_block_ret (qe_then_ret (qe_then_ret ?_))))))
    cases oi s
    cases C _ u
    refine qe_block_ret (qe_then_ret ?_)
    cases oi y
    refine qe_then_ret ?_
    cases oi i
    exact ey results159 ⟨I,u,J⟩
   refine wc_skip (qe_block (qe_seq (wc_region (mv u (lv (rv_add u u) (av u (wl_nil ?_)))))))
   cases oi s
   exact qd ⟨_,u,I,u,J,(f.trans au),(w64_rng _)⟩
  refine wc_exit (qe_then_exit (qe_then_exit ?_))
  cases oi q
  cases C _ u
  refine qe_block_eq ?_
  cases oi y
  exact qe_mid' ⟨_,U,u,u,D,f⟩ trivial
 rintro _ aI ⟨aJ,ax,rfl,rfl,ay,aK⟩
 have i:=elim_l i
 refine qr (lv (r_t u) (nq (wc_ret ?_)))
 cases oi i
 exact ey results159 ⟨ax,u,ay⟩

theorem ok_laws_eqDoc {q0:GDoc}{q1:GDoc}{r:Bool}(hS:SH w K [] w K [])(ah:rng64 q0.Id)(J:SliceAt tGField K A a b q0.Fields)(O:SliceAt tGAttr K B c d q0.Nums)(ai:rng64 q1.Id)(R:SliceAt tGField K C f i q1.Fields)(S:SliceAt tGAttr K D k l q1.Nums)(hm:M.laws_eqDoc F q0 q1=some r):
  Calls prog 82 #[.agg #[V6 q0.Id,V3 A a b,V3 B c d],.agg #[V6 q1.Id,V3 C f i,V3 D k l]] w (R_b w K r):=by
 rw [M.laws_eqDoc] at hm
 refine ci func82 u ntmps82 (sr (bx u hS fun T aj U=>?_))
 have V:SH _ _ _ _ _ [obj T [V6 q0.Id,V3 A a b,V3 B c d] 77]:=U
 refine bx u V fun W ak X=>?_
 have m:SH _ _ _ _ _ [obj W [V6 q1.Id,V3 C f i,V3 D k l] 77,_]:=X
 refine lv (r_f u) (nsr (fl ff77_0 u tf3 m1 m u (fl ff77_0 u tf3 m0 m u (lv (rv_neq u u) (nq (wc_cond u (fun q=>?_) (fun q=>?_)))))))
 ·have s:=cond_t q hm
  refine sr (lv (r_f u) (nq (rr ?_)))
  cases oi s
  exact ey results82 ⟨K,u,m.s⟩
 have s:=cond_f q hm
 refine wc_skip (qs (sr (fl ff77_1 u tf74 m1 m u (fl ff77_1 u tf74 m0 m u ?_))))
 obtain⟨al,Y,aa⟩:=ob s
 refine lk co158 (ok_laws_eqFieldS F m.enter0 J R Y) ?_
 rintro am an ⟨ab,rfl,x⟩
 have o:=(m.c0 x).t2
 refine lv (rv_not u) (nq (wcc aa u (fun ac y=>?_) (fun ac y=>?_)))
 ·refine sr (lv (r_f u) (nq (rr ?_)))
  cases oi y
  exact ey results82 ⟨ab,u,o.s⟩
 refine wc_skip (qs (sr (fl ff77_2 u tf75 m1 o u (fl ff77_2 u tf75 m0 o u ?_))))
 obtain⟨ao,ad,ae⟩:=ob y
 refine lk co159 (ok_laws_eqAttrS F o.enter0 (O.mono x.le) (S.mono x.le) ad) ?_
 rintro ap aq ⟨H,rfl,af⟩
 have I:=(o.c0 af).t2
 refine lv (rv_not u) (nq (wcc ae u (fun ag G=>?_) (fun ag G=>?_)))
 ·refine sr (lv (r_f u) (nq (rr ?_)))
  cases oi G
  exact ey results82 ⟨H,u,I.s⟩
 refine wc_skip (qr (lv (r_t u) (nq (wc_ret ?_))))
 cases oi G
 exact ey results82 ⟨H,u,I.s⟩

theorem ok_laws_eqDocS {q0:List GDoc}{q1:List GDoc}{r:Bool}(hS:SH w K [] w K [])(l:SliceAt tGDoc K A a b q0)(y:SliceAt tGDoc K B c d q1)(hm:M.laws_eqDocS F q0 q1=some r):
  Calls prog 24 #[V3 A a b,V3 B c d] w (R_b w K r):=by
 rw [M.laws_eqDocS] at hm
 refine ci func24 u ntmps24 (sr (lv (r_f u) (nsr (mv u (lv (rv_len underlying43 u l) (mv u (lv (rv_len underlying43 u y) (lv (rv_neq u u) (nq ?_)))))))))
 refine wc_cond u (fun m=>?_) (fun m=>?_)
 ·have o:=cond_t m hm
  refine sr (lv (r_f u) (nq (rr ?_)))
  cases oi o
  exact ey results24 ⟨K,u,hS⟩
 have o:=cond_f m hm
 refine wc_skip (qs (sr (lv (r_0 u) (nq ?_))))
 obtain⟨J,O,i⟩:=ob o
 refine wc_cutg (IE J w K [] K [] []) ?_ ?_
 ·refine wc_block ?_
  obtain⟨aO,R,C⟩:=ob O
  refine qw (fun (q:Int)=>IW w K [] K [(0,V3 A a b),(1,V3 B c d),(5,V6 q)] [] (rng64 q)) R ⟨K,u,hS,kr,d_0⟩ ?_
  rintro q _ aP aQ S D ⟨T,rfl,G,f,aR⟩
  refine wc_seq (sr (mv u (mv u (lv (rv_len underlying43 u (l.mono f)) (lv (rv_lss u u) (nq (wcc S u (fun U s=>?_) (fun U s=>?_))))))))
  ·refine wc_skip (qs (wc_block (wc_seq (wc_quiet mixed (by kernel_rfl) G (km u (km u ?_))))))
   obtain⟨V,W,X⟩:=ob s
   refine ki underlying43 tf77 (l.mono f) W fun Y aa aS ab ac=>?_
   obtain⟨ad,ae,af,ag,ah,ai,rfl,aj,ak,al⟩:=ab
   have am:AtK _ Y aa [V6 V.Id,V3 ad ae af,V3 ag ah ai]:=ac
   refine kh (rq_loadS tf77 u am u) (km u (km u ?_))
   obtain⟨an,ao,ap⟩:=ob X
   refine ki underlying43 tf77 (y.mono f) ao fun aq ar aT au aw=>?_
   obtain⟨ax,ay,az,aA,aB,aC,rfl,aD,aE,aF⟩:=au
   have aG:AtK _ aq ar [V6 an.Id,V3 ax ay az,V3 aA aB aC]:=aw
   refine kh (rq_loadS tf77 u aG u) ?_
   obtain⟨aU,aH,aI⟩:=ob ap
   refine kc co82 (fun _ _ aJ k=>(ok_laws_eqDoc F) aJ.enter0 aj (ak.mono k) (al.mono k) aD (aE.mono k) (aF.mono k) aH) (kv (rv_not u) (wq_nil ?_))
   rintro aV ⟨H,I,aK⟩
   refine qe_seq (wcc aI u (fun aL x=>?_) (fun aL x=>?_))
   ·refine sr (lv (r_f u) (nq (wc_ret (qe_block_ret (qe_then_ret (qe_then_ret ?_))))))
    cases oi x
    cases D _ u
    refine qe_block_ret (qe_then_ret ?_)
    cases oi C
    refine qe_then_ret ?_
    cases oi i
    exact ey results24 ⟨H,u,I⟩
   refine wc_skip (qe_block (qe_seq (wc_region (mv u (lv (rv_add u u) (av u (wl_nil ?_)))))))
   cases oi x
   exact qd ⟨_,u,H,u,I,(f.trans aK),(w64_rng _)⟩
  refine wc_exit (qe_then_exit (qe_then_exit ?_))
  cases oi s
  cases D _ u
  refine qe_block_eq ?_
  cases oi C
  exact qe_mid' ⟨_,T,u,u,G,f⟩ trivial
 rintro _ aW ⟨aX,aM,rfl,rfl,aN,aY⟩
 have i:=elim_l i
 refine qr (lv (r_t u) (nq (wc_ret ?_)))
 cases oi i
 exact ey results24 ⟨aM,u,aN⟩

theorem ok_laws_eqIntS {q0:List Int}{q1:List Int}{r:Bool}(hS:SH w K [] w K [])(k:SliceAt tInt K A a b q0)(x:SliceAt tInt K B c d q1)(hm:M.laws_eqIntS F q0 q1=some r):
  Calls prog 166 #[V3 A a b,V3 B c d] w (R_b w K r):=by
 rw [M.laws_eqIntS] at hm
 refine ci func166 u ntmps166 (sr (lv (r_f u) (nsr (mv u (lv (rv_len underlying71 u k) (mv u (lv (rv_len underlying71 u x) (lv (rv_neq u u) (nq ?_)))))))))
 refine wc_cond u (fun l=>?_) (fun l=>?_)
 ·have m:=cond_t l hm
  refine sr (lv (r_f u) (nq (rr ?_)))
  cases oi m
  exact ey results166 ⟨K,u,hS⟩
 have m:=cond_f l hm
 refine wc_skip (qs (sr (lv (r_0 u) (nq ?_))))
 obtain⟨I,J,i⟩:=ob m
 refine wc_cutg (IE I w K [] K [] []) ?_ ?_
 ·refine wc_block ?_
  obtain⟨ap,O,y⟩:=ob J
  refine qw (fun (o:Int)=>IW w K [] K [(0,V3 A a b),(1,V3 B c d),(5,V6 o)] [] (rng64 o)) O ⟨K,u,hS,kr,d_0⟩ ?_
  rintro o _ aq ar R C ⟨S,rfl,D,f,au⟩
  refine wc_seq (sr (mv u (mv u (lv (rv_len underlying71 u (k.mono f)) (lv (rv_lss u u) (nq (wcc R u (fun T q=>?_) (fun T q=>?_))))))))
  ·refine wc_skip (qs (wc_block (wc_seq (wc_quiet mixed (by kernel_rfl) D (km u (km u ?_))))))
   obtain⟨U,V,W⟩:=ob q
   refine ki underlying71 tf3 (k.mono f) V fun X Y aw aa ab=>?_
   obtain⟨rfl,ax⟩:=aa
   have ac:AtK _ X Y [V6 U]:=ab
   refine kh (rq_load1 tf3 u (ac 0 _ u)) (km u (km u ?_))
   obtain⟨ad,ae,af⟩:=ob W
   refine ki underlying71 tf3 (x.mono f) ae fun ag ah ay ai aj=>?_
   obtain⟨rfl,az⟩:=ai
   have ak:AtK _ ag ah [V6 ad]:=aj
   refine kh (rq_load1 tf3 u (ak 0 _ u)) (kv (rv_neq u u) (wq_nil ?_))
   rintro aA ⟨G,H,al⟩
   refine qe_seq (wcc af u (fun am s=>?_) (fun am s=>?_))
   ·refine sr (lv (r_f u) (nq (wc_ret (qe_block_ret (qe_then_ret (qe_then_ret ?_))))))
    cases oi s
    cases C _ u
    refine qe_block_ret (qe_then_ret ?_)
    cases oi y
    refine qe_then_ret ?_
    cases oi i
    exact ey results166 ⟨G,u,H⟩
   refine wc_skip (qe_block (qe_seq (wc_region (mv u (lv (rv_add u u) (av u (wl_nil ?_)))))))
   cases oi s
   exact qd ⟨_,u,G,u,H,(f.trans al),(w64_rng _)⟩
  refine wc_exit (qe_then_exit (qe_then_exit ?_))
  cases oi q
  cases C _ u
  refine qe_block_eq ?_
  cases oi y
  exact qe_mid' ⟨_,S,u,u,D,f⟩ trivial
 rintro _ aB ⟨aC,an,rfl,rfl,ao,aD⟩
 have i:=elim_l i
 refine qr (lv (r_t u) (nq (wc_ret ?_)))
 cases oi i
 exact ey results166 ⟨an,u,ao⟩

theorem ok_laws_eqPost {q0:GPost}{q1:GPost}{r:Bool}(hS:SH w K [] w K [])(R:rng64 q0.Doc)(q:SliceAt tInt K A a b q0.At)(S:rng64 q1.Doc)(s:SliceAt tInt K B c d q1.At)(hm:M.laws_eqPost F q0 q1=some r):
  Calls prog 96 #[.agg #[V6 q0.Doc,V3 A a b],.agg #[V6 q1.Doc,V3 B c d]] w (R_b w K r):=by
 rw [M.laws_eqPost] at hm
 refine ci func96 u ntmps96 (sr (bx u hS fun x T y=>?_))
 have C:SH _ _ _ _ _ [obj x [V6 q0.Doc,V3 A a b] 134]:=y
 refine bx u C fun D U G=>?_
 have f:SH _ _ _ _ _ [obj D [V6 q1.Doc,V3 B c d] 134,_]:=G
 refine lv (r_f u) (nsr (fl ff134_0 u tf3 m1 f u (fl ff134_0 u tf3 m0 f u (lv (rv_neq u u) (nq (wc_cond u (fun i=>?_) (fun i=>?_)))))))
 ·have k:=cond_t i hm
  refine sr (lv (r_f u) (nq (rr ?_)))
  cases oi k
  exact ey results96 ⟨K,u,f.s⟩
 have k:=cond_f i hm
 refine wc_skip (qs (sr (fl ff134_1 u tf71 m1 f u (fl ff134_1 u tf71 m0 f u ?_))))
 obtain⟨V,H,I⟩:=ob k
 refine lk co166 (ok_laws_eqIntS F f.enter0 q s H) ?_
 rintro W X ⟨m,rfl,J⟩
 have o:=(f.c0 J).t2
 refine lv (rv_not u) (nq (wcc I u (fun O l=>?_) (fun O l=>?_)))
 ·refine sr (lv (r_f u) (nq (rr ?_)))
  cases oi l
  exact ey results96 ⟨m,u,o.s⟩
 refine wc_skip (qr (lv (r_t u) (nq (wc_ret ?_))))
 cases oi l
 exact ey results96 ⟨m,u,o.s⟩
end Go.Proofs.YtpjefkdclnmlfaaGreat
