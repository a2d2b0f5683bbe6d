/-
 Walks of the functions. Printed by gen.py.
-/
import Derived.Test.YtepcfgnicnibnaaGreatWalkA4
set_option linter.unusedVariables false
set_option linter.unusedSectionVars false
set_option maxRecDepth 100000
namespace Go.Proofs.YtepcfgnicnibnaaGreat
set_option maxHeartbeats 4000000
open Go Go.Fk Go.RowKit Tryz
variable (F:Nat){w:World}{K:KMap}{Z:List Nat}{g1 g2 g3:Nat}{A B C D G H I J O R S T:Option Addr}{a b c d f i k l m n o p q s v x y aa ab ac ad ae af ag:Nat}
variable [dr:Dr]

theorem ok_slices_IndexFunc_Entry__impl_Seg_put_1 {q0:List GEntry}{q1c0:Str}{q1c1:GTerm}{r:Int}(hS:SH w K Z w K [obj c [sv q1c0] 9,obj d [sv q1c1.Text,V6 q1c1.At] 172])(f:SliceAt tGEntry K A a b q0)(O:q1c0.length≤maxLen)(R:q1c1.Text.length≤maxLen)(S:rng64 q1c1.At)(hm:M.slices_IndexFunc_Entry__impl_Seg_put_1 F q0 q1c0 q1c1=some r):
  Calls prog 157 #[V3 A a b,.func (.func 158) #[] #[.pointer (some ⟨c,0,none⟩),.pointer (some ⟨d,0,none⟩)]] w fun e w'=>∃K',e= .returned (V6 r)∧SH w K Z w' K' [obj c [sv q1c0] 9,obj d [sv q1c1.Text,V6 q1c1.At] 172]∧rng64 r:=by
 rw [M.slices_IndexFunc_Entry__impl_Seg_put_1] at hm
 refine ci func157 u ntmps157 (sr (lv (r_0 u) (nsr (mv u (lv (rv_len underlying49 u f) (lv (r_m u) (nq ?_)))))))
 obtain⟨T,U,i⟩:=ob hm
 refine wc_cutg (IE T w K Z K [] [obj c [sv q1c0] 9,obj d [sv q1c1.Text,V6 q1c1.At] 172]) ?_ ?_
 ·refine wc_block ?_
  obtain⟨aq,V,q⟩:=ob U
  refine qf (fun (s:Nat) (x:Unit)=>IV w K Z K [(0,V3 A a b),(1,.func (.func 158) #[] #[pt c,pt d]),(7,V6 (q0.length:Int)),(8,V6 ((s:Nat):Int))] [obj c [sv q1c0] 9,obj d [sv q1c1.Text,V6 q1c1.At] 172]) V ⟨K,u,hS,kr⟩ ?_ ?_
  ·rintro s x _ W ar hi29 X Y ⟨y,rfl,k,l⟩
   refine sr (lv (rv_lss u u) (ns (wc_cond_t u (decide_eq_true (by omega)) (wc_skip (qe_seq (wc_seq (wc_block (sr (mv u (av u (nr (mv u ?_))))))))))))
   refine mv u (mv u ?_)
   obtain⟨m,aa,ab⟩:=ob X
   refine li underlying49 tf76 (f.mono l) aa fun ac ad au ae af=>?_
   obtain⟨B,C,D,rfl,ag,ah,ai⟩:=ae
   have aj:AtK _ ac ad [sv m.Field,sv m.Term,V3 B C D]:=af
   refine lv (rv_loadS tf76 u k aj u) ?_
   obtain⟨aw,ak,al⟩:=ob ab
   have G:=k.f1.f1
   refine wl_call wn u (rt_callv (vs:=[.agg #[sv m.Field,sv m.Term,V3 B C D]]) (cap:=#[pt c,pt d]) co158 u u) (ok_impl_Seg_put_1 F G.e2 ag ah ai O R S ak) ?_
   rintro ax ay ⟨H,rfl,I⟩
   refine⟨_,u,?_⟩
   have J:=(G.c2 I).t2
   refine nq (wcc al u (fun am o=>?_) (fun am o=>?_))
   ·refine sr (mv u (av u (nq (wc_ret (qe_block_ret (qe_then_ret (qe_then_ret ?_)))))))
    cases oi o
    cases Y _ u
    refine qe_block_ret (qe_then_ret ?_)
    cases oi q
    refine qe_then_ret ?_
    cases oi i
    exact ey results157 ⟨H,u,J,(rng_idx hi29 (SliceAt.max f))⟩
   refine wc_skip (qe_block (qg (lv (rv_add_to u u (w64_succ hi29 (SliceAt.max f))) (mv u (wl_nil ?_)))))
   cases oi o
   exact qd ⟨_,u,H,u,J,(l.trans I.le)⟩
  rintro x _ W an ⟨y,rfl,k,l⟩
  subst an
  refine sr (lv (rv_lss u u) (ns (wc_cond_f u (decide_eq_false (by omega)) (wc_exit (qe_then_exit (qe_then_exit (qe_block_eq ?_)))))))
  cases oi q
  exact qe_mid' ⟨_,y,u,u,k,l⟩ trivial
 rintro _ az ⟨aA,ao,rfl,rfl,ap,aB⟩
 have i:=elim_l i
 refine qr (lv (rv_assign (v:=V6 (-1)) u) (nq (wc_ret ?_)))
 cases oi i
 exact ey results157 ⟨ao,u,ap,(by decide :rng64 (-1))⟩

theorem ok_impl_Seg_put {g:Nat}{a:Option Addr}{n:Nat}{c:Nat}{lay:List ELay}{q0:GSeg}{q1:Str}{q2:GTerm}{q3:Int}{r:GSeg}(aJ:SH w K (List.flatMap Item.gs [obj g [V3 A b d,V3 a n c] 51,pack (segItems 76 164 3 a n c lay)]) w K [obj g [V3 A b d,V3 a n c] 51,pack (segItems 76 164 3 a n c lay)])(aK:SliceAt tGDoc K A b d q0.Docs)(U:LayOk lay q0.Entries)(ap:q1.length≤maxLen)(aq:q2.Text.length≤maxLen)(ag:rng64 q2.At)(aL:rng64 q3)(hm:M.impl_Seg_put F q0 q1 q2 q3=some r):
  Calls prog 117 #[.pointer (some ⟨g,0,none⟩),sv q1,.agg #[sv q2.Text,V6 q2.At],V6 q3] w fun e w'=>∃a_1 n_2 c_3 a_4 n_5 c_6 lay_7 K',e= .returned (.tuple #[])∧SH w K (List.flatMap Item.gs [obj g [V3 A b d,V3 a n c] 51,pack (segItems 76 164 3 a n c lay)]) w' K' [obj g [V3 a_1 n_2 c_3,V3 a_4 n_5 c_6] 51,pack (segItems 76 164 3 a_4 n_5 c_6 lay_7)]∧SliceAt tGDoc K' a_1 n_2 c_3 r.Docs∧LayOk lay_7 r.Entries:=by
 rw [M.impl_Seg_put] at hm
 obtain⟨k,aM,h1⟩:=ob hm
 obtain⟨es,B,h2⟩:=ob h1
 obtain⟨en,ar,h3⟩:=ob h2
 obtain⟨ps,C,h4⟩:=ob h3
 obtain⟨p,ah,h5⟩:=ob h4
 obtain⟨at_,V,h6⟩:=ob h5
 cases oi h6
 have aT:SH w K (List.flatMap Item.gs [obj g [V3 A b d,V3 a n c] 51,pack (segItems 76 164 3 a n c lay)]) w K (segTop 76 a n c lay::((lay).flatMap (ELay.items 164 3)++[obj g [V3 A b d,V3 a n c] 51])):=(aJ.perm (List.Perm.swap _ _ _)).unpack
 have aU:SH w K (List.flatMap Item.gs [obj g [V3 A b d,V3 a n c] 51,pack (segItems 76 164 3 a n c lay)]) w K (obj g [V3 A b d,V3 a n c] 51::segTop 76 a n c lay::(lay).flatMap (ELay.items 164 3)):=aT.perm (by rw [←List.cons_append];exact List.perm_append_singleton _ _ |>.symm)
 generalize hMM:(List.flatMap Item.gs [obj g [V3 A b d,V3 a n c] 51,pack (segItems 76 164 3 a n c lay)])=MM at *
 refine ci func117 rfl ntmps117 (sr (bx rfl aU fun i w5 hS3'=>?_))
 have aW:SH w K MM w5 K (obj i [sv q1] 9::obj g [V3 A b d,V3 a n c] 51::segTop 76 a n c lay::(lay).flatMap (ELay.items 164 3)):=hS3'
 refine bx rfl aW fun f w6 hS4'=>?_
 have au:SH w K MM w6 K (obj f [sv q2.Text,V6 q2.At] 172::obj i [sv q1] 9::obj g [V3 A b d,V3 a n c] 51::segTop 76 a n c lay::(lay).flatMap (ELay.items 164 3)):=hS4'
 refine nr (mv rfl (lv (rv_nilCheck rfl) (fl ff51_1 rfl tf49 m2 au rfl (lv (rv_makeFunc (vs:=[pt i,pt f]) rfl) ?_))))
 obtain⟨gs,hgs⟩: ∃gs,gs=(segTop 76 a n c lay::(lay).flatMap (ELay.items 164 3)).flatMap Item.gs:=⟨_,rfl⟩
 have s:SH w K MM w6 K ([obj i [sv q1] 9,obj f [sv q2.Text,V6 q2.At] 172]++(obj g [V3 A b d,V3 a n c] 51::segTop 76 a n c lay::(lay).flatMap (ELay.items 164 3))):=au.perm (List.Perm.swap _ _ _)
 have hnd:=s.nodup
 rw [List.flatMap_append,List.nodup_append,List.flatMap_cons] at hnd
 have hg56:i∉gs∧f∉gs:=by
  rw [hgs]
  exact⟨fun hb=>hnd.2.2 i (by simp [obj,Go.Fk.one]) i (List.mem_append_right _ hb) rfl,fun hb=>hnd.2.2 f (by simp [obj,Go.Fk.one]) f (List.mem_append_right _ hb) rfl⟩
 have hseg:=seg_lent (TE:=76) (TP:=164) (TI:=3) (gs:=gs) s (fun it hi=>List.mem_append_right _ (List.mem_cons_of_mem _ hi)) (fun it hi b hb=>by rw [hgs];exact List.mem_flatMap.2 ⟨it,hi,hb⟩) U
 have hlnd:=s.lend (Kin:=seeK K w6 gs) (see_holds s.holds) (fun it hi=>by
  rcases List.mem_cons.1 hi with rfl | hi
  ·exact obj_see (s.items _ (List.mem_cons_self ..)) hg56.1
  rcases List.mem_singleton.1 hi with rfl
  exact obj_see (s.items _ (List.mem_cons_of_mem _ (List.mem_cons_self ..))) hg56.2)
 refine lk co157 (ok_slices_IndexFunc_Entry__impl_Seg_put_1 F hlnd hseg.1 ap aq ag aM) ?_
 rintro e7 w7 ⟨K7,rfl,hS7',bz⟩
 have aX:SH w K MM w7 K ([obj i [sv q1] 9,obj f [sv q2.Text,V6 q2.At] 172]++(obj g [V3 A b d,V3 a n c] 51::segTop 76 a n c lay::(lay).flatMap (ELay.items 164 3))):=s.lent (see_le s.holds) hS7' rfl (fun it hi=>by
  rcases List.mem_cons.1 hi with rfl | hi
  ·exact obj_on (hS7'.items _ (List.mem_cons_self ..)) ((see_le s.holds).trans hS7'.le)
  rcases List.mem_singleton.1 hi with rfl
  exact obj_on (hS7'.items _ (List.mem_cons_of_mem _ (List.mem_cons_self ..))) ((see_le s.holds).trans hS7'.le))
 have aj:SH w K MM w7 K (obj f [sv q2.Text,V6 q2.At] 172::obj i [sv q1] 9::obj g [V3 A b d,V3 a n c] 51::segTop 76 a n c lay::(lay).flatMap (ELay.items 164 3)):=aX.perm (List.Perm.swap _ _ _)
 refine av rfl (nsr (mv rfl (lv (rv_lss rfl rfl) (nq (wc_cutg (fun E' w'=>∃a2 l m lay2 D,E'=[(0,pt g),(3,V6 q3),(6,pt f),(8,V6 (cond (decide (k<0)) (q0.Entries.length:Int) k))]∧SH w K MM w' D (obj f [sv q2.Text,V6 q2.At] 172::obj i [sv q1] 9::obj g [V3 A b d,V3 a2 l m] 51::segTop 76 a2 l m lay2::(lay2).flatMap (ELay.items 164 3))∧KLe K D∧LayOk lay2 es) ?_ ?_)))))
 ·refine wc_cond rfl (fun hb=>?_) (fun hb=>?_)
  ·rw [hb] at B ⊢
   simp only [cond_true] at B ⊢
   refine sr (mv rfl (lv (rv_nilCheck rfl) (fl ff51_1 rfl tf49 m2 aj rfl (lv (rv_lenRow underlying49 rfl hseg.2) (av rfl (nq ?_))))))
   have G:=aj.drew
   refine wh1 (fun w'=>Holds K w'∧HasObj i [sv q1] w'∧HasObj f [sv q2.Text,V6 q2.At] w') (fun w'=>HasObj g [V3 A b d,V3 a n c] w') 13 [(4,10),(10,13)] mixed ⟨G.hasK kr,G.hasObj m1,G.hasObj m0⟩ (fun _=>G.hasObj (.tail _ (.tail _ (.head _)))) (gt (rv_move rfl) (gt (rv_move rfl) (gt (rv_nilCheck rfl) (gt (rv_fieldAddr ff51_1 rfl) (gf (fun _ h=>rh_loadm1 tf49 rfl rfl h) (gh (fun _ h=>rh_loadm1 tf9 rfl rfl h.2.1) (gt (rv_fieldAddr ff172_0 rfl) (gh (fun _ h=>rh_loadm1 tf9 rfl rfl h.2.2) (gt (rv_build (cs:=#[sv q1,sv q2.Text,V3 none 0 0]) sp76 tf76 rfl (by kernel_rfl)) ?_)))))))))
   refine gn (wl_buildSlice (t:=tRaw 3) (n:=1) (pv:=[(0,.agg #[sv q1,sv q2.Text,V3 none 0 0])]) (cs:=[sv q1,sv q2.Text,V3 none 0 0]) (xs:=[([sv q1,sv q2.Text,V3 none 0 0]:List Value)]) wn rfl underlying49 tf76 rfl rfl rfl (by kernel_rfl) rfl rfl (lit_cons (t:=tRaw 3) (u:=.agg #[sv q1,sv q2.Text,V3 none 0 0]) (z:=([sv q1,sv q2.Text,V3 none 0 0]:List Value)) ⟨rfl,rfl,by simp [Value.oneCell',sv]⟩ lit_nil) G fun a9 w9 K9 W ay hS9'=>?_)
   obtain⟨b9,o9,rfl⟩:=raw_addr ay
   have aZ:=raw_lit ay
   have H:=hS9'.drop
   refine wl_nil (qh ⟨H.hasK W,H.hasObj m1,H.hasObj m0⟩ (fun _=>H.hasObj (.tail _ (.tail _ (.head _)))) ?_)
   unfold catL at B
   split at B
   case isFalse=>cases B
   rename_i hbd
   cases B
   have hnl:n=q0.Entries.length:=hseg.2
   have hS9t:SH w K MM w9 K9 (rowI (V3 a n c) (lay.flatMap ELay.cells) 76 3::(obj f [sv q2.Text,V6 q2.At] 172::obj i [sv q1] 9::obj g [V3 A b d,V3 a n c] 51::(lay).flatMap (ELay.items 164 3))):=H.perm (List.perm_middle (l₁:=[_,_,_])).symm
   refine gn ?_
   have hcl9:(lay.flatMap ELay.cells).length=n*3:=by rw [sg_cells3,←sg_top_len hS9t (List.mem_cons_self ..)]
   refine wl_appendI wn rfl underlying49 tf76 rfl rfl rfl (by decide) rfl aZ (by simp [Value.oneCell',sv]) hcl9 (by simp at hbd;omega) (by simp at hbd;omega) hS9t fun X Y bD I=>(wl_nil (qh ⟨I.hasK W,I.hasObj m2,I.hasObj m1⟩ (fun _=>I.hasObj (.tail _ (.tail _ (.tail _ (.head _))))) (gt (rv_nilCheck rfl) (gt (rv_fieldAddr ff51_1 rfl) (gn (ls [V3 A b d,V3 (some ⟨X,0,none⟩) (n+1) Y] (V3 (some ⟨X,0,none⟩) (n+1) Y) tf49 I.f3 fun ba aa=>(wl_nil (qh ⟨aa.hasK W,aa.hasObj m3,aa.hasObj m2⟩ (fun h=>nomatch h) (gd' ?_)))))))))
   have bb:=SH.rowNil aa 164 2
   have bc:SH w K MM ba K9 (obj f [sv q2.Text,V6 q2.At] 172::obj i [sv q1] 9::obj g [V3 A b d,V3 (some ⟨X,0,none⟩) (n+1) Y] 51::segTop 76 (some ⟨X,0,none⟩) (n+1) Y (lay++[ELay.mk q1 q2.Text [] none 0 0])::((lay++[ELay.mk q1 q2.Text [] none 0 0])).flatMap (ELay.items 164 3)):=by
    have e1:(lay++[ELay.mk q1 q2.Text [] none 0 0]).flatMap ELay.cells=lay.flatMap ELay.cells++[sv q1,sv q2.Text,V3 none 0 0]:=by rw [List.flatMap_append];rfl
    have e2:((lay++[ELay.mk q1 q2.Text [] none 0 0])).flatMap (ELay.items 164 3)=(lay).flatMap (ELay.items 164 3)++[rowI (V3 none 0 0) [] 164 2]:=by rw [List.flatMap_append];rfl
    unfold segTop
    rw [e1,e2]
    exact bb.perm ((show List.Perm ((_::_::_::_::(lay).flatMap (ELay.items 164 3))++[_]) _ from List.perm_append_singleton _ _).trans (.cons _ (List.Perm.append_right ((lay).flatMap (ELay.items 164 3)) (List.perm_append_comm (l₁:=[_,_]) (l₂:=[_,_])))))
   refine qe_mid' ⟨_,_,_,_,K9,rfl,bc,W,fun x hx=>?_,?_⟩ ⟨rfl,rfl,rfl,rfl,trivial⟩
   ·rcases List.mem_append.1 hx with hx | hx
    ·exact U.1 x hx
    rcases List.mem_singleton.1 hx with rfl
    exact⟨ap,aq,by simp⟩
   rw [List.map_append,U.2];rfl
  rw [hb] at B ⊢
  simp only [cond_false] at B ⊢
  cases oi B
  exact wc_skip (qd ⟨a,n,c,lay,K,rfl,aj,.refl _,U⟩)
 rintro _ az ⟨a2,l,m,lay2,D,rfl,am,aA,hlay2⟩
 generalize hkk:(cond (decide (k<0)) (q0.Entries.length:Int) k)=kk at *
 obtain⟨hok2,hes⟩:=hlay2
 obtain⟨el,aB,hel⟩:=sg_getI_map (hes▸ar:getI (lay2.map ELay.x) kk=some en)
 obtain⟨pre,post,hsplit,hpre,bE⟩:=sg_split aB
 have hn2:=sg_top_len am m3
 have hn2e:l=es.length:=by rw [←hes,List.length_map];exact hn2
 obtain⟨gE,rfl⟩:=SH.rowI_at am m3 hn2 aB
 obtain⟨R,hR⟩: ∃R,R=((pre).flatMap (ELay.items 164 3)++(post).flatMap (ELay.items 164 3)):=⟨_,rfl⟩
 have y:SH w K MM az D (obj f [sv q2.Text,V6 q2.At] 172::obj i [sv q1] 9::obj g [V3 A b d,V3 (some ⟨gE,0,none⟩) l m] 51::segTop 76 (some ⟨gE,0,none⟩) l m (pre++el::post)::ELay.row 164 el::(el.posts.map (PLay.item 3)++R)):=by
  rw [hR]
  have J:=am
  rw [hsplit] at J
  exact J.perm ((List.Perm.append_left [_,_,_] (seg_focus (TE:=76) (TP:=164) (TI:=3))).symm)
 have helok:el.ok:=hok2 el (by rw [hsplit];simp)
 have hnP:el.n=el.posts.length:=sg_row_len y m4
 have hhead:=sg_head_at (pre:=pre) (post:=post) (e:=el) (o:=kk.toNat*3+2) (by rw [hpre])
 have hpl:el.posts.length≤maxLen:=rowI_max y m4 hnP
 have henp:en.Posts=el.posts.map PLay.x:=by rw [←hel];rfl
 refine qr (mv rfl (lv (rv_nilCheck rfl) (fl ff51_1 rfl tf49 m2 y rfl (mv rfl (lv (rv_indexI (t:=tGEntry) underlying49 tf76 rfl rfl rfl hn2e ar) (av rfl (nr (mv rfl (lv (rv_nilCheck rfl) ?_)))))))))
 refine fa ff76_2 rfl (lv (rh_loadI1 tf74 rfl rfl hhead rfl (y.hasRow (.tail _ (.tail _ (.tail _ (.head _)))))) (lv (rv_lenRow underlying74 rfl hnP) (lv (rv_sub rfl rfl) (av rfl (ns (wc_seq (wc_cutg (fun E' w'=>E'=[(3,V6 q3),(6,pt f),(9,.pointer (some ⟨gE,kk.toNat*tGEntry.size,none⟩)),(10,V6 (w64 ((el.posts.length:Int)-1))),(62,.bool (needPost en.Posts q3))]∧w'=az) ?_ ?_)))))))
 ·refine wc_region (mv rfl (lv (rv_lss rfl rfl) (mv rfl ?_)))
  rcases List.eq_nil_or_concat el.posts with hnil | ⟨ps0,p0,hcat⟩
  ·have hb:decide (w64 ((el.posts.length:Int)-1)<0)=true:=by rw [sg_pred hpl,hnil];rfl
   have hnp:needPost en.Posts q3=true:=by rw [henp,hnil];rfl
   rw [hnp]
   iterate 10 refine lu hb ?_
   refine lv (p_t rfl hb rfl) (wl_nil ?_)
   exact qd ⟨rfl,rfl⟩
  rw [List.concat_eq_append] at hcat
  have hlp:el.posts.length=ps0.length+1:=by rw [hcat];simp
  have hw:w64 ((el.posts.length:Int)-1)=(ps0.length:Int):=by rw [sg_pred hpl,hlp];omega
  have hb:decide (w64 ((el.posts.length:Int)-1)<0)=false:=by rw [hw];exact decide_eq_false (by omega)
  have hnp:needPost en.Posts q3= !(p0.doc==q3):=by rw [henp,hcat,List.map_append];simp [needPost,PLay.x]
  rw [hnp]
  have hzp:getI en.Posts (w64 ((el.posts.length:Int)-1))=some p0.x:=by rw [henp,hcat,List.map_append];exact sg_last (by rw [←hcat,hw];simp)
  have hnPe:el.n=en.Posts.length:=by rw [henp,List.length_map];exact hnP
  obtain⟨gP,hgP⟩:=SH.rowI_at y m4 hnPe hzp
  have hdoc:(el.posts.flatMap PLay.cells)[(w64 ((el.posts.length:Int)-1)).toNat*2+0]? =some (V6 p0.doc):=by rw [hcat];exact sg_post_at (k:=0) (by rw [←hcat,hw];simp)
  refine lg hb (rv_move rfl) (lg hb (rv_nilCheck rfl) (lg hb (rv_fieldAddr ff76_2 rfl) (lg hb (rh_loadI1 tf74 rfl rfl hhead rfl (y.hasRow (.tail _ (.tail _ (.tail _ (.head _)))))) (lg hb (rv_move rfl) (lg hb (rv_indexI (t:=tGPost) underlying74 tf164 rfl rfl hgP hnPe hzp) (lg hb (rv_fieldAddr ff164_0 rfl) (lg hb (rh_loadI1 tf3 rfl rfl hdoc hgP (y.hasRow (.tail _ (.tail _ (.tail _ (.tail _ (.head _))))))) (lg hb (rv_move rfl) (lg hb (rv_neq rfl rfl) ?_)))))))))
  refine lv (rv_pick_f rfl hb rfl) (wl_nil ?_)
  exact qd ⟨rfl,rfl⟩
 rintro _ _ ⟨rfl,rfl⟩
 refine qe_seq (wc_cutg (fun E' w'=>∃el2 ps0 pl K3,E'=[(6,pt f),(9,.pointer (some ⟨gE,kk.toNat*tGEntry.size,none⟩)),(10,V6 (ps0.length:Int))]∧SH w K MM w' K3 (obj f [sv q2.Text,V6 q2.At] 172::obj i [sv q1] 9::obj g [V3 A b d,V3 (some ⟨gE,0,none⟩) l m] 51::segTop 76 (some ⟨gE,0,none⟩) l m (pre++el2::post)::ELay.row 164 el2::(pl.item 3::(ps0.map (PLay.item 3)++R)))∧KLe K K3∧el2.ok∧el2.field=el.field∧el2.term=el.term∧el2.posts=ps0++[pl]∧ps=el2.posts.map PLay.x) ?_ ?_)
 ·refine wc_cond rfl (fun hb=>?_) (fun hb=>?_)
  ·rw [hb] at C
   simp only [cond_true] at C
   refine sr (mv rfl (mv rfl (lv (rv_nilCheck rfl) (fa ff76_2 rfl (lv (rh_loadI1 tf74 rfl rfl hhead rfl (y.hasRow (.tail _ (.tail _ (.tail _ (.head _)))))) (mv rfl (lv (rv_build (cs:=#[V6 q3,V3 none 0 0]) sp164 tf164 rfl (by kernel_rfl)) (wl_buildSlice (t:=tRaw 2) (n:=1) (pv:=[(0,.agg #[V6 q3,V3 none 0 0])]) (cs:=[V6 q3,V3 none 0 0]) (xs:=[([V6 q3,V3 none 0 0]:List Value)]) wn rfl underlying74 tf164 rfl rfl rfl (by kernel_rfl) rfl rfl (lit_cons (t:=tRaw 2) (u:=.agg #[V6 q3,V3 none 0 0]) (z:=([V6 q3,V3 none 0 0]:List Value)) ⟨rfl,rfl,by simp [Value.oneCell']⟩ lit_nil) y fun bF bG aC bd aD hS22'=>?_))))))))
   obtain⟨bH,bI,rfl⟩:=raw_addr aD
   have be:=raw_lit aD
   have bf:=hS22'.drop
   unfold catL at C
   split at C
   case isFalse=>cases C
   rename_i hbd
   cases C
   have hbd2:(el.n+1)*32≤140737488355328:=by rw [henp] at hbd;simp at hbd;rw [hnP];exact hbd
   refine wl_appendI wn rfl underlying74 tf164 rfl rfl rfl (by decide) rfl be (by simp [Value.oneCell']) (by rw [sg_cells2,hnP]) (by omega) hbd2 bf.f4 fun aE c24 bJ bg=>(lv (rv_nilCheck rfl) (fa ff76_2 rfl (wl_storeC wn tf74 rfl rfl rfl bg.f4 (by have:=(List.getElem?_eq_some_iff.1 hhead).1;exact this) ?_)))
   intro bh bi
   refine nq (wc_region (mv rfl (lv (rv_add rfl rfl) (lv (rv_as rfl (congrArg (Value.int .i64) (sg_back hpl))) (wl_nil ?_)))))
   obtain⟨el2,hel2⟩: ∃el2:ELay,el2=⟨el.field,el.term,el.posts++[⟨q3,[],none,0,0⟩],some ⟨aE,0,none⟩,el.n+1,c24⟩:=⟨_,rfl⟩
   have hset:=sg_head_set (pre:=pre) (post:=post) (e:=el) (e':=el2) (o:=kk.toNat*3+2) (by rw [hpre]) (by rw [hel2]) (by rw [hel2])
   have bj:SH w K MM bh aC (rowI (V3 (some ⟨gE,0,none⟩) l m) ((pre++el2::post).flatMap ELay.cells) 76 3::ELay.row 164 el2::obj f [sv q2.Text,V6 q2.At] 172::obj i [sv q1] 9::obj g [V3 A b d,V3 (some ⟨gE,0,none⟩) l m] 51::(el.posts.map (PLay.item 3)++R)):=by
    have e1:el2.posts.flatMap PLay.cells=el.posts.flatMap PLay.cells++[V6 q3,V3 none 0 0]:=by rw [hel2,List.flatMap_append];rfl
    have e2:el2.a=some ⟨aE,0,none⟩:=by rw [hel2]
    have e3:el2.n=el.n+1:=by rw [hel2]
    have e4:el2.c=c24:=by rw [hel2]
    rw [←hset]
    unfold ELay.row
    rw [e1,e2,e3,e4]
    exact bi
   have bk:=SH.rowNil bj 3 1
   refine qe_mid' ⟨el2,el.posts,⟨q3,[],none,0,0⟩,aC,rfl,bk.perm ?_,aA.trans bd,?_,by rw [hel2],by rw [hel2],by rw [hel2],?_⟩ ⟨rfl,rfl,rfl,trivial⟩
   ·exact(List.Perm.append_left [_,_,_,_,_] (List.Perm.refl _)).trans ((List.perm_middle (l₁:=[_,_,_,_,_])).trans (.cons _ (List.Perm.append_right _ (List.perm_append_comm (l₁:=[_,_,_]) (l₂:=[_,_])))))
   ·rw [hel2]
    refine⟨helok.1,helok.2.1,fun q hq=>?_⟩
    rcases List.mem_append.1 hq with hq | hq
    ·exact helok.2.2 q hq
    rcases List.mem_singleton.1 hq with rfl
    exact⟨aL,by simp⟩
   rw [hel2,henp,List.map_append];rfl
  rw [hb] at C
  simp only [cond_false] at C
  cases oi C
  refine wc_skip ?_
  rcases List.eq_nil_or_concat el.posts with hnil | ⟨ps0,p0,hcat⟩
  ·rw [henp,hnil] at hb;cases hb
  rw [List.concat_eq_append] at hcat
  have hlp:el.posts.length=ps0.length+1:=by rw [hcat];simp
  have hw:w64 ((el.posts.length:Int)-1)=(ps0.length:Int):=by rw [sg_pred hpl,hlp];omega
  rw [hw]
  refine qe_mid' ⟨el,ps0,p0,D,rfl,?_,aA,helok,rfl,rfl,hcat,henp⟩ ⟨rfl,rfl,rfl,trivial⟩
  have J:=y
  rw [hcat] at J
  exact J.perm (List.Perm.append_left [_,_,_,_,_] (post_focus (TI:=3)).symm)
 rintro _ bK ⟨el2,ps0,pl,K3,rfl,ac,bl,hel2ok,hf2,ht2,hcat2,hps⟩
 refine qe_seq ?_
 have hpx:p=pl.x:=by rw [hps,hcat2,List.map_append] at ah;simp at ah;exact ah.symm
 have hn30:el2.n=el2.posts.length:=sg_row_len ac m4
 have bm:getI el2.posts (ps0.length:Int)=some pl:=by rw [hcat2];exact sg_last rfl
 obtain⟨gP,hgP⟩:=SH.rowI_at ac m4 hn30 bm
 have hpn:pl.n=pl.at_.length:=sg_item_len ac m5
 have hhead2:=sg_head_at (pre:=pre) (post:=post) (e:=el2) (o:=kk.toNat*3+2) (by rw [hpre])
 have aF:getI (el2.posts.map PLay.x) (ps0.length:Int)=some pl.x:=by rw [hcat2,List.map_append];exact sg_last (by simp)
 have hn31:el2.n=(el2.posts.map PLay.x).length:=by rw [List.length_map];exact hn30
 have hat:(el2.posts.flatMap PLay.cells)[(ps0.length:Int).toNat*2+1]? =some (V3 pl.a pl.n pl.c):=by rw [hcat2];exact sg_post_at (k:=1) (by simp)
 have O:=ac.drew
 refine wh1 (fun w'=>Holds K3 w'∧HasRow (some ⟨gE,0,none⟩) ((pre++el2::post).flatMap ELay.cells) w'∧HasObj f [sv q2.Text,V6 q2.At] w') (fun w'=>HasRow el2.a (el2.posts.flatMap PLay.cells) w') 19 [(12,16),(16,19)] mixed ⟨O.hasK kr,O.hasRow m3,O.hasObj m0⟩ (fun _=>O.hasRow (.tail _ (.tail _ (.tail _ (.tail _ (.head _)))))) (gt (rv_move rfl) (gt (rv_nilCheck rfl) (gt (rv_fieldAddr ff76_2 rfl) (gh (fun _ h=>rh_loadI1 tf74 rfl rfl hhead2 rfl h.2.1) (gt (rv_move rfl) (gt (rv_move rfl) (gt (rv_nilCheck rfl) (gt (rv_fieldAddr ff76_2 rfl) (gh (fun _ h=>rh_loadI1 tf74 rfl rfl hhead2 rfl h.2.1) ?_)))))))))
 refine gt (rv_move rfl) (gt (rv_indexI (t:=tGPost) underlying74 tf164 rfl rfl hgP hn31 aF) (gt (rv_fieldAddr ff164_1 rfl) (gf (fun _ h=>rh_loadI1 tf63 rfl rfl hat hgP h) (gt (rv_fieldAddr ff172_1 rfl) (gh (fun _ h=>rh_loadm1 tf3 rfl rfl h.2.2) (gn (lb tInt (V6 q2.At) [V6 q2.At] q2.At underlying63 tf3 ⟨rfl,ag⟩ O fun bL bM ad ae aG hS35'=>?_)))))))
 obtain⟨bN,bO,rfl⟩:=sg_addr aG
 have bn:=int_lit aG
 have S:=hS35'.drop
 refine wl_nil (qh ⟨S.hasK ae,S.hasRow m3,S.hasObj m0⟩ (fun _=>S.hasRow (.tail _ (.tail _ (.tail _ (.tail _ (.head _)))))) (gn ?_))
 unfold catL at V
 split at V
 case isFalse=>cases V
 rename_i hbd
 cases V
 have hbd2:(pl.n+1)*8≤140737488355328:=by rw [hpx] at hbd;simp [PLay.x] at hbd;rw [hpn];exact hbd
 refine wl_appendI wn rfl underlying63 tf3 rfl rfl rfl (by decide) rfl bn (by simp [Value.oneCell']) (by rw [List.length_map,hpn,Nat.mul_one]) (by omega) hbd2 S.f5 fun aH c37 bP T=>(wl_nil (qh ⟨T.hasK ae,T.hasRow m4,T.hasObj m1⟩ (fun _=>T.hasRow (.tail _ (.tail _ (.tail _ (.tail _ (.tail _ (.head _))))))) (gt (rv_indexI (t:=tGPost) underlying74 tf164 rfl rfl hgP hn31 aF) (gt (rv_fieldAddr ff164_1 rfl) (gn ?_)))))
 obtain⟨fl2,tm2,po2,a2',m2',c2'⟩:=el2
 simp only at hgP hat hcat2 hf2 ht2 hn30
 subst hgP
 refine wl_storeC wn tf63 rfl rfl rfl T.f5 (by have:=(List.getElem?_eq_some_iff.1 hat).1;exact this) ?_
 intro ao af
 refine wl_nil (qh ⟨af.hasK ae,af.hasRow m5,af.hasObj m2⟩ (fun h=>nomatch h) (gd' ?_))
 subst hR
 subst hcat2
 obtain⟨pl2,hpl2⟩: ∃pl2:PLay,pl2=⟨pl.doc,pl.at_++[q2.At],some ⟨aH,0,none⟩,pl.n+1,c37⟩:=⟨_,rfl⟩
 obtain⟨el3,hel3⟩: ∃el3:ELay,el3=⟨fl2,tm2,ps0++[pl2],some ⟨gP,0,none⟩,m2',c2'⟩:=⟨_,rfl⟩
 have bo:SH w K MM ao ad (ELay.row 164 el3::pl2.item 3::obj f [sv q2.Text,V6 q2.At] 172::obj i [sv q1] 9::obj g [V3 A b d,V3 (some ⟨gE,0,none⟩) l m] 51::segTop 76 (some ⟨gE,0,none⟩) l m (pre++el3::post)::(ps0.map (PLay.item 3)++((pre).flatMap (ELay.items 164 3)++(post).flatMap (ELay.items 164 3)))):=by
  have e1:=sg_post_set (ps:=ps0) (p:=pl) (p':=pl2) (o:=(ps0.length:Int).toNat*2+1) (by simp) (by rw [hpl2])
  have e2:pl2.a=some ⟨aH,0,none⟩:=by rw [hpl2]
  have e3:pl2.n=pl.n+1:=by rw [hpl2]
  have e4:pl2.c=c37:=by rw [hpl2]
  have e5:pl2.at_.map intC=pl.at_.map intC++[V6 q2.At]:=by rw [hpl2,List.map_append];rfl
  have e6:(pre++el3::post).flatMap ELay.cells=(pre++⟨fl2,tm2,ps0++[pl],some ⟨gP,0,none⟩,m2',c2'⟩::post).flatMap ELay.cells:=by rw [hel3,List.flatMap_append,List.flatMap_append,List.flatMap_cons,List.flatMap_cons];rfl
  have e7:ELay.row 164 el3=rowI (V3 (some ⟨gP,0,none⟩) m2' c2') ((ps0++[pl2]).flatMap PLay.cells) 164 2:=by rw [hel3];rfl
  rw [e7,←e1]
  unfold segTop
  rw [e6]
  show SH w K MM ao ad (_::rowI (V3 pl2.a pl2.n pl2.c) (pl2.at_.map intC) 3 1::_)
  rw [e2,e3,e4,e5]
  exact af
 have br:=bo.sublist (.cons_cons _ (.cons_cons _ (.cons _ (.cons _ (List.Sublist.refl _)))))
 have hpo3:el3.posts=ps0++[pl2]:=by rw [hel3]
 have bs:SH w K MM ao ad (segItems 76 164 3 (some ⟨gE,0,none⟩) l m (pre++el3::post)++[obj g [V3 A b d,V3 (some ⟨gE,0,none⟩) l m] 51]):=by
  refine br.perm ((List.perm_append_singleton _ _).trans ((List.Perm.cons _ (seg_focus (TE:=76) (TP:=164) (TI:=3))).trans ?_))
  rw [hpo3]
  exact(List.Perm.append_left [_,_,_] (post_focus (TI:=3))).trans (List.Perm.append_right _ (List.perm_append_comm (l₁:=[_,_]) (l₂:=[_,_])))
 have bu:=bs.packUp.perm (List.Perm.swap _ _ _)
 refine qe_ret_normal (qe_ret (vs:=[]) results117 trivial ⟨A,b,d,some ⟨gE,0,none⟩,l,m,pre++el3::post,ad,rfl,bu,aK.mono (bl.trans ae),?_,?_⟩)
 ·intro x hx
  rw [hsplit] at hok2
  rcases List.mem_append.1 hx with hx | hx
  ·exact hok2 x (List.mem_append_left _ hx)
  rcases List.mem_cons.1 hx with rfl | hx
  ·rw [hel3,hpl2]
   refine⟨hel2ok.1,hel2ok.2.1,fun q hq=>?_⟩
   rcases List.mem_append.1 hq with hq | hq
   ·exact hel2ok.2.2 q (List.mem_append_left _ hq)
   rcases List.mem_singleton.1 hq with rfl
   have h8:=hel2ok.2.2 pl (List.mem_append_right _ (List.mem_singleton.2 rfl))
   refine⟨h8.1,fun z hz=>?_⟩
   rcases List.mem_append.1 hz with hz | hz
   ·exact h8.2 z hz
   rcases List.mem_singleton.1 hz with rfl
   exact ag
  exact hok2 x (List.mem_append_right _ (List.mem_cons_of_mem _ hx))
 show _=es.set kk.toNat _
 rw [←hes,hsplit,List.map_append,List.map_cons,List.map_append,List.map_cons,List.set_append_right _ _ (by rw [List.length_map,hpre];exact Nat.le_refl _),List.length_map,hpre,Nat.sub_self,List.set_cons_zero]
 have e1:el3.x=GEntry.mk en.Field en.Term (ps.dropLast++[GPost.mk p.Doc (p.At++[q2.At])]):=by
  rw [hel3,hps,hpx,hpl2,←hel]
  simp [ELay.x,PLay.x,hf2,ht2]
 rw [e1]

theorem ok_cmp_Or_int {q0:List Int}{r:Int}(hS:SH w K [] w K [])(k:SliceAt tInt K A a b q0)(hm:M.cmp_Or_int F q0=some r):
  Calls prog 120 #[V3 A a b] w (R_i w K r):=by
 rw [M.cmp_Or_int] at hm
 refine ci func120 u ntmps120 (sr (lv (r_0 u) (nr (lv (r_0 u) (nsr (mv u (lv (rv_len underlying63 u k) (lv (r_m u) (nq ?_)))))))))
 obtain⟨s,x,d⟩:=ob hm
 refine wc_cutg (IE s w K [] K [(3,V6 0)] []) ?_ ?_
 ·refine wc_block ?_
  obtain⟨aa,y,m⟩:=ob x
  refine qf (fun (o:Nat) (q:Unit)=>IV w K [] K [(3,V6 0),(6,V3 A a b),(7,V6 (q0.length:Int)),(8,V6 ((o:Nat):Int))] []) y ⟨K,u,hS,kr⟩ ?_ ?_
  ·rintro o q _ B ab hi23 C D ⟨f,rfl,c,i⟩
   refine sr (lv (rv_lss u u) (ns (wc_cond_t u (decide_eq_true (by omega)) (wc_skip (qe_seq (wc_seq (wc_block (sr ?_))))))))
   obtain⟨G,H,I⟩:=ob C
   refine li underlying63 tf3 (k.mono i) H fun J O ac R S=>?_
   obtain⟨rfl,T⟩:=R
   have U:AtK _ J O [V6 G]:=S
   refine lv (rv_load1 tf3 u c (U 0 _ u)) (av u (nr (mv u (mv u (lv (rv_neq u u) (nq (wcc I u (fun V l=>?_) (fun V l=>?_))))))))
   ·refine sr (mv u (av u (nq (wc_ret (qe_block_ret (qe_then_ret (qe_then_ret ?_)))))))
    cases oi l
    cases D _ u
    refine qe_block_ret (qe_then_ret ?_)
    cases oi m
    refine qe_then_ret ?_
    cases oi d
    exact ey results120 ⟨f,u,c,T⟩
   refine wc_skip (qe_block (qg (lv (rv_add_to u u (w64_succ hi23 (SliceAt.max k))) (mv u (wl_nil ?_)))))
   cases oi l
   exact qd ⟨_,u,f,u,c,i⟩
  rintro q _ B W ⟨f,rfl,c,i⟩
  subst W
  refine sr (lv (rv_lss u u) (ns (wc_cond_f u (decide_eq_false (by omega)) (wc_exit (qe_then_exit (qe_then_exit (qe_block_eq ?_)))))))
  cases oi m
  exact qd ⟨_,f,u,u,c,i⟩
 rintro _ ad ⟨s8,X,rfl,rfl,Y,af⟩
 have d:=elim_l d
 refine qr (mv u (av u (nq (wc_ret ?_))))
 cases oi d
 exact ey results120 ⟨X,u,Y,d_0⟩

theorem ok_cmp_isNaN_string {q0:Str}{r:Bool}(hS:SH w K [] w K [])(a:q0.length≤maxLen)(hm:M.cmp_isNaN_string F q0=some r):
  Calls prog 160 #[sv q0] w (R_b w K r):=by
 rw [M.cmp_isNaN_string] at hm
 refine ci func160 u ntmps160 (sr (lv (r_f u) (nr (mv u (mv u (lv (rv_sneq u u) (av u (nq (wc_ret ?_)))))))))
 cases oi hm
 exact ey results160 ⟨K,u,hS⟩

theorem ok_cmp_Compare_string {q0:Str}{q1:Str}{r:Int}(hS:SH w K [] w K [])(m:q0.length≤maxLen)(o:q1.length≤maxLen)(hm:M.cmp_Compare_string F q0 q1=some r):
  Calls prog 121 #[sv q0,sv q1] w (R_i w K r):=by
 rw [M.cmp_Compare_string] at hm
 refine ci func121 u ntmps121 (sr (lv (r_0 u) (nr (mv u ?_))))
 obtain⟨J,q,s⟩:=ob hm
 refine lk co160 (ok_cmp_isNaN_string F hS.enter0 m q) ?_
 rintro O R ⟨S,rfl,x⟩
 have l:=(hS.c0 x).t0
 refine av u (nr (mv u ?_))
 obtain⟨T,y,A⟩:=ob s
 refine lk co160 (ok_cmp_isNaN_string F l.enter0 o y) ?_
 rintro U V ⟨a,rfl,B⟩
 have b:=(l.c0 B).t0
 refine av u (nsr (mv u (nq (wcc A u (fun C c=>?_) (fun C c=>?_)))))
 ·refine wc_seq (sr (mv u (nq (wcc c u (fun D d=>?_) (fun D d=>?_)))))
  ·refine sr (lv (r_0 u) (nq (rr (qe_then_ret ?_))))
   cases oi d
   exact ey results121 ⟨a,u,b,d_0⟩
  refine wc_skip (qr (lv (rv_assign (v:=V6 (-1)) u) (nq (rr ?_))))
  cases oi d
  exact ey results121 ⟨a,u,b,(by decide :rng64 (-1))⟩
 refine wc_skip (qs (sr (mv u (nq (wcc c u (fun G f=>?_) (fun G f=>?_))))))
 ·refine sr (lv (rv_assign (v:=V6 1) u) (nq (rr ?_)))
  cases oi f
  exact ey results121 ⟨a,u,b,(by decide :rng64 1)⟩
 refine wc_skip (qs (sr (mv u (mv u (lv (rv_slss u u) (nq (wcc f u (fun H i=>?_) (fun H i=>?_))))))))
 ·refine sr (lv (rv_assign (v:=V6 (-1)) u) (nq (rr ?_)))
  cases oi i
  exact ey results121 ⟨a,u,b,(by decide :rng64 (-1))⟩
 refine wc_skip (qs (sr (mv u (mv u (lv (rv_sgtr u u) (nq (wcc i u (fun I k=>?_) (fun I k=>?_))))))))
 ·refine sr (lv (rv_assign (v:=V6 1) u) (nq (rr ?_)))
  cases oi k
  exact ey results121 ⟨a,u,b,(by decide :rng64 1)⟩
 refine wc_skip (qr (lv (r_0 u) (nq (wc_ret ?_))))
 cases oi k
 exact ey results121 ⟨a,u,b,d_0⟩

theorem ok_impl_SegOf_1 {q0:GEntry}{q1:GEntry}{r:Int}(hS:SH w K [] w K [])(H:q0.Field.length≤maxLen)(I:q0.Term.length≤maxLen)(ah:SliceAt tGPost K A a b q0.Posts)(J:q1.Field.length≤maxLen)(O:q1.Term.length≤maxLen)(ai:SliceAt tGPost K B c d q1.Posts)(hm:M.impl_SegOf_1 F q0 q1=some r):
  Calls prog 119 #[.agg #[sv q0.Field,sv q0.Term,V3 A a b],.agg #[sv q1.Field,sv q1.Term,V3 B c d]] w (R_i w K r):=by
 rw [M.impl_SegOf_1] at hm
 refine ci func119 rfl ntmps119 (sr (bx rfl hS fun y aj R=>?_))
 have S:SH _ _ _ _ _ [obj y [sv q0.Field,sv q0.Term,V3 A a b] 76]:=R
 refine bx rfl S fun C ak T=>?_
 have U:SH _ _ _ _ _ [obj C [sv q1.Field,sv q1.Term,V3 B c d] 76,_]:=T
 refine lv (r_0 rfl) (ns ?_)
 have f:=U.drew
 refine j_0 (fun w'=>Holds K w'∧HasObj y [sv q0.Field,sv q0.Term,V3 A a b] w'∧HasObj C [sv q1.Field,sv q1.Term,V3 B c d] w') 13 [] mixed ⟨f.hasK kr,f.hasObj m1,f.hasObj m0⟩ (jv 0 rfl (rv_fieldAddr ff76_0 rfl) (jh 1 rfl (fun _ h=>rh_loadm1 tf9 rfl rfl h.2.1) (jv 2 rfl (rv_fieldAddr ff76_0 rfl) (jh 3 rfl (fun _ h=>rh_loadm1 tf9 rfl rfl h.2.2) (jv 5 rfl (rv_fieldAddr ff76_1 rfl) (jh 6 rfl (fun _ h=>rh_loadm1 tf9 rfl rfl h.2.1) (jv 7 rfl (rv_fieldAddr ff76_1 rfl) (jh 8 rfl (fun _ h=>rh_loadm1 tf9 rfl rfl h.2.2) (j1 4 rfl ?_)))))))))
 obtain⟨i,V,W⟩:=ob hm
 refine lk co121 (ok_cmp_Compare_string F f.enter0 H J V) ?_
 rintro al am ⟨an,rfl,k,X⟩
 have l:=(f.c0 k).t2
 refine j_o ⟨l.hasK k.le,l.hasObj m1,l.hasObj m0⟩ (j1 9 rfl ?_)
 obtain⟨m,Y,aa⟩:=ob W
 refine lk co121 (ok_cmp_Compare_string F l.enter0 I O Y) ?_
 rintro ao ap ⟨aq,rfl,q,ab⟩
 have s:=(l.c0 q).t2
 refine j_o ⟨s.hasK (k.le.trans q.le),s.hasObj m1,s.hasObj m0⟩ (j1 10 rfl (wl_buildSlice (t:=tInt) (n:=2) (pv:=[(0,V6 i),(1,V6 m)]) (cs:=[V6 i,V6 m]) (xs:=[i,m]) wn rfl underlying63 tf3 rfl rfl rfl (by kernel_rfl) rfl rfl (lit_cons (u:=V6 i) (z:=i) ⟨rfl,X⟩ (lit_cons (u:=V6 m) (z:=m) ⟨rfl,ab⟩ lit_nil)) s fun ar au aw D ac o=>(j_o ⟨o.hasK ((k.le.trans q.le).trans D),o.hasObj m2,o.hasObj m1⟩ (j1 11 rfl ?_))))
 obtain⟨ax,ad,ae⟩:=ob aa
 refine lk co120 (ok_cmp_Or_int F o.enter0 ac ad) ?_
 rintro ay az ⟨af,rfl,G,ag⟩
 have x:=(o.c0 G).t3
 refine j_o ⟨x.hasK (((k.le.trans q.le).trans D).trans G.le),x.hasObj m2,x.hasObj m1⟩ (jv 12 rfl (rv_assign rfl) (jd (qe_seq (wc_ret ?_))))
 cases oi ae
 exact ey results119 ⟨af,rfl,x.s,ag⟩

theorem ok_impl_SegOf {q0:GConf}{q1:List GDoc}{r:GSeg}(hS:SH w K [] w K [])(bH:SliceAt tStr K A a b q0.Stops)(bI:SliceAt tGSyn K B c d q0.Syns)(ay:SliceAt tGDoc K C f i q1)(hm:M.impl_SegOf F q0 q1=some r):
  Calls prog 78 #[.agg #[V3 A a b,V3 B c d],V3 C f i] w fun e w'=>∃a_1 n_2 c_3 a_5 n_6 c_7 K',e= .returned (.agg #[V3 a_1 n_2 c_3,V3 a_5 n_6 c_7])∧SH w K [] w' K' [tail (V3 a_5 n_6 c_7) 76 3]∧SliceAt tGDoc K' a_1 n_2 c_3 r.Docs∧SliceAt tGEntry K' a_5 n_6 c_7 r.Entries:=by
 rw [M.impl_SegOf] at hm
 refine ci func78 rfl ntmps78 (sr (bx rfl hS fun l eA bV=>?_))
 have bW:SH _ _ _ _ _ [obj l [V3 A a b,V3 B c d] 33]:=bV
 refine al tf51 bW fun k eB bX=>?_
 have bi:SH _ _ _ _ _ [obj k [V3 none 0 0,V3 none 0 0] 51,_]:=bX
 refine ns (wc_seq ?_)
 obtain⟨bY,bZ,ca⟩:=ob hm
 refine wc_cutg (IV w K [] K [(1,V3 C f i),(2,pt l),(4,pt k),(19,.bool bY)] [obj l [V3 A a b,V3 B c d] 33,obj k [V3 none 0 0,V3 none 0 0] 51]) ?_ ?_
 ·refine wc_region (lv (rv_loadmS (ds:=[V3 A a b,V3 B c d]) tf33 rfl m1 bi rfl rfl) ?_)
  obtain⟨eC,cb,cc⟩:=ob bZ
  refine lk co26 (ok_impl_ConfOk F bi.enter0 bH bI cb) ?_
  rintro eD eE ⟨cd,rfl,aK⟩
  have bj:=(bi.c0 aK).t2
  refine lv (rv_not rfl) (mv rfl (bt cc (fun o bk=>?_) (fun o bk=>?_)))
  ·refine lu o (lu o (lu o (lv (p_t rfl o rfl) (wl_nil ?_))))
   cases oi bk
   exact qd ⟨cd,rfl,bj.f1,aK.le⟩
  refine lg o (rv_move rfl) ?_
  obtain⟨eF,ce,cf⟩:=ob bk
  refine wl_call (wg rfl rfl o) rfl (rt_call (vs:=[V3 C f i]) co28 rfl) (ok_impl_DocsOk F bj.enter0 (ay.mono aK.le) ce) ?_
  rintro eG eH ⟨cg,rfl,bJ⟩
  refine⟨_,rfl,?_⟩
  have ch:=(bj.c0 bJ).t2
  refine lg o (rv_not rfl) (lv (rv_pick_f rfl o rfl) (wl_nil ?_))
  cases oi cf
  exact qd ⟨cg,rfl,ch.f1,(aK.le.trans bJ.le)⟩
 rintro _ eI ⟨cj,rfl,bl,S⟩
 refine qe_seq (wcc ca rfl (fun ck bm=>?_) (fun ck bm=>?_))
 ·refine sr (lv (rv_build (cs:=#[V3 none 0 0,V3 none 0 0]) sp51 tf51 rfl (by kernel_rfl)) (lw [V3 none 0 0,V3 none 0 0] tf51 bl.f1 fun eJ bK=>(nq (rr ?_))))
  cases oi bm
  have cl:=bK.nil 76 3
  exact ez results78 tf51 bK m0 ⟨none,0,0,none,0,0,cj,rfl,cl.s,(SliceAt.nil _ _),(SliceAt.nil _ _)⟩
 refine wc_skip (qr (mv rfl ?_))
 obtain⟨eK,cm,cn⟩:=ob bm
 refine lk co115 (ok_impl_cloneDocs F bl.enter0 (ay.mono S) cm) ?_
 rintro eL eM ⟨bn,bo,bp,eN,rfl,U,cp⟩
 have cq:=(bl.c0 U).t3
 refine b0 tGEntry underlying49 tf76 cq fun bq eO br V eP cr=>(lv (rv_build (cs:=#[V3 bn bo bp,V3 bq 0 0]) sp51 tf51 rfl (by kernel_rfl)) (al tf51 cr fun m eQ ct=>?_))
 have cu:SH _ _ _ _ _ [obj m [V3 none 0 0,V3 none 0 0] 51,_,_,_,_]:=ct
 refine lw [V3 bn bo bp,V3 bq 0 0] tf51 cu fun eR cv=>(nsr (mv rfl (lv (rv_len underlying48 rfl (ay.mono ((S.trans U.le).trans V))) (lv (r_m rfl) (nq ?_)))))
 obtain⟨bL,cw,cx⟩:=ob cn
 refine wc_cutg (fun E' w'=>∃X Y aa I J O lay94 aL,E'=[(4,pt k),(5,pt m)]∧SH w K [] w' aL [obj k [V3 none 0 0,V3 none 0 0] 51,obj m [V3 X Y aa,V3 I J O] 51,pack (segItems 76 164 3 I J O lay94)]∧KLe br aL∧SliceAt tGDoc aL X Y aa bL.Docs∧LayOk lay94 bL.Entries) ?_ ?_
 ·refine wc_block ?_
  obtain⟨eS,cy,cz⟩:=ob cw
  have cA:=seg_empty (TP:=164) (TI:=3) cv.f1
  have cB:=cA.f1.f4.f4.sb (sk (sk (sk (sk (sd sz)))))
  refine qF (fun (ab:Nat) (aM:GSeg) E' w'=>∃ac ad ae af ag ah lay112 q,E'=[(2,pt l),(4,pt k),(5,pt m),(25,V3 C f i),(26,V6 (q1.length:Int)),(27,V6 ((ab:Nat):Int))]∧SH w K [] w' q [obj l [V3 A a b,V3 B c d] 33,obj k [V3 none 0 0,V3 none 0 0] 51,obj m [V3 ac ad ae,V3 af ag ah] 51,pack (segItems 76 164 3 af ag ah lay112)]∧KLe br q∧SliceAt tGDoc q ac ad ae aM.Docs∧LayOk lay112 aM.Entries) cy ⟨bn,bo,bp,bq,0,0,[],br,rfl,cB,kr,(cp.mono V),⟨(fun _ h=>nomatch h),rfl⟩⟩ ?_ ?_
  ·rintro ab aM _ cC eT hi121 cD ⟨ac,ad,ae,af,ag,ah,lay112,q,rfl,aN,ai,bs,bu⟩
   refine sr (lv (rv_lss rfl rfl) (ns (wc_cond_t rfl (decide_eq_true (by omega)) (wc_skip (qe_seq (wc_seq (wc_block (sr ?_))))))))
   obtain⟨s,cE,cF⟩:=ob cD
   refine li underlying48 tf96 (SliceAt.mono (((S.trans U.le).trans V).trans ai) ay) cE fun cG cH eU cI cJ=>?_
   obtain⟨D,G,H,az,aA,aB,rfl,cK,bv,eV⟩:=cI
   have cL:AtK _ cG cH [V6 s.Id,V3 D G H,V3 az aA aB]:=cJ
   refine lv (rv_loadS tf96 rfl aN cL rfl) (al tf96 aN fun R eW cM=>?_)
   have cN:SH _ _ _ _ _ [obj R [V6 0,V3 none 0 0,V3 none 0 0] 96,_,_,_,_]:=cM
   refine lw [V6 s.Id,V3 D G H,V3 az aA aB] tf96 cN fun eX bM=>(nr (fl ff96_1 rfl tf93 m0 bM rfl (lv (rv_len underlying93 rfl bv) (lv (r_m rfl) (nq ?_)))))
   obtain⟨bN,cO,cP⟩:=ob cF
   refine wc_cutg (fun E' w'=>∃aO aP aQ aR aS aT lay162 aC,E'=[(2,pt l),(4,pt k),(5,pt m),(25,V3 C f i),(26,V6 (q1.length:Int)),(27,V6 ((ab:Nat):Int))]∧SH w K [] w' aC [obj l [V3 A a b,V3 B c d] 33,obj k [V3 none 0 0,V3 none 0 0] 51,obj m [V3 aO aP aQ,V3 aR aS aT] 51,pack (segItems 76 164 3 aR aS aT lay162)]∧KLe q aC∧SliceAt tGDoc aC aO aP aQ bN.Docs∧LayOk lay162 bN.Entries) ?_ ?_
   ·refine wc_block ?_
    obtain⟨eY,cQ,cR⟩:=ob cO
    refine qF (fun (aU:Nat) (aV:GSeg) E' w'=>∃aj ak am an ao ap lay180 aq,E'=[(2,pt l),(4,pt k),(5,pt m),(7,pt R),(25,V3 C f i),(26,V6 (q1.length:Int)),(27,V6 ((ab:Nat):Int)),(32,V3 D G H),(33,V6 (s.Fields.length:Int)),(34,V6 ((aU:Nat):Int))]∧SH w K [] w' aq [obj l [V3 A a b,V3 B c d] 33,obj k [V3 none 0 0,V3 none 0 0] 51,obj m [V3 aj ak am,V3 an ao ap] 51,pack (segItems 76 164 3 an ao ap lay180),obj R [V6 s.Id,V3 D G H,V3 az aA aB] 96]∧KLe q aq∧SliceAt tGDoc aq aj ak am aV.Docs∧LayOk lay180 aV.Entries) cQ ⟨ac,ad,ae,af,ag,ah,lay112,q,rfl,bM.f4.f4.f4.f4,kr,bs,bu⟩ ?_ ?_
    ·rintro aU aV _ cS eZ hi187 cT ⟨aj,ak,am,an,ao,ap,lay180,aq,rfl,aW,ar,bz,bA⟩
     refine sr (lv (rv_lss rfl rfl) (ns (wc_cond_t rfl (decide_eq_true (by omega)) (wc_skip (qe_seq (wc_seq (wc_block (sr ?_))))))))
     obtain⟨au,cU,cV⟩:=ob cT
     refine li underlying93 tf148 (bv.mono ar) cU fun cW cX fb cY cZ=>?_
     obtain⟨rfl,da,db⟩:=cY
     have dc:AtK _ cW cX [sv au.Name,sv au.Text]:=cZ
     refine lv (rv_loadS tf148 rfl aW dc rfl) (al tf148 aW fun bB fc dd=>?_)
     have de:SH _ _ _ _ _ [obj bB [sv [],sv []] 148,_,_,_,_,_]:=dd
     refine lw [sv au.Name,sv au.Text] tf148 de fun fd aX=>(nr (lv (rv_loadmS (ds:=[V3 A a b,V3 B c d]) tf33 rfl m1 aX rfl rfl) (fl ff148_1 rfl tf9 m0 aX rfl ?_)))
     obtain⟨df,dg,dh⟩:=ob cV
     refine lk co116 (ok_impl_TermsOf F aX.enter0 (SliceAt.mono ((((S.trans U.le).trans V).trans ai).trans ar) bH) (SliceAt.mono ((((S.trans U.le).trans V).trans ai).trans ar) bI) db dg) ?_
     rintro fe fg ⟨di,dj,dk,bC,rfl,bD,bE⟩
     have dl:=(aX.c0 bD).t7
     refine lv (rv_len underlying169 rfl bE) (lv (r_m rfl) (nq ?_))
     obtain⟨bO,dm,dn⟩:=ob dh
     refine wc_cutg (fun E' w'=>∃aY aZ ba bb bc bd lay233 aD,E'=[(2,pt l),(4,pt k),(5,pt m),(7,pt R),(25,V3 C f i),(26,V6 (q1.length:Int)),(27,V6 ((ab:Nat):Int)),(32,V3 D G H),(33,V6 (s.Fields.length:Int)),(34,V6 ((aU:Nat):Int))]∧SH w K [] w' aD [obj l [V3 A a b,V3 B c d] 33,obj k [V3 none 0 0,V3 none 0 0] 51,obj m [V3 aY aZ ba,V3 bb bc bd] 51,pack (segItems 76 164 3 bb bc bd lay233),obj R [V6 s.Id,V3 D G H,V3 az aA aB] 96]∧KLe bC aD∧SliceAt tGDoc aD aY aZ ba bO.Docs∧LayOk lay233 bO.Entries) ?_ ?_
     ·refine wc_block ?_
      obtain⟨fh,dp,dq⟩:=ob dm
      have dt:=dl.f1.f6.f6.f6.f6.f6.sb (sk (sk (sk (sk (sk (sk (sd sz)))))))
      refine qF (fun (bP:Nat) (be:GSeg) E' w'=>∃aE aF aG aH aI aJ lay251 aw,E'=[(2,pt l),(4,pt k),(5,pt m),(7,pt R),(9,pt bB),(25,V3 C f i),(26,V6 (q1.length:Int)),(27,V6 ((ab:Nat):Int)),(32,V3 D G H),(33,V6 (s.Fields.length:Int)),(34,V6 ((aU:Nat):Int)),(41,V3 di dj dk),(42,V6 (df.length:Int)),(43,V6 ((bP:Nat):Int))]∧SH w K [] w' aw [obj l [V3 A a b,V3 B c d] 33,obj k [V3 none 0 0,V3 none 0 0] 51,obj m [V3 aE aF aG,V3 aH aI aJ] 51,pack (segItems 76 164 3 aH aI aJ lay251),obj R [V6 s.Id,V3 D G H,V3 az aA aB] 96,obj bB [sv au.Name,sv au.Text] 148]∧KLe bC aw∧SliceAt tGDoc aw aE aF aG be.Docs∧LayOk lay251 be.Entries) dp ⟨aj,ak,am,an,ao,ap,lay180,bC,rfl,dt,kr,(bz.mono bD.le),bA⟩ ?_ ?_
      ·rintro bP be _ du fi hi261 dv ⟨aE,aF,aG,aH,aI,aJ,lay251,aw,rfl,bf,bg,bF,bG⟩
       refine sr (lv (rv_lss rfl rfl) (ns (wc_cond_t rfl (decide_eq_true (by omega)) (wc_skip (qe_seq (wc_seq (wc_block (sr ?_))))))))
       obtain⟨ax,dw,dx⟩:=ob dv
       refine li underlying169 tf172 (bE.mono bg) dw fun dy dz fj dA dB=>?_
       obtain⟨rfl,dC,dD⟩:=dA
       have dE:AtK _ dy dz [sv ax.Text,V6 ax.At]:=dB
       refine lv (rv_loadS tf172 rfl bf dE rfl) (al tf172 bf fun dF fk dG=>?_)
       have dH:SH _ _ _ _ _ [obj dF [sv [],V6 0] 172,_,_,_,_,_,_]:=dG
       refine lw [sv ax.Text,V6 ax.At] tf172 dH fun fm bh=>(nq (wc_region (fl ff148_0 rfl tf9 m6 bh rfl (lv (rv_loadmS (ds:=[sv ax.Text,V6 ax.At]) tf172 rfl m0 bh rfl rfl) (fl ff96_0 rfl tf3 m5 bh rfl ?_)))))
       obtain⟨fn,dI,dJ⟩:=ob dx
       have bQ:=bh.f4.f4
       refine lk co117 (ok_impl_Seg_put F bQ.e2 bF bG da dC dD cK dI) ?_
       rintro fo fp ⟨dK,dL,dM,dN,dO,dP,lay296,dQ,rfl,bR,dR,dS⟩
       have dT:=(bQ.c2 bR).t7
       refine nb (qg (lv (rv_add_to rfl rfl (w64_succ hi261 (SliceAt.max bE))) (mv rfl (wl_nil ?_))))
       cases oi dJ
       exact qd ⟨dK,dL,dM,dN,dO,dP,lay296,dQ,rfl,dT.f6.f6.f3.f3.f6.f6.s,(bg.trans bR.le),dR,dS⟩
      rintro be _ du dU ⟨aE,aF,aG,aH,aI,aJ,lay251,aw,rfl,bf,bg,bF,bG⟩
      subst dU
      refine sr (lv (rv_lss rfl rfl) (ns (wc_cond_f rfl (decide_eq_false (by omega)) (wc_exit (qe_then_exit (qe_then_exit (qe_block_eq ?_)))))))
      cases oi dq
      exact qd ⟨aE,aF,aG,aH,aI,aJ,lay251,aw,rfl,bf.s,bg,bF,bG⟩
     rintro _ fq ⟨aY,aZ,ba,bb,bc,bd,lay233,aD,rfl,dV,dW,dX,dY⟩
     refine qe_block (qg (lv (rv_add_to rfl rfl (w64_succ hi187 (SliceAt.max bv))) (mv rfl (wl_nil ?_))))
     cases oi dn
     exact qd ⟨aY,aZ,ba,bb,bc,bd,lay233,aD,rfl,dV,((ar.trans bD.le).trans dW),dX,dY⟩
    rintro aV _ cS dZ ⟨aj,ak,am,an,ao,ap,lay180,aq,rfl,aW,ar,bz,bA⟩
    subst dZ
    refine sr (lv (rv_lss rfl rfl) (ns (wc_cond_f rfl (decide_eq_false (by omega)) (wc_exit (qe_then_exit (qe_then_exit (qe_block_eq ?_)))))))
    cases oi cR
    exact qd ⟨aj,ak,am,an,ao,ap,lay180,aq,rfl,aW.s,ar,bz,bA⟩
   rintro _ fr ⟨aO,aP,aQ,aR,aS,aT,lay162,aC,rfl,ea,eb,ec,ed⟩
   refine qe_block (qg (lv (rv_add_to rfl rfl (w64_succ hi121 (SliceAt.max (ay.mono ((S.trans U.le).trans V))))) (mv rfl (wl_nil ?_))))
   cases oi cP
   exact qd ⟨aO,aP,aQ,aR,aS,aT,lay162,aC,rfl,ea,(ai.trans eb),ec,ed⟩
  rintro aM _ cC ee ⟨ac,ad,ae,af,ag,ah,lay112,q,rfl,aN,ai,bs,bu⟩
  subst ee
  refine sr (lv (rv_lss rfl rfl) (ns (wc_cond_f rfl (decide_eq_false (by omega)) (wc_exit (qe_then_exit (qe_then_exit (qe_block_eq ?_)))))))
  cases oi cz
  exact qd ⟨ac,ad,ae,af,ag,ah,lay112,q,rfl,aN.s,ai,bs,bu⟩
 rintro _ fs ⟨X,Y,aa,I,J,O,lay94,aL,rfl,bS,ft,ef,eg⟩
 refine qr (fl ff51_1 rfl tf49 m1 bS rfl ?_)
 obtain⟨fu,cs315,eh,hrow317,hm318,ei⟩:=seg_see bS.f2 eg
 obtain⟨fv,ej,ek⟩:=ob cx
 refine wl_call wn rfl (rt_call (vs:=[V3 I J O,.func (.func 119) #[] #[]]) co118 rfl) (sort_rowI (T:=tGEntry) sortLay118 sortNone118 rfl (fun w=>Go.Fk.run_isAgg tf76 w) (fun w=>Go.Fk.run_sizeOf tf76 w) (fun a b=>M.impl_SegOf_1 F a b) 119 (Go.Proofs.enters_of func119 (by kernel_rfl) rfl) ei hrow317 hm318 (fun K1 W v x u y r hW h1 h2 hm=>by
  obtain⟨fx,fy,fz,rfl,en,eo,ep⟩:=h1
  obtain⟨fA,fB,fC,rfl,eq,es,et⟩:=h2
  exact(ok_impl_SegOf_1 (dr:=⟨True⟩) F (SH.start (dr:=⟨True⟩) hW) en eo ep eq es et hm).mono fun e w' ⟨K',he,hS',_⟩=>⟨K',he,hS'⟩) ej) ?_
 rintro fD fE ⟨cs335,rfl,bT,hrow337,hm338⟩
 refine⟨_,rfl,?_⟩
 refine nr (lv (rv_loadmS (ds:=[V3 X Y aa,V3 I J O]) tf51 rfl m2 bT rfl rfl) (lw [V3 X Y aa,V3 I J O] tf51 bT.f1 fun fF eu=>(nq (wc_ret ?_))))
 obtain⟨ev,ew,ex,bU⟩:=SH.freezeI eu.f1 hrow337 hm338
 cases oi ek
 exact ez results78 tf51 bU m1 ⟨X,Y,aa,I,J,O,ev,rfl,bU.s,(ef.mono (eh.trans ew)),ex⟩

theorem ok_slices_Equal_int {q0:List Int}{q1:List Int}{r:Bool}(hS:SH w K [] w K [])(i:SliceAt tInt K A a b q0)(s:SliceAt tInt K B c d q1)(hm:M.slices_Equal_int F q0 q1=some r):
  Calls prog 161 #[V3 A a b,V3 B c d] w (R_b w K r):=by
 rw [M.slices_Equal_int] at hm
 refine ci func161 u ntmps161 (sr (lv (r_f u) (nsr (mv u (lv (rv_len underlying63 u i) (mv u (lv (rv_len underlying63 u s) (lv (rv_neq u u) (nq ?_)))))))))
 refine wc_cond u (fun l=>?_) (fun l=>?_)
 ·have m:=cond_t l hm
  refine sr (lv (r_f u) (nq (rr ?_)))
  cases oi m
  exact ey results161 ⟨K,u,hS⟩
 have m:=cond_f l hm
 refine wc_skip (qs (sr (mv u (lv (rv_len underlying63 u i) (lv (r_m u) (nq ?_))))))
 obtain⟨I,J,k⟩:=ob m
 refine wc_cutg (IE I w K [] K [] []) ?_ ?_
 ·refine wc_block ?_
  obtain⟨aq,O,x⟩:=ob J
  refine qf (fun (y:Nat) (C:Unit)=>IV w K [] K [(0,V3 A a b),(1,V3 B c d),(12,V6 (q0.length:Int)),(13,V6 ((y:Nat):Int))] []) O ⟨K,u,hS,kr⟩ ?_ ?_
  ·rintro y C _ R ar hi29 S T ⟨D,rfl,o,f⟩
   refine sr (lv (rv_lss u u) (ns (wc_cond_t u (decide_eq_true (by omega)) (wc_skip (qe_seq (wc_seq (wc_block (sr (mv u (av u (ns (wc_quiet mixed (by kernel_rfl) o ?_))))))))))))
   refine km u (km u ?_)
   obtain⟨U,V,W⟩:=ob S
   refine ki underlying63 tf3 (i.mono f) V fun X Y au aa ab=>?_
   obtain⟨rfl,aw⟩:=aa
   have ac:AtK _ X Y [V6 U]:=ab
   refine kh (rq_load1 tf3 u (ac 0 _ u)) (km u (km u ?_))
   obtain⟨ad,ae,af⟩:=ob W
   refine ki underlying63 tf3 (s.mono f) ae fun ag ah ax ai aj=>?_
   obtain⟨rfl,ay⟩:=ai
   have ak:AtK _ ag ah [V6 ad]:=aj
   refine kh (rq_load1 tf3 u (ak 0 _ u)) (kv (rv_neq u u) (wq_nil ?_))
   rintro az ⟨G,H,al⟩
   refine qe_seq (wcc af u (fun am q=>?_) (fun am q=>?_))
   ·refine sr (lv (r_f u) (nq (wc_ret (qe_block_ret (qe_then_ret (qe_then_ret ?_))))))
    cases oi q
    cases T _ u
    refine qe_block_ret (qe_then_ret ?_)
    cases oi x
    refine qe_then_ret ?_
    cases oi k
    exact ey results161 ⟨G,u,H⟩
   refine wc_skip (qe_block (qg (lv (rv_add_to u u (w64_succ hi29 (SliceAt.max i))) (mv u (wl_nil ?_)))))
   cases oi q
   exact qd ⟨_,u,G,u,H,(f.trans al)⟩
  rintro C _ R an ⟨D,rfl,o,f⟩
  subst an
  refine sr (lv (rv_lss u u) (ns (wc_cond_f u (decide_eq_false (by omega)) (wc_exit (qe_then_exit (qe_then_exit (qe_block_eq ?_)))))))
  cases oi x
  exact qe_mid' ⟨_,D,u,u,o,f⟩ trivial
 rintro _ aA ⟨aB,ao,rfl,rfl,ap,aC⟩
 have k:=elim_l k
 refine qr (lv (r_t u) (nq (wc_ret ?_)))
 cases oi k
 exact ey results161 ⟨ao,u,ap⟩

theorem ok_impl_samePost {q0:GPost}{q1:GPost}{r:Bool}(hS:SH w K [] w K [])(J:rng64 q0.Doc)(l:SliceAt tInt K A a b q0.At)(O:rng64 q1.Doc)(m:SliceAt tInt K B c d q1.At)(hm:M.impl_samePost F q0 q1=some r):
  Calls prog 123 #[.agg #[V6 q0.Doc,V3 A a b],.agg #[V6 q1.Doc,V3 B c d]] w (R_b w K r):=by
 rw [M.impl_samePost] at hm
 refine ci func123 u ntmps123 (sr (bx u hS fun o R q=>?_))
 have s:SH _ _ _ _ _ [obj o [V6 q0.Doc,V3 A a b] 164]:=q
 refine bx u s fun x S y=>?_
 have i:SH _ _ _ _ _ [obj x [V6 q1.Doc,V3 B c d] 164,_]:=y
 refine lv (r_f u) (nr (fl ff164_0 u tf3 m1 i u (fl ff164_0 u tf3 m0 i u (lv (rv_eql u u) (mv u (bt hm (fun f k=>?_) (fun f k=>?_)))))))
 ·refine lg f (rv_fieldAddr ff164_1 u) (lg f (rv_loadm1 tf63 u m1 i u) (lg f (rv_fieldAddr ff164_1 u) (lg f (rv_loadm1 tf63 u m0 i u) ?_)))
  obtain⟨T,C,D⟩:=ob k
  refine wl_call (wg u u f) u (rt_call (vs:=[V3 A a b,V3 B c d]) co161 u) (ok_slices_Equal_int F i.enter0 l m C) ?_
  rintro U V ⟨G,rfl,H⟩
  refine⟨_,u,?_⟩
  have I:=(i.c0 H).t2
  refine lv (rv_pick_t u f u) (av u (nq (wc_ret ?_)))
  cases oi D
  exact ey results123 ⟨G,u,I.s⟩
 iterate 5 refine lu f ?_
 refine lv (p_f u f u) (av u (nq (wc_ret ?_)))
 cases oi k
 exact ey results123 ⟨K,u,i.s⟩

theorem ok_slices_EqualFunc_Post__impl_samePost {q0:List GPost}{q1:List GPost}{r:Bool}(hS:SH w K [] w K [])(i:SliceAt tGPost K A a b q0)(O:SliceAt tGPost K B c d q1)(hm:M.slices_EqualFunc_Post__impl_samePost F q0 q1=some r):
  Calls prog 122 #[V3 A a b,V3 B c d,.func (.func 123) #[] #[]] w (R_b w K r):=by
 rw [M.slices_EqualFunc_Post__impl_samePost] at hm
 refine ci func122 u ntmps122 (sr (lv (r_f u) (nsr (mv u (lv (rv_len underlying74 u i) (mv u (lv (rv_len underlying74 u O) (lv (rv_neq u u) (nq ?_)))))))))
 refine wc_cond u (fun H=>?_) (fun H=>?_)
 ·have I:=cond_t H hm
  refine sr (lv (r_f u) (nq (rr ?_)))
  cases oi I
  exact ey results122 ⟨K,u,hS⟩
 have I:=cond_f H hm
 refine wc_skip (qs (sr (mv u (lv (rv_len underlying74 u i) (lv (r_m u) (nq ?_))))))
 obtain⟨aa,ab,k⟩:=ob I
 refine wc_cutg (IE aa w K [] K [] []) ?_ ?_
 ·refine wc_block ?_
  obtain⟨aO,ac,R⟩:=ob ab
  refine qf (fun (S:Nat) (T:Unit)=>IV w K [] K [(1,V3 B c d),(2,.func (.func 123) #[] #[]),(15,V3 A a b),(16,V6 (q0.length:Int)),(17,V6 ((S:Nat):Int))] []) ac ⟨K,u,hS,kr⟩ ?_ ?_
  ·rintro S T _ ad aP hi29 ae af ⟨U,rfl,l,f⟩
   refine sr (lv (rv_lss u u) (ns (wc_cond_t u (decide_eq_true (by omega)) (wc_skip (qe_seq (wc_seq (wc_block (sr (mv u ?_)))))))))
   obtain⟨m,ag,ah⟩:=ob ae
   refine li underlying74 tf164 (i.mono f) ag fun ai aj aQ ak am=>?_
   obtain⟨o,q,s,rfl,an,ao⟩:=ak
   have ap:AtK _ ai aj [V6 m.Doc,V3 o q s]:=am
   refine lv (rv_loadS tf164 u l ap u) (al tf164 l fun aq aR ar=>?_)
   have au:SH _ _ _ _ _ [obj aq [V6 0,V3 none 0 0] 164]:=ar
   refine av u (lw [V6 m.Doc,V3 o q s] tf164 au fun aS V=>(nr (mv u (mv u ?_))))
   obtain⟨x,aw,ax⟩:=ob ah
   refine li underlying74 tf164 (O.mono f) aw fun ay az aT aA aB=>?_
   obtain⟨y,C,D,rfl,aC,aD⟩:=aA
   have aE:AtK _ ay az [V6 x.Doc,V3 y C D]:=aB
   refine lv (rv_loadS tf164 u V aE u) (al tf164 V fun aF aU aG=>?_)
   have aH:SH _ _ _ _ _ [obj aF [V6 0,V3 none 0 0] 164,_]:=aG
   refine lw [V6 x.Doc,V3 y C D] tf164 aH fun aV G=>(nr (mv u (lv (rv_loadmS (ds:=[V6 m.Doc,V3 o q s]) tf164 u m1 G u u) (lv (rv_loadmS (ds:=[V6 x.Doc,V3 y C D]) tf164 u m0 G u u) ?_))))
   obtain⟨aW,aI,aJ⟩:=ob ax
   refine wl_call wn u (rt_callv (vs:=[.agg #[V6 m.Doc,V3 o q s],.agg #[V6 x.Doc,V3 y C D]]) (cap:=#[]) co123 u u) (ok_impl_samePost F G.enter0 an ao aC aD aI) ?_
   rintro aX aY ⟨W,rfl,X⟩
   refine⟨_,u,?_⟩
   have Y:=(G.c0 X).t2
   refine lv (rv_not u) (nq (wcc aJ u (fun aK J=>?_) (fun aK J=>?_)))
   ·refine sr (lv (r_f u) (nq (wc_ret (qe_block_ret (qe_then_ret (qe_then_ret ?_))))))
    cases oi J
    cases af _ u
    refine qe_block_ret (qe_then_ret ?_)
    cases oi R
    refine qe_then_ret ?_
    cases oi k
    exact ey results122 ⟨W,u,Y.s⟩
   refine wc_skip (qe_block (qg (lv (rv_add_to u u (w64_succ hi29 (SliceAt.max i))) (mv u (wl_nil ?_)))))
   cases oi J
   exact qd ⟨_,u,W,u,Y.s,(f.trans X.le)⟩
  rintro T _ ad aL ⟨U,rfl,l,f⟩
  subst aL
  refine sr (lv (rv_lss u u) (ns (wc_cond_f u (decide_eq_false (by omega)) (wc_exit (qe_then_exit (qe_then_exit (qe_block_eq ?_)))))))
  cases oi R
  exact qe_mid' ⟨_,U,u,u,l,f⟩ trivial
 rintro _ aZ ⟨ba,aM,rfl,rfl,aN,bb⟩
 have k:=elim_l k
 refine qr (lv (r_t u) (nq (wc_ret ?_)))
 cases oi k
 exact ey results122 ⟨aM,u,aN⟩

theorem ok_impl_sameEntry {q0:GEntry}{q1:GEntry}{r:Bool}(hS:SH w K [] w K [])(R:q0.Field.length≤maxLen)(S:q0.Term.length≤maxLen)(o:SliceAt tGPost K A a b q0.Posts)(T:q1.Field.length≤maxLen)(U:q1.Term.length≤maxLen)(q:SliceAt tGPost K B c d q1.Posts)(hm:M.impl_sameEntry F q0 q1=some r):
  Calls prog 79 #[.agg #[sv q0.Field,sv q0.Term,V3 A a b],.agg #[sv q1.Field,sv q1.Term,V3 B c d]] w (R_b w K r):=by
 rw [M.impl_sameEntry] at hm
 refine ci func79 u ntmps79 (sr (bx u hS fun s V x=>?_))
 have y:SH _ _ _ _ _ [obj s [sv q0.Field,sv q0.Term,V3 A a b] 76]:=x
 refine bx u y fun C W D=>?_
 have f:SH _ _ _ _ _ [obj C [sv q1.Field,sv q1.Term,V3 B c d] 76,_]:=D
 refine lv (r_f u) (nr (fl ff76_0 u tf9 m1 f u (fl ff76_0 u tf9 m0 f u (lv (rv_seql u u) (mv u (bt hm (fun i l=>?_) (fun i l=>?_)))))))
 ·refine lg i (rv_fieldAddr ff76_1 u) (lg i (rv_loadm1 tf9 u m1 f u) (lg i (rv_fieldAddr ff76_1 u) (lg i (rv_loadm1 tf9 u m0 f u) (lg i (rv_seql u u) (lv (rv_pick_t u i u) (mv u (bt l (fun k m=>?_) (fun k m=>?_))))))))
  ·refine lg k (rv_fieldAddr ff76_2 u) (lg k (rv_loadm1 tf74 u m1 f u) (lg k (rv_fieldAddr ff76_2 u) (lg k (rv_loadm1 tf74 u m0 f u) ?_)))
   obtain⟨X,G,H⟩:=ob m
   refine wl_call (wg u u k) u (rt_call (vs:=[V3 A a b,V3 B c d,.func (.func 123) #[] #[]]) co122 u) (ok_slices_EqualFunc_Post__impl_samePost F f.enter0 o q G) ?_
   rintro Y aa ⟨I,rfl,J⟩
   refine⟨_,u,?_⟩
   have O:=(f.c0 J).t2
   refine lv (rv_pick_t u k u) (av u (nq (wc_ret ?_)))
   cases oi H
   exact ey results79 ⟨I,u,O.s⟩
  iterate 5 refine lu k ?_
  refine lv (p_f u k u) (av u (nq (wc_ret ?_)))
  cases oi m
  exact ey results79 ⟨K,u,f.s⟩
 iterate 5 refine lu i ?_
 refine lv (p_f u i u) (mv u ?_)
 iterate 5 refine lu u ?_
 refine lv (p_f u u u) (av u (nq (wc_ret ?_)))
 cases oi l
 exact ey results79 ⟨K,u,f.s⟩

theorem ok_slices_EqualFunc_Entry__impl_sameEntry {q0:List GEntry}{q1:List GEntry}{r:Bool}(hS:SH w K [] w K [])(l:SliceAt tGEntry K A a b q0)(O:SliceAt tGEntry K B c d q1)(hm:M.slices_EqualFunc_Entry__impl_sameEntry F q0 q1=some r):
  Calls prog 77 #[V3 A a b,V3 B c d,.func (.func 79) #[] #[]] w (R_b w K r):=by
 rw [M.slices_EqualFunc_Entry__impl_sameEntry] at hm
 refine ci func77 u ntmps77 (sr (lv (r_f u) (nsr (mv u (lv (rv_len underlying49 u l) (mv u (lv (rv_len underlying49 u O) (lv (rv_neq u u) (nq ?_)))))))))
 refine wc_cond u (fun H=>?_) (fun H=>?_)
 ·have I:=cond_t H hm
  refine sr (lv (r_f u) (nq (rr ?_)))
  cases oi I
  exact ey results77 ⟨K,u,hS⟩
 have I:=cond_f H hm
 refine wc_skip (qs (sr (mv u (lv (rv_len underlying49 u l) (lv (r_m u) (nq ?_))))))
 obtain⟨aa,ab,m⟩:=ob I
 refine wc_cutg (IE aa w K [] K [] []) ?_ ?_
 ·refine wc_block ?_
  obtain⟨aQ,ac,R⟩:=ob ab
  refine qf (fun (S:Nat) (T:Unit)=>IV w K [] K [(1,V3 B c d),(2,.func (.func 79) #[] #[]),(15,V3 A a b),(16,V6 (q0.length:Int)),(17,V6 ((S:Nat):Int))] []) ac ⟨K,u,hS,kr⟩ ?_ ?_
  ·rintro S T _ ad aR hi29 ae af ⟨U,rfl,o,k⟩
   refine sr (lv (rv_lss u u) (ns (wc_cond_t u (decide_eq_true (by omega)) (wc_skip (qe_seq (wc_seq (wc_block (sr (mv u ?_)))))))))
   obtain⟨f,ag,ah⟩:=ob ae
   refine li underlying49 tf76 (l.mono k) ag fun ai aj aS ak am=>?_
   obtain⟨q,s,x,rfl,an,ao,ap⟩:=ak
   have aq:AtK _ ai aj [sv f.Field,sv f.Term,V3 q s x]:=am
   refine lv (rv_loadS tf76 u o aq u) (al tf76 o fun ar aT au=>?_)
   have aw:SH _ _ _ _ _ [obj ar [sv [],sv [],V3 none 0 0] 76]:=au
   refine av u (lw [sv f.Field,sv f.Term,V3 q s x] tf76 aw fun aU V=>(nr (mv u (mv u ?_))))
   obtain⟨i,ax,ay⟩:=ob ah
   refine li underlying49 tf76 (O.mono k) ax fun az aA aV aB aC=>?_
   obtain⟨y,C,D,rfl,aD,aE,aF⟩:=aB
   have aG:AtK _ az aA [sv i.Field,sv i.Term,V3 y C D]:=aC
   refine lv (rv_loadS tf76 u V aG u) (al tf76 V fun aH aW aI=>?_)
   have aJ:SH _ _ _ _ _ [obj aH [sv [],sv [],V3 none 0 0] 76,_]:=aI
   refine lw [sv i.Field,sv i.Term,V3 y C D] tf76 aJ fun aX G=>(nr (mv u (lv (rv_loadmS (ds:=[sv f.Field,sv f.Term,V3 q s x]) tf76 u m1 G u u) (lv (rv_loadmS (ds:=[sv i.Field,sv i.Term,V3 y C D]) tf76 u m0 G u u) ?_))))
   obtain⟨aY,aK,aL⟩:=ob ay
   refine wl_call wn u (rt_callv (vs:=[.agg #[sv f.Field,sv f.Term,V3 q s x],.agg #[sv i.Field,sv i.Term,V3 y C D]]) (cap:=#[]) co79 u u) (ok_impl_sameEntry F G.enter0 an ao ap aD aE aF aK) ?_
   rintro aZ ba ⟨W,rfl,X⟩
   refine⟨_,u,?_⟩
   have Y:=(G.c0 X).t2
   refine lv (rv_not u) (nq (wcc aL u (fun aM J=>?_) (fun aM J=>?_)))
   ·refine sr (lv (r_f u) (nq (wc_ret (qe_block_ret (qe_then_ret (qe_then_ret ?_))))))
    cases oi J
    cases af _ u
    refine qe_block_ret (qe_then_ret ?_)
    cases oi R
    refine qe_then_ret ?_
    cases oi m
    exact ey results77 ⟨W,u,Y.s⟩
   refine wc_skip (qe_block (qg (lv (rv_add_to u u (w64_succ hi29 (SliceAt.max l))) (mv u (wl_nil ?_)))))
   cases oi J
   exact qd ⟨_,u,W,u,Y.s,(k.trans X.le)⟩
  rintro T _ ad aN ⟨U,rfl,o,k⟩
  subst aN
  refine sr (lv (rv_lss u u) (ns (wc_cond_f u (decide_eq_false (by omega)) (wc_exit (qe_then_exit (qe_then_exit (qe_block_eq ?_)))))))
  cases oi R
  exact qe_mid' ⟨_,U,u,u,o,k⟩ trivial
 rintro _ bb ⟨bc,aO,rfl,rfl,aP,bd⟩
 have m:=elim_l m
 refine qr (lv (r_t u) (nq (wc_ret ?_)))
 cases oi m
 exact ey results77 ⟨aO,u,aP⟩

theorem ok_impl_SegOk {q0:GConf}{q1:GSeg}{r:Bool}(hS:SH w K [] w K [])(T:SliceAt tStr K A a b q0.Stops)(U:SliceAt tGSyn K B c d q0.Syns)(V:SliceAt tGDoc K C f i q1.Docs)(ab:SliceAt tGEntry K D k l q1.Entries)(hm:M.impl_SegOk F q0 q1=some r):
  Calls prog 40 #[.agg #[V3 A a b,V3 B c d],.agg #[V3 C f i,V3 D k l]] w (R_b w K r):=by
 rw [M.impl_SegOk] at hm
 refine ci func40 u ntmps40 (sr (bx u hS fun s az ac=>?_))
 have ad:SH _ _ _ _ _ [obj s [V3 A a b,V3 B c d] 33]:=ac
 refine bx u ad fun x aA ae=>?_
 have O:SH _ _ _ _ _ [obj x [V3 C f i,V3 D k l] 51,_]:=ae
 refine lv (r_f u) (ns (wc_seq ?_))
 obtain⟨af,ag,ah⟩:=ob hm
 refine wc_cutg (IV w K [] K [(2,pt s),(3,pt x),(13,.bool af)] [obj s [V3 A a b,V3 B c d] 33,obj x [V3 C f i,V3 D k l] 51]) ?_ ?_
 ·refine wc_region (lv (rv_loadmS (ds:=[V3 A a b,V3 B c d]) tf33 u m1 O u u) ?_)
  obtain⟨aB,ai,aj⟩:=ob ag
  refine lk co26 (ok_impl_ConfOk F O.enter0 T U ai) ?_
  rintro aC aD ⟨ak,rfl,y⟩
  have G:=(O.c0 y).t2
  refine lv (rv_not u) (mv u (bt aj (fun m R=>?_) (fun m R=>?_)))
  ·refine lu m (lu m (lu m (lu m (lv (p_t u m u) (wl_nil ?_)))))
   cases oi R
   exact qd ⟨ak,u,G.f1,y.le⟩
  refine lg m (rv_fieldAddr ff51_0 u) (lg m (rv_loadm1 tf48 u m0 G u) ?_)
  obtain⟨aE,al,am⟩:=ob R
  refine wl_call (wg u u m) u (rt_call (vs:=[V3 C f i]) co28 u) (ok_impl_DocsOk F G.enter0 (V.mono y.le) al) ?_
  rintro aF aG ⟨an,rfl,W⟩
  refine⟨_,u,?_⟩
  have ao:=(G.c0 W).t2
  refine lg m (rv_not u) (lv (rv_pick_f u m u) (wl_nil ?_))
  cases oi am
  exact qd ⟨an,u,ao.f1,(y.le.trans W.le)⟩
 rintro _ aH ⟨X,rfl,Y,H⟩
 refine qe_seq (wcc ah u (fun ap S=>?_) (fun ap S=>?_))
 ·refine sr (lv (r_f u) (nq (rr ?_)))
  cases oi S
  exact ey results40 ⟨X,u,Y.s⟩
 refine wc_skip (qs ?_)
 have o:=Y.drew
 refine j_0 (fun w'=>Holds X w'∧HasObj s [V3 A a b,V3 B c d] w'∧HasObj x [V3 C f i,V3 D k l] w') 9 [] mixed ⟨o.hasK kr,o.hasObj m0,o.hasObj m1⟩ (jh 0 u (fun _ h=>rh_loadmS (ds:=[V3 A a b,V3 B c d]) tf33 u u u h.2.1) (jv 1 u (rv_fieldAddr ff51_0 u) (jh 2 u (fun _ h=>rh_loadm1 tf48 u u h.2.2) (jv 5 u (rv_fieldAddr ff51_1 u) (jh 6 u (fun _ h=>rh_loadm1 tf49 u u h.2.2) (j1 3 u ?_))))))
 obtain⟨aI,aq,ar⟩:=ob S
 refine lk co78 (ok_impl_SegOf F o.enter0 (T.mono H) (U.mono H) (V.mono H) aq) ?_
 rintro aJ aK ⟨aL,aM,aN,aO,aP,aQ,aR,rfl,I,aS,au⟩
 have q:=(o.c0 I).t3
 refine j_o ⟨q.hasK I.le,q.hasObj m1,q.hasObj m2⟩ (jv 4 u (rv_field fg51_1 tf49 u (.inl ⟨u,u⟩)) (j1 7 u ?_))
 obtain⟨aT,aw,ax⟩:=ob ar
 refine lk co77 (ok_slices_EqualFunc_Entry__impl_sameEntry F q.enter0 au (ab.mono (H.trans I.le)) aw) ?_
 rintro aU aV ⟨ay,rfl,aa⟩
 have J:=(q.c0 aa).t3
 refine j_o ⟨J.hasK (I.le.trans aa.le),J.hasObj m1,J.hasObj m2⟩ (jv 8 u (rv_assign u) (jd (qe_seq (wc_ret ?_))))
 cases oi ax
 exact ey results40 ⟨ay,u,J.s⟩

theorem ok_impl_Seg_terms {q0:GSeg}{q1:Str}{r:(List Str)}(hS:SH w K Z w K [obj g1 [V3 A a b,V3 B c d] 51])(aM:SliceAt tGDoc K A a b q0.Docs)(C:SliceAt tGEntry K B c d q0.Entries)(aN:q1.length≤maxLen)(hm:M.impl_Seg_terms F q0 q1=some r):
  Calls prog 41 #[.pointer (some ⟨g1,0,none⟩),sv q1] w fun e w'=>∃a_1 n_2 c_3 K',e= .returned (V3 a_1 n_2 c_3)∧SH w K Z w' K' [tail (V3 a_1 n_2 c_3) 9 1,obj g1 [V3 A a b,V3 B c d] 51]∧SliceAt tStr K' a_1 n_2 c_3 r:=by
 rw [M.impl_Seg_terms] at hm
 refine ci func41 u ntmps41 (sr (lv (r_n u) (nr (b0 tStr underlying22 tf9 hS fun Y aO J D aa S=>(av u (nsr (mv u (lv (rv_nilCheck u) (fl ff51_1 u tf49 m1 S u ?_)))))))))
 refine lv (rv_len underlying49 u (C.mono D)) (lv (r_m u) (nq ?_))
 obtain⟨ab,ac,ad⟩:=ob hm
 refine wc_cutg (fun E' w'=>∃o q s x,E'=[(0,pt g1),(5,V3 o q s)]∧SH w K Z w' x [obj g1 [V3 A a b,V3 B c d] 51,tail (V3 o q s) 9 1]∧KLe J x∧SliceAt tStr x o q s ab) ?_ ?_
 ·refine wc_block ?_
  obtain⟨aP,ae,af⟩:=ob ac
  refine qF (fun (T:Nat) (O:(List Str)) E' w'=>∃f i k l,E'=[(0,pt g1),(1,sv q1),(5,V3 f i k),(12,V3 B c d),(13,V6 (q0.Entries.length:Int)),(14,V6 ((T:Nat):Int))]∧SH w K Z w' l [obj g1 [V3 A a b,V3 B c d] 51,tail (V3 f i k) 9 1]∧KLe J l∧SliceAt tStr l f i k O) ae ⟨Y,0,0,J,u,S.f1,kr,aa⟩ ?_ ?_
  ·rintro T O _ ag aQ hi43 ah ⟨f,i,k,l,rfl,G,y,H⟩
   refine sr (lv (rv_lss u u) (ns (wc_cond_t u (decide_eq_true (by omega)) (wc_skip (qe_seq (wc_seq (wc_block (sr ?_))))))))
   obtain⟨m,ai,aj⟩:=ob ah
   refine li underlying49 tf76 (C.mono (D.trans y)) ai fun ak am aR an ao=>?_
   obtain⟨U,V,W,rfl,aS,ap,aT⟩:=an
   have aq:AtK _ ak am [sv m.Field,sv m.Term,V3 U V W]:=ao
   refine lv (rv_loadS tf76 u G aq u) (al tf76 G fun ar aU au=>?_)
   have aw:SH _ _ _ _ _ [obj ar [sv [],sv [],V3 none 0 0] 76,_,_]:=au
   refine lw [sv m.Field,sv m.Term,V3 U V W] tf76 aw fun aV I=>(nr (fl ff76_0 u tf9 m0 I u (mv u (lv (rv_seql u u) (nq (wcc aj u (fun ax R=>?_) (fun ax R=>?_)))))))
   ·refine wc_region (mv u (fl ff76_1 u tf9 m0 I u (lb tStr (sv m.Term) [sv m.Term] m.Term underlying22 tf9 ⟨u,ap⟩ I fun aW aX aY X ay az=>?_)))
    obtain⟨aZ,aA,aB⟩:=ob R
    refine lp underlying22 tf9 (H.mono X) ay aA az.f3 fun aC aD aE ba aF aG aH aI=>(av u (nb (qg (lv (rv_add_to u u (w64_succ hi43 (SliceAt.max (C.mono D)))) (mv u (wl_nil ?_))))))
    cases oi aB
    exact qd ⟨aC,aD,aE,aF,u,aI.f3.s,((y.trans X).trans aG),aH⟩
   refine wc_skip (qe_block (qg (lv (rv_add_to u u (w64_succ hi43 (SliceAt.max (C.mono D)))) (mv u (wl_nil ?_)))))
   cases oi R
   exact qd ⟨f,i,k,l,u,I.s,y,H⟩
  rintro O _ ag aJ ⟨f,i,k,l,rfl,G,y,H⟩
  subst aJ
  refine sr (lv (rv_lss u u) (ns (wc_cond_f u (decide_eq_false (by omega)) (wc_exit (qe_then_exit (qe_then_exit (qe_block_eq ?_)))))))
  cases oi af
  exact qd ⟨f,i,k,l,u,G,y,H⟩
 rintro _ bb ⟨o,q,s,x,rfl,aK,bc,aL⟩
 refine qr (mv u (av u (nq (wc_ret ?_))))
 cases oi ad
 exact ey results41 ⟨o,q,s,x,u,aK.f1,aL⟩

theorem ok_impl_SegTerms {q0:GConf}{q1:GSeg}{q2:Str}{r:(List Str)}(hS:SH w K [] w K [])(G:SliceAt tStr K A a b q0.Stops)(H:SliceAt tGSyn K B c d q0.Syns)(x:SliceAt tGDoc K C f i q1.Docs)(y:SliceAt tGEntry K D k l q1.Entries)(I:q2.length≤maxLen)(hm:M.impl_SegTerms F q0 q1 q2=some r):
  Calls prog 15 #[.agg #[V3 A a b,V3 B c d],.agg #[V3 C f i,V3 D k l],sv q2] w fun e w'=>∃a_1 n_2 c_3 K',e= .returned (V3 a_1 n_2 c_3)∧SH w K [] w' K' [tail (V3 a_1 n_2 c_3) 9 1]∧SliceAt tStr K' a_1 n_2 c_3 r:=by
 rw [M.impl_SegTerms] at hm
 refine ci func15 u ntmps15 (sr (bx u hS fun J al O=>?_))
 have R:SH _ _ _ _ _ [obj J [V3 A a b,V3 B c d] 33]:=O
 refine bx u R fun S am T=>?_
 have m:SH _ _ _ _ _ [obj S [V3 C f i,V3 D k l] 51,_]:=T
 refine lv (r_n u) (nsr (lv (rv_loadmS (ds:=[V3 A a b,V3 B c d]) tf33 u m1 m u u) (lv (rv_loadmS (ds:=[V3 C f i,V3 D k l]) tf51 u m0 m u u) ?_)))
 obtain⟨an,U,V⟩:=ob hm
 refine lk co40 (ok_impl_SegOk F m.enter0 G H x y U) ?_
 rintro ao ap ⟨aq,rfl,o⟩
 have q:=(m.c0 o).t2
 refine lv (rv_not u) (nq (wcc V u (fun W s=>?_) (fun W s=>?_)))
 ·refine sr (b0 tStr underlying22 tf9 q fun X ar Y au aa ab=>(av u (nq (rr ?_))))
  cases oi s
  exact ey results15 ⟨X,0,0,Y,u,ab.s,aa⟩
 refine wc_skip (qr (mv u ?_))
 obtain⟨aw,ac,ad⟩:=ob s
 refine lk co41 (ok_impl_Seg_terms F q.e1 (x.mono o.le) (y.mono o.le) I ac) ?_
 rintro ax ay ⟨ae,af,ag,ah,rfl,ai,aj⟩
 have ak:=(q.c1 ai).t3
 refine av u (nq (wc_ret ?_))
 cases oi ad
 exact ey results15 ⟨ae,af,ag,ah,u,ak.s,aj⟩

theorem ok_laws_eqStringS {q0:List Str}{q1:List Str}{r:Bool}(hS:SH w K [] w K [])(k:SliceAt tStr K A a b q0)(x:SliceAt tStr K B c d q1)(hm:M.laws_eqStringS F q0 q1=some r):
  Calls prog 16 #[V3 A a b,V3 B c d] w (R_b w K r):=by
 rw [M.laws_eqStringS] at hm
 refine ci func16 u ntmps16 (sr (lv (r_f u) (nsr (mv u (lv (rv_len underlying22 u k) (mv u (lv (rv_len underlying22 u x) (lv (rv_neq u u) (nq ?_)))))))))
 refine wc_cond u (fun l=>?_) (fun l=>?_)
 ·have m:=cond_t l hm
  refine sr (lv (r_f u) (nq (rr ?_)))
  cases oi m
  exact ey results16 ⟨K,u,hS⟩
 have m:=cond_f l hm
 refine wc_skip (qs (sr (lv (r_0 u) (nq ?_))))
 obtain⟨I,J,i⟩:=ob m
 refine wc_cutg (IE I w K [] K [] []) ?_ ?_
 ·refine wc_block ?_
  obtain⟨ap,O,y⟩:=ob J
  refine qw (fun (o:Int)=>IW w K [] K [(0,V3 A a b),(1,V3 B c d),(5,V6 o)] [] (rng64 o)) O ⟨K,u,hS,kr,d_0⟩ ?_
  rintro o _ aq ar R C ⟨S,rfl,D,f,au⟩
  refine wc_seq (sr (mv u (mv u (lv (rv_len underlying22 u (k.mono f)) (lv (rv_lss u u) (nq (wcc R u (fun T q=>?_) (fun T q=>?_))))))))
  ·refine wc_skip (qs (wc_block (wc_seq (wc_quiet mixed (by kernel_rfl) D (km u (km u ?_))))))
   obtain⟨U,V,W⟩:=ob q
   refine ki underlying22 tf9 (k.mono f) V fun X Y aw aa ab=>?_
   obtain⟨rfl,ax⟩:=aa
   have ac:AtK _ X Y [sv U]:=ab
   refine kh (rq_load1 tf9 u (ac 0 _ u)) (km u (km u ?_))
   obtain⟨ad,ae,af⟩:=ob W
   refine ki underlying22 tf9 (x.mono f) ae fun ag ah ay ai aj=>?_
   obtain⟨rfl,az⟩:=ai
   have ak:AtK _ ag ah [sv ad]:=aj
   refine kh (rq_load1 tf9 u (ak 0 _ u)) (kv (rv_sneq u u) (wq_nil ?_))
   rintro aA ⟨G,H,al⟩
   refine qe_seq (wcc af u (fun am s=>?_) (fun am s=>?_))
   ·refine sr (lv (r_f u) (nq (wc_ret (qe_block_ret (qe_then_ret (qe_then_ret ?_))))))
    cases oi s
    cases C _ u
    refine qe_block_ret (qe_then_ret ?_)
    cases oi y
    refine qe_then_ret ?_
    cases oi i
    exact ey results16 ⟨G,u,H⟩
   refine wc_skip (qe_block (qe_seq (wc_region (mv u (lv (rv_add u u) (av u (wl_nil ?_)))))))
   cases oi s
   exact qd ⟨_,u,G,u,H,(f.trans al),(w64_rng _)⟩
  refine wc_exit (qe_then_exit (qe_then_exit ?_))
  cases oi q
  cases C _ u
  refine qe_block_eq ?_
  cases oi y
  exact qe_mid' ⟨_,S,u,u,D,f⟩ trivial
 rintro _ aB ⟨aC,an,rfl,rfl,ao,aD⟩
 have i:=elim_l i
 refine qr (lv (r_t u) (nq (wc_ret ?_)))
 cases oi i
 exact ey results16 ⟨an,u,ao⟩
end Go.Proofs.YtepcfgnicnibnaaGreat
