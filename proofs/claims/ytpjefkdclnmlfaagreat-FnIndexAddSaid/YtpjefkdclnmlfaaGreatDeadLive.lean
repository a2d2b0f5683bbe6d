import Derived.Test.YtpjefkdclnmlfaaGreatCoreP
import Derived.Test.YtpjefkdclnmlfaaGreatTypes
import Derived.Test.YtpjefkdclnmlfaaGreatSortZ
/-
  Rows of the call's own whose elements' second and third cells are slices to whose ends the call may append. Of no program.
-/
namespace Go.Fk
open Go
set_option linter.unusedSectionVars false
set_option linter.unusedVariables false
variable [dr:Dr]
def tailsOf (TE TI:TypeId):List Value→List Item
 | _::e::x::r=>tail e TE 3::tail x TI 1::tailsOf TE TI r
 | _=>[]
def Ty.wc {α:Type}(t:Ty α):Ty (α×List Value) where
 size:=t.size
 agg:=t.agg
 rel K v p:=t.rel K v p.1∧v.cells.toList=p.2
 mono h _ _ q:=⟨t.mono h q.1,q.2⟩
 shape h:=t.shape h.1
 size_eq h:=t.size_eq h.1
 ones h:=t.ones h.1
theorem tailsOf_append {TE TI:TypeId}{d e x:Value}: ∀(n:Nat) (cs:List Value),cs.length=n*3→tailsOf TE TI (cs++[d,e,x])=tailsOf TE TI cs++[tail e TE 3,tail x TI 1]
 | 0,cs,h=>by
  have:cs=[]:=List.eq_nil_of_length_eq_zero (by omega)
  subst this;rfl
 | n+1,a::b::c::r,h=>by
  have ih:=tailsOf_append (TE:=TE) (TI:=TI) (d:=d) (e:=e) (x:=x) n r (by simp at h;omega)
  show tail b TE 3::tail c TI 1::tailsOf TE TI (r++[d,e,x])=_
  rw [ih];rfl
 | n+1,[],h=>by simp at h<;>omega
 | n+1,[_],h=>by simp at h<;>omega
 | n+1,[_,_],h=>by simp at h<;>omega
theorem tailsOf_at {TE TI:TypeId}: ∀(k:Nat) (cs:List Value) (d e x:Value),cs[k*3]? =some d→cs[k*3+1]? =some e→cs[k*3+2]? =some x→tail e TE 3∈tailsOf TE TI cs∧tail x TI 1∈tailsOf TE TI cs
 | 0,a::b::c::r,d,e,x,h0,h1,h2=>by
  simp at h1 h2
  subst h1 h2
  exact⟨.head _,.tail _ (.head _)⟩
 | k+1,a::b::c::r,d,e,x,h0,h1,h2=>by
  have ih:=tailsOf_at (TE:=TE) (TI:=TI) k r d e x (by rw [←h0,show (k+1)*3=k*3+3 from by omega];rfl) (by rw [←h1,show (k+1)*3+1=k*3+1+3 from by omega];rfl) (by rw [←h2,show (k+1)*3+2=k*3+2+3 from by omega];rfl)
  exact⟨.tail _ (.tail _ ih.1),.tail _ (.tail _ ih.2)⟩
 | _,[],_,_,_,h0,_,_=>by simp at h0
 | _,[_],_,_,_,_,h1,_=>by simp at h1
 | _,[_,_],_,_,_,_,_,h2=>by simp at h2
section
variable {P:Program}{ops:Array Oper}{Q:Exit→Act→World→Prop}{N:Nat}{E:Env}{w w0 w':World}{K K0:KMap}{M:List Nat}{L:List Item}
variable {x y:Operand}{T T' U:TypeId}{bytes:Nat}{zero:Value}{agg:Bool}{rest:List Oper}{d:Tmp}{ty:TypeId}{pos:String}{af:Array Edge}{gd:Option (Nat×Bool)}
variable {TE TI:TypeId}
theorem SH.packNil (h:SH w0 K0 M w K L)(TE TI:TypeId):SH w0 K0 M w K (pack (tailsOf TE TI [])::L):=SH.packUp (ls:=[]) h
theorem SH.toBack {it:Item}{p:List Item}(h:SH w0 K0 M w K (it::p)):SH w0 K0 M w K (p++[it]):=h.perm (List.perm_append_singleton it p)
theorem SH.pickOf {it:Item}{ls:List Item}(h:SH w0 K0 M w K (pack ls::L))(hm:it∈ls):SH w0 K0 M w K (it::L):=by
 obtain⟨s,t,rfl⟩:=List.append_of_mem hm
 have h1:=h.unpack
 rw [List.append_assoc] at h1
 exact(SH.front (p:=s) (q:=t++L) h1).sublist (.cons_cons _ ((List.sublist_append_right t L).trans (List.sublist_append_right s (t++L))))
theorem SH.pickE {cs:List Value}{k:Nat}{d e x:Value}(h:SH w0 K0 M w K (pack (tailsOf TE TI cs)::L))(hk: ∀(j:Nat) v,[d,e,x][j]? =some v→cs[k*3+j]? =some v):SH w0 K0 M w K (tail e TE 3::L):=
 h.pickOf (tailsOf_at k cs d e x (hk 0 d rfl) (hk 1 e rfl) (hk 2 x rfl)).1
theorem SH.pickI {cs:List Value}{k:Nat}{d e x:Value}(h:SH w0 K0 M w K (pack (tailsOf TE TI cs)::L))(hk: ∀(j:Nat) v,[d,e,x][j]? =some v→cs[k*3+j]? =some v):SH w0 K0 M w K (tail x TI 1::L):=
 h.pickOf (tailsOf_at k cs d e x (hk 0 d rfl) (hk 1 e rfl) (hk 2 x rfl)).2
theorem SH.tailsJoin {p:List Item}{lit dcs:Item}{cs:List Value}{n:Nat}{d e x:Value}(hl:cs.length=n*3)(h:SH w0 K0 M w K (p++[lit,tail x TI 1,dcs,tail e TE 3,pack (tailsOf TE TI cs)])):
  SH w0 K0 M w K (p++[pack (tailsOf TE TI (cs++[d,e,x]))]):=by
 have h1:SH w0 K0 M w K (p++[tail x TI 1,tail e TE 3,pack (tailsOf TE TI cs)]):=h.sublist (List.Sublist.append_left (.cons _ (.cons_cons _ (.cons _ (.cons_cons _ (.cons_cons _ .slnil))))) p)
 have h2:SH w0 K0 M w K (pack (tailsOf TE TI cs)::(p++[tail x TI 1,tail e TE 3])):=h1.perm (by
  rw [show p++[tail x TI 1,tail e TE 3,pack (tailsOf TE TI cs)]=(p++[tail x TI 1,tail e TE 3])++[pack (tailsOf TE TI cs)] from by rw [List.append_assoc];rfl]
  exact(List.perm_append_singleton _ _).symm)
 have h3:SH w0 K0 M w K ((tailsOf TE TI cs++[tail e TE 3,tail x TI 1])++p):=h2.unpack.perm (by
  rw [List.append_assoc]
  exact List.Perm.append_left _ (((List.Perm.swap _ _ _).append_right p).trans List.perm_append_comm))
 rw [←tailsOf_append n cs hl] at h3
 exact h3.packUp.perm (List.perm_append_singleton _ _)
theorem wc_lit {α:Type}{t:Ty α}{a:Option Addr}{c:Nat}{y:α}{ds:List Value}(h:SliceAt t.wc K a 1 c [(y,ds)]): ∃b o u,a=some ⟨b,o,none⟩∧t.rel K u y∧u.cells.toList=ds∧AtK K b o ds:=by
 obtain⟨_,h2,_,h4⟩:=h
 obtain⟨b,o,e,h5⟩:=h4 (by omega)
 obtain⟨u,hu,hk⟩:=h5 0 _ rfl
 rw [Nat.zero_mul,Nat.add_zero] at hk
 exact⟨b,o,u,e,hu.1,hu.2,by have e2:u.cells.toList=ds:=hu.2;rw [e2] at hk;exact hk⟩
theorem wl_appendT {α:Type}{t:Ty α}{a a2:Option Addr}{n c c2:Nat}{xs zs:List α}{yd:α}{cs ds:List Value}(hw:Wanted ops N E gd)(hd:Nat.blt d N=true)(hT:P.underlying T=some (.slice U))(hU:TF P U t.size agg zero bytes)(hzs:zero.cells.size=t.size)
  (hb:Nat.blt 0 bytes=true)(hx:ev E x=some (.slice a n c))(hy:ev E y=some (.slice a2 1 c2))(hr:RowAt true t K cs xs)(hn:n=xs.length)(hs2:SliceAt t.wc K a2 1 c2 [(yd,ds)])(hz:catL bytes xs [yd]=some zs)
  (hS:SH w0 K0 M w K (rowI (.slice a n c) cs U t.size::L))
  (h: ∀a' n' c' w',RowAt true t K (cs++ds) zs→n'=zs.length→SH w0 K0 M w' K (rowI (.slice a' n' c') (cs++ds) U t.size::L)→WL P ops Q N rest ((d,.slice a' n' c')::E) w'):
  WL P ops Q N (⟨some d,.call {callee:=.builtin .append,args:=#[x,y],argTypes:=#[T,T]},ty,pos,af,gd⟩::rest) E w:=by
 obtain⟨b,o,u,rfl,hu,rfl,hk⟩:=wc_lit hs2
 unfold catL at hz
 split at hz
 case isFalse=>cases hz
 rename_i hbd
 cases hz
 subst hn
 have hul:u.cells.toList.length=1*t.size:=by rw [Nat.one_mul];simpa using t.size_eq hu
 have hbd2:(xs.length+1)*bytes≤140737488355328:=by simpa using hbd
 have hb':0<bytes:=by simpa using hb
 have hs1:xs.length+1≤140737488355328:=Nat.le_trans (Nat.le_mul_of_pos_right _ hb') hbd2
 refine wl_appendI hw hd hT hU hzs hx hy (by omega) hul hk (t.ones hu) (hr.1.2 rfl) hs1 hbd2 hS fun g c' w' h1=>?_
 refine h _ _ _ _ (hr.append (by simpa using hul) (t.ones hu) fun k z hz=>?_) (by simp) h1
 cases k with
 | zero=>simp at hz;subst hz;exact⟨u,hu,fun j d e=>by rw [Nat.zero_mul,Nat.zero_add];exact e⟩
 | succ k=>simp at hz
end
end Go.Fk
namespace Go.Fk
open Go
set_option linter.unusedSectionVars false
variable [dr:Dr]
def tGLiveB:Ty (GLive×Value) where
 size:=3
 agg:=true
 rel:=fun K v p=>∃(a1:Option Addr) (n1 c1:Nat) (a2:Option Addr) (n2 c2:Nat) (a3:Option Addr) (n3 c3:Nat),v= .agg #[.slice a1 n1 c1,.slice a2 n2 c2,.slice a3 n3 c3]∧SliceAt tGDoc K a1 n1 c1 p.1.Seg.Docs∧SliceAt tGEntry K a2 n2 c2 p.1.Seg.Entries∧(∀z∈p.1.Dead,rng64 z)∧p.2= .slice a3 n3 c3
 mono:=by
  rintro K K' h v p ⟨a1,n1,c1,a2,n2,c2,a3,n3,c3,e,h1,h2,h3,h4⟩
  exact⟨a1,n1,c1,a2,n2,c2,a3,n3,c3,e,h1.mono h,h2.mono h,h3,h4⟩
 shape:=by rintro K v p ⟨_,_,_,_,_,_,_,_,_,rfl,_⟩;exact .inl ⟨rfl,_,rfl⟩
 size_eq:=by rintro K v p ⟨_,_,_,_,_,_,_,_,_,rfl,_⟩;simp [Value.cells]
 ones:=by rintro K v p ⟨_,_,_,_,_,_,_,_,_,rfl,_⟩;simp [Value.cells,Value.oneCell']
def deadItem (TI:TypeId)(p:GLive×Value):Item:=rowI p.2 (p.1.Dead.map (Value.int .i64)) TI 1
def deadsOf (TI:TypeId)(ps:List (GLive×Value)):List Item:=ps.map (deadItem TI)
section
variable {w w0:World}{K K0:KMap}{M:List Nat}{L:List Item}{TI:TypeId}{ps:List (GLive×Value)}
theorem SH.deadsNil (h:SH w0 K0 M w K L)(TI:TypeId):SH w0 K0 M w K (L++[pack (deadsOf TI [])]):=(SH.packUp (ls:=[]) h:SH w0 K0 M w K (pack (deadsOf TI [])::L)).perm (List.perm_append_singleton _ _)
theorem SH.deadsAdd {q:List Item}{x:GLive}{v:Value}(h:SH w0 K0 M w K (q++[rowI v (x.Dead.map (Value.int .i64)) TI 1,pack (deadsOf TI ps)])):SH w0 K0 M w K (q++[pack (deadsOf TI (ps++[(x,v)]))]):=by
 have h1:SH w0 K0 M w K (pack (deadsOf TI ps)::(q++[deadItem TI (x,v)])):=h.perm (by
  rw [show q++[rowI v (x.Dead.map (Value.int .i64)) TI 1,pack (deadsOf TI ps)]=(q++[deadItem TI (x,v)])++[pack (deadsOf TI ps)] from by rw [List.append_assoc];rfl]
  exact(List.perm_append_singleton _ _).symm)
 have h2:SH w0 K0 M w K ((deadsOf TI ps++[deadItem TI (x,v)])++q):=h1.unpack.perm (by
  rw [List.append_assoc]
  exact List.Perm.append_left _ List.perm_append_comm)
 have e:deadsOf TI (ps++[(x,v)])=deadsOf TI ps++[deadItem TI (x,v)]:=by unfold deadsOf;rw [List.map_append];rfl
 rw [←e] at h2
 exact h2.packUp.perm (List.perm_append_singleton _ _)
theorem SH.deadTake {q:List Item}{i:Nat}{p:GLive×Value}(h:SH w0 K0 M w K (q++[pack (deadsOf TI (ps.drop i))]))(hp:ps[i]? =some p):SH w0 K0 M w K (deadItem TI p::(q++[pack (deadsOf TI (ps.drop (i+1)))])):=by
 obtain⟨hi,rfl⟩:=List.getElem?_eq_some_iff.1 hp
 have e:deadsOf TI (ps.drop i)=deadItem TI ps[i]::deadsOf TI (ps.drop (i+1)):=by unfold deadsOf;rw [List.drop_eq_getElem_cons hi];rfl
 rw [e] at h
 have h1:SH w0 K0 M w K (pack (deadItem TI ps[i]::deadsOf TI (ps.drop (i+1)))::q):=h.perm (List.perm_append_singleton _ _).symm
 have h2:SH w0 K0 M w K (deadsOf TI (ps.drop (i+1))++(deadItem TI ps[i]::q)):=h1.unpack.perm (List.perm_middle (l₁:=deadsOf TI (ps.drop (i+1))))
 exact h2.packUp.perm (List.perm_append_singleton (pack (deadsOf TI (ps.drop (i+1)))) (deadItem TI ps[i]::q))
theorem SH.toLast {it:Item}{p q:List Item}(h:SH w0 K0 M w K (p++it::q)):SH w0 K0 M w K (p++(q++[it])):=h.perm (List.Perm.append_left p (List.perm_append_comm (l₁:=q) (l₂:=[it])))
theorem SH.fromLast {it:Item}{p q:List Item}(h:SH w0 K0 M w K (p++(q++[it]))):SH w0 K0 M w K (p++it::q):=h.perm (List.Perm.append_left p (List.perm_append_comm (l₁:=[it]) (l₂:=q)))
theorem dead_len {a:Option Addr}{n c:Nat}{xs:List Int}{U:TypeId}(h:SH w0 K0 M w K L)(hm:rowI (.slice a n c) (xs.map (Value.int .i64)) U 1∈L):n=xs.length:=by
 rcases h.rowI_cases hm with ⟨_,h1,_,h2⟩ | ⟨g,cur,_,h1,h2,h3,_⟩
 ·simp at h2;simp [h1,h2]
 ·simp at h3;omega
theorem fst_at {xs:List GLive}{i:Nat}{x:GLive}(hf:ps.map Prod.fst=xs)(hx:getI xs (i:Int)=some x): ∃v,getI ps (i:Int)=some (x,v)∧ps[i]? =some (x,v):=by
 obtain⟨_,_,h2⟩:=getI_some hx
 rw [Int.toNat_natCast,←hf,List.getElem?_map] at h2
 obtain⟨p,hp,rfl⟩:=Option.map_eq_some_iff.1 h2
 refine⟨p.2,?_,hp⟩
 have hi:=(List.getElem?_eq_some_iff.1 hp).1
 unfold getI
 rw [if_pos (by omega),Int.toNat_natCast]
 exact hp
theorem catL_pair {b:Nat}{xs zs:List GLive}{y:GLive}(v:Value)(hf:ps.map Prod.fst=xs)(h:catL b xs [y]=some zs):catL b ps [(y,v)]=some (ps++[(y,v)])∧(ps++[(y,v)]).map Prod.fst=zs:=by
 unfold catL at h ⊢
 split at h
 case isFalse=>cases h
 rename_i hb
 cases h
 have hl:ps.length=xs.length:=by rw [←hf,List.length_map]
 refine⟨if_pos (by rw [hl];exact hb),by rw [List.map_append,hf];rfl⟩
theorem SH.deadsSee {q:List Item}{a:Option Addr}{n c:Nat}(h:SH w0 K0 M w K (q++[pack (deadsOf TI ps)]))(hs:SliceAt tGLiveB K a n c ps): ∃K',KLe K K'∧SliceAt tGLive K' a n c (ps.map Prod.fst)∧SH w0 K0 M w K' q:=by
 have h0:SH w0 K0 M w K (pack (deadsOf TI ps)::q):=h.perm (List.perm_append_singleton _ _).symm
 have h1:SH w0 K0 M w K (deadsOf TI ps++q):=h0.unpack
 have hle:KLe K (seeK K w ((deadsOf TI ps).flatMap Item.gs)):=see_le h.holds
 refine⟨_,hle,?_,h1.see⟩
 obtain⟨e1,e2,e3,e4⟩:=hs
 refine⟨by rw [List.length_map];exact e1,e2,e3,fun hc=>?_⟩
 obtain⟨b,o,ea,e5⟩:=e4 hc
 refine⟨b,o,ea,fun i x hx=>?_⟩
 rw [List.getElem?_map] at hx
 obtain⟨p,hp,rfl⟩:=Option.map_eq_some_iff.1 hx
 obtain⟨u,⟨a1,n1,c1,a2,n2,c2,a3,n3,c3,ev,d1,d2,d3,d4⟩,hk⟩:=e5 i p hp
 have hm:deadItem TI p∈deadsOf TI ps:=List.mem_map.2 ⟨p,List.mem_of_getElem? hp,rfl⟩
 have hit:deadItem TI p=rowI (.slice a3 n3 c3) (p.1.Dead.map (Value.int .i64)) TI 1:=by unfold deadItem;rw [d4]
 have hm2:rowI (.slice a3 n3 c3) (p.1.Dead.map (Value.int .i64)) TI 1∈deadsOf TI ps++q:=by rw [←hit];exact List.mem_append_left _ hm
 have hd:=see_slice (t:=tInt) (gs:=(deadsOf TI ps).flatMap Item.gs) h1 hm2 (fun b hb=>List.mem_flatMap.2 ⟨_,hm,by rw [hit];exact hb⟩) Nat.one_pos (rowZ_of d3)
 exact⟨u,⟨a1,n1,c1,a2,n2,c2,a3,n3,c3,ev,d1.mono hle,d2.mono hle,hd.1⟩,fun j d e=>hle _ _ _ (hk j d e)⟩
end
end Go.Fk
