import Derived.Test.YtpdfkjjmcnhakaaGreatDoorCoreFI
import Derived.OrdersHeld
import Derived.Laws.StructEq
import Derived.Laws.IdiomStrings
import Derived.ChangeSlices
import Derived.ChangeSame
import Derived.OpenShut
import Derived.Below
import Derived.JoinedOf
import Derived.JoinedAt
/-
  Regions that draw their order and write: quiet operations are taken first, the others come one by one. Of no program.
-/
namespace Go.Fk
open Go
set_option linter.unusedSectionVars false
variable [dr:Dr]
section
variable {P:Program}{ops:Array Oper}{Q:Exit→Act→World→Prop}{md:Region.Mode}{S:Array Bool→World→Prop}
def Z9 (P:Program)(md:Region.Mode)(ops:Array Oper)(Q:Exit→Act→World→Prop)(S:Array Bool→World→Prop):Nat→Array Bool→Act→World→Prop
 | 0,listed,a,w=>Region.ready md ops listed=[]∧Q .normal a w
 | fuel+1,listed,a,w=>
  (Region.ready md ops listed=[]→Q .normal a w)∧
  ∀i∈Region.ready md ops listed,wpOp P ops Q i (fun a' w'=>S (listed.setIfInBounds i true) w'∧Z9 P md ops Q S fuel (listed.setIfInBounds i true) a' w') a w
theorem a9g: ∀(fuel:Nat) (listed:Array Bool) (a:Act) (w:World),Z9 P md ops Q S fuel listed a w→wpAny P md ops Q fuel listed a w
 | 0,_,_,_,h=>h
 | fuel+1,_,_,_,h=>⟨h.1,fun i hi=>wpOp_mono (fun a' w' h'=>a9g fuel _ a' w' h'.2) (h.2 i hi)⟩
theorem b05 {i:Nat}{oi:Oper}{v:Value}{S0:World→Prop}(hi:ops[i]? =some oi)(hsel: ∀(j:Nat) (o:Oper) cs b,ops[j]? =some o→o.op≠ .select cs b)
  (hQ: ∀c a w,Q (.panic c) (a.put oi.dst v) w→Q (.panic c) a w)(hS0: ∀listed w,listed.getD i true=false→S listed w→S0 w)(hSet: ∀listed w,i∈Region.ready md ops listed→S listed w→S (listed.setIfInBounds i true) w)
  (hback: ∀(l:Array Bool) j w w',i∈Region.ready md ops l→j∈Region.ready md ops l→i≠j→S l w→S ((l.setIfInBounds i true).setIfInBounds j true) w'→S (l.setIfInBounds j true) w'):
  ∀(fuel:Nat) (listed:Array Bool) (a:Act) (w:World),
   (∀j oj,ops[j]? =some oj→j≠i→listed.getD j true=false→(∀e∈oj.after,Region.binds md e=true→e.on≠i)→oi.apart ops oj=true)→
   i∈Region.ready md ops listed→YieldsIf P ops S0 oi v a→S listed w→
   Z9 P md ops Q S fuel (listed.setIfInBounds i true) (a.put oi.dst v) w→Z9 P md ops Q S (fuel+1) listed a w:=by
 intro fuel
 induction fuel with
 | zero=>
  intro listed a w _ hr hy hS H
  refine⟨fun h=>(by rw [h] at hr;cases hr),fun j hj=>?_⟩
  have hun:=(mem_ready.1 hr).1
  by_cases hji:j=i
  ·subst hji;exact hy.wpOp hi (hS0 _ _ hun hS) ⟨hSet _ _ hr hS,H⟩
  ·have:=ready_mono hj hji
   rw [H.1] at this
   cases this
 | succ fuel ih=>
  intro listed a w hfree hr hy hS H
  have hun0:=(mem_ready.1 hr).1
  refine⟨fun h=>(by rw [h] at hr;cases hr),fun j hj=>?_⟩
  by_cases hji:j=i
  ·subst hji;exact hy.wpOp hi (hS0 _ _ hun0 hS) ⟨hSet _ _ hr hS,H⟩
  ·have h1:=H.2 j (ready_mono hj hji)
   obtain⟨hjun,oj,hoj,hall⟩:=mem_ready.1 hj
   have hnot: ∀e∈oj.after,Region.binds md e=true→e.on≠i:=fun e he hb heq=>by
    have h1:=hall e he hb
    have h0:=(mem_ready.1 hr).1
    rw [heq] at h1
    rcases Nat.lt_or_ge i listed.size with h' | h'
    ·simp [h'] at h0 h1;rw [h0] at h1;cases h1
    ·simp [Array.getElem?_eq_none h'] at h1
   have h2:=wpOp_putIf hoj (hfree j oj hoj hji hjun hnot) (fun cs b=>hsel i oi cs b hi) (fun cs b=>hsel j oj cs b hoj) hQ hy h1
   have hfree': ∀k ok,ops[k]? =some ok→k≠i→(listed.setIfInBounds j true).getD k true=false→
     (∀e∈ok.after,Region.binds md e=true→e.on≠i)→oi.apart ops ok=true:=fun k ok hk hki hun hno=>by
    refine hfree k ok hk hki ?_ hno
    by_cases hjk:j=k
    ·subst hjk;exact hjun
    ·rw [getD_set_ne true hjk] at hun;exact hun
   have hr':=ready_mono hr (Ne.symm hji)
   refine wpOp_mono (fun a' w' h3=>?_) h2
   have hSj:S (listed.setIfInBounds j true) w':=hback listed j w w' hr hj (Ne.symm hji) hS h3.2.1
   refine⟨hSj,ih (listed.setIfInBounds j true) a' w' hfree' hr' h3.1 hSj ?_⟩
   rw [Array.setIfInBounds_comm _ _ hji];exact h3.2.2
def SG (H F:World→Prop)(st:Nat)(I:List (Nat×Nat))(l:Array Bool)(w:World):Prop:=
 H w∧(l.getD st true=false→F w)∧∀p∈I,l.getD p.1 true=false→l.getD p.2 true=false
def a3q (md:Region.Mode)(ops:Array Oper)(I:List (Nat×Nat)):Bool:=
 I.all fun p=>match ops[p.2]? with | some o=>o.after.any fun e=>Region.binds md e&&e.on==p.1 | none=>false
def a6e (I:List (Nat×Nat))(st:Nat):Nat→Nat→Bool
 | 0,i=>i==st
 | n+1,i=>i==st||I.any fun p=>p.1==i&&a6e I st n p.2
theorem a8P {I:List (Nat×Nat)}{st:Nat}{l:Array Bool}(h: ∀p∈I,l.getD p.1 true=false→l.getD p.2 true=false): ∀n i,a6e I st n i=true→l.getD i true=false→l.getD st true=false
 | 0,i,e,hl=>by
  simp only [a6e,beq_iff_eq] at e
  rw [←e];exact hl
 | n+1,i,e,hl=>by
  simp only [a6e,Bool.or_eq_true,beq_iff_eq,List.any_eq_true,l5] at e
  rcases e with e | ⟨p,hp,e1,e2⟩
  ·rw [←e];exact hl
  ·exact a8P h n p.2 e2 (h p hp (by rw [e1];exact hl))
theorem a6p {md:Region.Mode}{I:List (Nat×Nat)}{p:Nat×Nat}{l:Array Bool}(hw:a3q md ops I=true)(hp:p∈I)(hj:p.2∈Region.ready md ops l):l.getD p.1 true=true:=by
 obtain⟨_,oj,hoj,hall⟩:=mem_ready.1 hj
 have h2:=(List.all_eq_true.1 hw) p hp
 rw [hoj] at h2
 simp only [Array.any_eq_true'] at h2
 obtain⟨e,he,h3⟩:=h2
 simp only [l5,beq_iff_eq] at h3
 have h4:=hall e he h3.1
 rw [h3.2] at h4
 rcases Nat.lt_or_ge p.1 l.size with h' | h'
 ·simp [h'] at h4 ⊢;exact h4
 ·simp [Array.getElem?_eq_none h'] at h4
theorem b2s {H F:World→Prop}{st:Nat}{I:List (Nat×Nat)}{i:Nat}{oi:Oper}{v:Value}{S0:World→Prop}(hi:ops[i]? =some oi)(hsel:Region.noSelect ops=true)
  (hQ: ∀c a w,Q (.panic c) (a.put oi.dst v) w→Q (.panic c) a w)(hw:a3q md ops I=true)(hist:Nat.beq i st=false)
  (hS0:(∀w,H w→S0 w)∨(a6e I st I.length i=true∧∀w,H w→F w→S0 w))
  (fuel:Nat)(listed:Array Bool)(a:Act)(w:World)(hf:Region.free md ops listed i=true)(hr:(Region.ready md ops listed).contains i=true)(hy:YieldsIf P ops S0 oi v a)(hS:SG H F st I listed w)
  (h:Z9 P md ops Q (SG H F st I) fuel (listed.setIfInBounds i true) (a.put oi.dst v) w):Z9 P md ops Q (SG H F st I) (fuel+1) listed a w:=by
 have hne:i≠st:=by intro e;subst e;simp at hist
 refine b05 (S0:=S0) hi (Region.noSelect_spec hsel) hQ (fun l w hl hs=>?_) (fun l w hl hs=>?_) (fun l j w w' hl hj hij hs hs'=>?_) fuel listed a w (Region.free_spec hi hf) (by simpa using hr) hy hS h
 ·rcases hS0 with h0 | ⟨h1,h2⟩
  ·exact h0 w hs.1
  ·exact h2 w hs.1 (hs.2.1 (a8P hs.2.2 _ _ h1 hl))
 ·refine⟨hs.1,fun h1=>hs.2.1 (by rwa [getD_set_ne true hne] at h1),fun p hp h1=>?_⟩
  by_cases hik:i=p.1
  ·rw [←hik] at h1
   exfalso
   rcases Nat.lt_or_ge i l.size with h' | h'
   ·simp [h'] at h1
   ·simp at h1
  ·rw [getD_set_ne true hik] at h1
   by_cases hi2:i=p.2
   ·have:=a6p (p:=p) hw hp (hi2▸hl)
    rw [this] at h1;cases h1
   ·rw [getD_set_ne true hi2];exact hs.2.2 p hp h1
 ·have hun:=(mem_ready.1 hl).1
  have hset: ∀k,i≠k→((l.setIfInBounds i true).setIfInBounds j true).getD k true=(l.setIfInBounds j true).getD k true:=fun k hik=>by
   by_cases hjk:j=k
   ·subst hjk
    rcases Nat.lt_or_ge j l.size with h' | h'
    ·simp [h']
    ·simp [h']
   ·rw [getD_set_ne true hjk,getD_set_ne true hjk,getD_set_ne true hik]
  refine⟨hs'.1,fun h1=>hs'.2.1 (by rw [hset st hne];exact h1),fun p hp h1=>?_⟩
  by_cases hik:i=p.1
  ·have h2:=hs.2.2 p hp (hik▸hun)
   by_cases hjs:j=p.2
   ·have:=a6p (p:=p) hw hp (hjs▸hj)
    rw [←hik,hun] at this;cases this
   ·rw [getD_set_ne true hjs];exact h2
  ·have h2:=hs'.2.2 p hp (by rw [hset p.1 hik];exact h1)
   by_cases hi2:i=p.2
   ·rw [←hi2,getD_set_ne true (Ne.symm hij),hi2] at h2
    exfalso
    rcases Nat.lt_or_ge p.2 l.size with h' | h'
    ·simp [h'] at h2
    ·simp at h2
   ·rw [←hset p.2 hi2];exact h2
end
section
variable {P:Program}{ops:Array Oper}{Q:Exit→Act→World→Prop}{N:Nat}{E:X6}{w w0:World}{K K0:C7}{M:List Nat}{L:List B8}{H F:World→Prop}{st:Nat}{I:List (Nat×Nat)}
def WG (P:Program)(ops:Array Oper)(Q:Exit→Act→World→Prop)(H F:World→Prop)(st:Nat)(I:List (Nat×Nat))(N n:Nat)(listed:Array Bool)(E:X6)(w:World):Prop:=
 ∀t,Fr N E t→Z9 P .any ops Q (SG H F st I) n listed ⟨t,[]⟩ w
theorem b02 {id:Nat}{l:List Oper}(H F:World→Prop)(st:Nat)(I:List (Nat×Nat))(hm:P.follows .mixedOrders=true)
  (h:WG P l.toArray Q H F st I N l.length (Array.replicate l.length false) E w.drew):WC P (.region id l.toArray true) Q N E w:=fun t ht=>by
 refine wp_region_any hm (a9g (S:=SG H F st I) _ _ _ _ ?_)
 have:=h t ht
 rw [List.size_toArray]
 exact this
def Q2 (Q:Exit→Act→World→Prop):Prop:=∀c a a' w,a.defers=a'.defers→Q (.panic c) a w→Q (.panic c) a' w
theorem a1e {fn:Func}{R:Ending→World→Prop}:Q2 (bodyPost P fn R):=fun _ _ _ _ e h=>⟨e▸h.1,h.2⟩
theorem B0 {k:Act→World→Prop}(h:Q2 Q):Q2 (Exit.then k Q):=h
theorem H4 {b:Nat}(h:Q2 Q):Q2 (Exit.inBlock b Q):=h
class PkI (Q:Exit→Act→World→Prop):Prop where
 h:Q2 Q
instance {fn:Func}{R:Ending→World→Prop}:PkI (bodyPost P fn R):=⟨a1e⟩
instance {k:Act→World→Prop}[i:PkI Q]:PkI (Exit.then k Q):=⟨B0 i.h⟩
instance {b:Nat}[i:PkI Q]:PkI (Exit.inBlock b Q):=⟨H4 i.h⟩
theorem b1J (a:Act)(d:Option Tmp)(v:Value):(a.put d v).defers=a.defers:=by cases d<;>rfl
theorem a13 {n i:Nat}{d:Tmp}{op:Op}{ty:TypeId}{pos:String}{af:Array Edge}{gd:Option (Nat×Bool)}{listed listed':Array Bool}{v:Value}(S0:World→Prop)
  (hi:ops[i]? =some ⟨some d,op,ty,pos,af,gd⟩)(hsel:Region.noSelect ops=true)(hQ:Q2 Q)(hw:a3q .any ops I=true)(hist:Nat.beq i st=false)
  (hf:Region.free .any ops listed i=true)(hr:(Region.ready .any ops listed).contains i=true)(hl:listed.setIfInBounds i true=listed')
  (hS0:(∀w,H w→S0 w)∨(a6e I st I.length i=true∧∀w,H w→F w→S0 w))(hS:SG H F st I listed w)
  (hwt:H2 ops N E gd)(hd:Nat.blt d N=true)(hrv: ∀w',S0 w'→RV P E w' op v)(h:WG P ops Q H F st I N n listed' ((d,v)::E) w):WG P ops Q H F st I N (n+1) listed E w:=fun t ht=>by
 subst hl
 exact b2s (S0:=S0) hi hsel (fun c a w h=>hQ c _ _ w (b1J _ _ _) h) hw hist hS0 n listed ⟨t,[]⟩ w hf hr (.inl ⟨hwt t _ _ _ _ _ ht,fun w' hw'=>hrv w' hw' _ _ _ _ _ _ ht.agree⟩) hS (h _ (ht.put hd v))
theorem a99 {o:Oper}{a:Act}{next:Act→World→Prop}{k:Act→World→Prop}{r:Result Next}(h:o.upon P a next (Exit.then k Q) r):o.upon P a next Q r:=by
 cases r with
 | ok n w'=>cases n<;>exact h
 | halt x w'=>cases x<;>exact h
theorem a6V {n i:Nat}{o:Oper}{listed:Array Bool}(hr:Region.ready .any ops listed=[i])(hi:ops[i]? =some o)
  (h:WL P ops (Exit.then (fun a' w'=>SG H F st I (listed.setIfInBounds i true) w'∧Z9 P .any ops Q (SG H F st I) n (listed.setIfInBounds i true) a' w') Q) N [o] E w):WG P ops Q H F st I N (n+1) listed E w:=fun t ht=>by
 refine⟨fun e=>(by rw [hr] at e;cases e),fun j hj=>?_⟩
 rw [hr] at hj
 simp only [List.mem_singleton] at hj
 subst hj
 have h1:=h t ht
 unfold wpOp
 simp only [hi]
 unfold wpList at h1
 split at h1
 ·rename_i hw
  rw [if_pos hw]
  rcases h1 with h1 | h1
  ·exact .inl (a99 h1)
  ·exact .inr h1
 ·rename_i hw
  rw [if_neg hw]
  exact h1
def b4c (p:Nat→Prop):List Nat→Prop
 | []=>True
 | i::r=>p i∧b4c p r
theorem b4c.mem {p:Nat→Prop}: ∀{l:List Nat},b4c p l→∀i∈l,p i
 | [],_,_,hi=>by cases hi
 | _::_,h,i,hi=>by
  rcases List.mem_cons.1 hi with rfl | hi
  ·exact h.1
  ·exact b4c.mem h.2 i hi
theorem b7Q {n:Nat}{l:List Nat}{listed:Array Bool}(hr:Region.ready .any ops listed=l)(hne:l.isEmpty=false)
  (h:b4c (fun i=>∃o,ops[i]? =some o∧WL P ops (Exit.then (fun a' w'=>SG H F st I (listed.setIfInBounds i true) w'∧Z9 P .any ops Q (SG H F st I) n (listed.setIfInBounds i true) a' w') Q) N [o] E w) l):WG P ops Q H F st I N (n+1) listed E w:=fun t ht=>by
 refine⟨fun e=>(by rw [hr] at e;subst e;cases hne),fun j hj=>?_⟩
 rw [hr] at hj
 obtain⟨o,hi,h0⟩:=h.mem j hj
 have h1:=h0 t ht
 unfold wpOp
 simp only [hi]
 unfold wpList at h1
 split at h1
 ·rename_i hw
  rw [if_pos hw]
  rcases h1 with h1 | h1
  ·exact .inl (a99 h1)
  ·exact .inr h1
 ·rename_i hw
  rw [if_neg hw]
  exact h1
theorem a7R {n:Nat}{listed listed':Array Bool}(hl:listed=listed')(hS:SG H F st I listed' w)(h:WG P ops Q H F st I N n listed' E w):
  QE (Exit.then (fun a' w'=>SG H F st I listed w'∧Z9 P .any ops Q (SG H F st I) n listed a' w') Q) .normal N E w:=fun t ht=>by
 subst hl;exact⟨hS,h t ht⟩
theorem b03 {listed:Array Bool}(hr:Region.ready .any ops listed=[])(h:QE Q .normal N E w):WG P ops Q H F st I N 0 listed E w:=fun t ht=>⟨hr,h t ht⟩
def A4 (g:Nat)(cs:List Value)(w:World):Prop:=∀o,w.cell? ⟨g,o,none⟩=cs[o]?
theorem SH.hasObj {g:Nat}{cs:List Value}{T:TypeId}{fr:Nat×Nat}(h:SH w0 K0 M w K L)(hm:r5 g cs T fr∈L):A4 g cs w:=fun o=>h.mem_obj hm o
theorem SH.hasK {K1:C7}(h:SH w0 K0 M w K L)(hl:H7 K1 K):F0 K1 w:=fun b o v e=>h.holds b o v (hl b o v e)
variable {x:Operand}{T:TypeId}{size bytes:Nat}{zero:Value}
theorem a1h {b o:Nat}{v:Value}(hT:TF P T size false zero bytes)(hx:ev E x=some (.pointer (some ⟨b,o,none⟩)))(hk:K b o=some v)(hH:F0 K w):RV P E w (.load T x) v:=
 a1j hT hx (cs:=[v]) (fun j c e=>by
  cases j with
  | zero=>simp at e;subst e;exact hH _ _ _ hk
  | succ j=>simp at e) (.inr ⟨rfl,rfl⟩)
theorem a1T {b o:Nat}{cs:List Value}(hT:TF P T size true zero bytes)(hx:ev E x=some (.pointer (some ⟨b,o,none⟩)))(hk:D7 K b o cs)(hl:cs.length=size)(hH:F0 K w):RV P E w (.load T x) (.agg cs.toArray):=
 a1j hT hx (fun j c e=>hH _ _ _ (hk j c e)) (.inl ⟨rfl,hl,rfl⟩)
theorem z8 {g o:Nat}{cs:List Value}{v:Value}(hT:TF P T size false zero bytes)(hx:ev E x=some (.pointer (some ⟨g,o,none⟩)))(hv:cs[o]? =some v)(hH:A4 g cs w):RV P E w (.load T x) v:=
 a1j hT hx (cs:=[v]) (fun j c e=>by
  cases j with
  | zero=>simp at e;subst e;rw [Nat.add_zero,hH];exact hv
  | succ j=>simp at e) (.inr ⟨rfl,rfl⟩)
theorem B7 {g o:Nat}{cs ds:List Value}(hT:TF P T size true zero bytes)(hx:ev E x=some (.pointer (some ⟨g,o,none⟩)))(hv:(cs.drop o).take size=ds)(hl:ds.length=size)(hH:A4 g cs w):RV P E w (.load T x) (.agg ds.toArray):=
 a1j hT hx (fun j c e=>by
  rw [hH]
  subst hv
  rw [List.getElem?_take] at e
  split at e
  ·rw [List.getElem?_drop] at e;exact e
  ·cases e) (.inl ⟨rfl,hl,rfl⟩)
end
end Go.Fk
namespace Go.Fk
open Go
set_option linter.unusedSectionVars false
variable [dr:Dr]
section
variable {P:Program}{ops:Array Oper}{Q:Exit→Act→World→Prop}{N:Nat}{E:X6}{w w0:World}{K K0:C7}{M:List Nat}{L:List B8}{C:World→Prop}
variable {x y z:Operand}{T T' U:TypeId}{size bytes:Nat}{zero:Value}{agg:Bool}{rest:List Oper}{d:Tmp}{ty:TypeId}{pos:String}{af:Array Edge}{gd:Option (Nat×Bool)}{fr:Nat×Nat}
def A9 {α:Type}(ex:Bool)(t:Ty α)(K:C7)(cs:List Value)(xs:List α):Prop:=
 (xs.length*t.size≤cs.length∧(ex=true→cs.length=xs.length*t.size))∧(∀c∈cs,c.oneCell'=true)∧∀(i:Nat) x,xs[i]? =some x→∃u,t.rel K u x∧∀j d,u.cells.toList[j]? =some d→cs[i*t.size+j]? =some d
theorem A9.mono {ex:Bool}{α:Type}{t:Ty α}{K':C7}(h:H7 K K'){cs:List Value}{xs:List α}(p:A9 ex t K cs xs):A9 ex t K' cs xs:=
 ⟨p.1,p.2.1,fun i x hx=>let ⟨u,hu,hk⟩:=p.2.2 i x hx;⟨u,t.mono h hu,hk⟩⟩
theorem A9.set {ex:Bool}{α:Type}{t:Ty α}{cs:List Value}{xs:List α}{i:Nat}{u:Value}{e:α}(p:A9 ex t K cs xs)(hi:i<xs.length)(hu:t.rel K u e):
  A9 ex t K (H9 cs (i*t.size) u.cells.toList) (xs.set i e):=by
 obtain⟨⟨h1,h1x⟩,h2,h3⟩:=p
 have hl:u.cells.toList.length=t.size:=by simpa using t.size_eq hu
 have hle:(i+1)*t.size≤xs.length*t.size:=Nat.mul_le_mul_right _ hi
 rw [Nat.add_mul,Nat.one_mul] at hle
 have htk:(cs.take (i*t.size)).length=i*t.size:=by rw [List.length_take];omega
 have hsl:(H9 cs (i*t.size) u.cells.toList).length=cs.length:=by simp only [H9,j8,List.length_drop,htk,hl];omega
 refine⟨⟨by rw [hsl,List.length_set];exact h1,fun e=>by rw [hsl,List.length_set];exact h1x e⟩,fun c hc=>?_,fun k z hz=>?_⟩
 ·simp only [H9,List.mem_append] at hc
  rcases hc with (hc | hc) | hc
  ·exact h2 c (List.mem_of_mem_take hc)
  ·exact t.ones hu c hc
  ·exact h2 c (List.mem_of_mem_drop hc)
 ·rw [List.getElem?_set] at hz
  split at hz
  ·rename_i hik
   subst hik
   cases hz
   refine⟨u,hu,fun j d e=>?_⟩
   have hj:=(g8.1 e).1
   simp only [H9,List.append_assoc]
   rw [List.getElem?_append_right (by rw [htk];omega),htk,List.getElem?_append_left (by omega)]
   rw [←e];congr 1;omega
  ·rename_i hik
   obtain⟨u',hu',hk⟩:=h3 k z hz
   refine⟨u',hu',fun j d e=>?_⟩
   have hj:=(g8.1 e).1
   have hl':u'.cells.toList.length=t.size:=by simpa using t.size_eq hu'
   have h5:=hk j d e
   simp only [H9,List.append_assoc]
   rcases Nat.lt_or_ge k i with hlt | hge
   ·have:(k+1)*t.size≤i*t.size:=Nat.mul_le_mul_right _ hlt
    rw [Nat.add_mul,Nat.one_mul] at this
    rw [List.getElem?_append_left (by rw [htk];omega),List.getElem?_take,if_pos (by omega)];exact h5
   ·have:(i+1)*t.size≤k*t.size:=Nat.mul_le_mul_right _ (by omega)
    rw [Nat.add_mul,Nat.one_mul] at this
    rw [List.getElem?_append_right (by rw [htk];omega),htk,List.getElem?_append_right (by omega),hl,List.getElem?_drop,←h5]
    congr 1;omega
def a9Q {α:Type}(bytes:Nat)(n:Int)(e:α):Option (List α):=if 0≤n∧n*bytes≤140737488355328 then some (List.replicate n.toNat e) else none
theorem b39 {α:Type}{t:Ty α}{n:Int}{e:α}{xs:List α}(hw:H2 ops N E gd)(hd:Nat.blt d N=true)(hT:P.underlying T=some (.slice U))(hU:TF P U t.size agg zero bytes)(hb:Nat.blt 0 bytes=true)
  (hx:ev E x=some (.int .i64 n))(hy:ev E y=some (.int .i64 n))(hn:a9Q bytes n e=some xs)(hz:t.rel K zero e)(hS:SH w0 K0 M w K L)
  (h: ∀g cs w',xs.length≤maxLen→A9 true t K cs xs→SH w0 K0 M w' K (r5 g cs U::L)→WL P ops Q N rest ((d,.slice (some ⟨g,0,none⟩) xs.length xs.length)::E) w'):
  WL P ops Q N (⟨some d,.makeSlice T x y,ty,pos,af,gd⟩::rest) E w:=by
 unfold a9Q at hn
 split at hn
 case isFalse=>cases hn
 rename_i hbd
 cases hn
 obtain⟨i0,hi,hiz,his,hib⟩:=hU.info_
 have hb':0<bytes:=by simpa [Nat.blt_eq] using hb
 have hmul:n.toNat*bytes≤140737488355328:=by
  have:((n.toNat*bytes:Nat):Int)=n*bytes:=by rw [Int.natCast_mul];congr 1;omega
  omega
 have hle:n.toNat≤140737488355328:=Nat.le_trans (Nat.le_mul_of_pos_right _ hb') hmul
 have hr:=run_make (P:=P) w T U i0 zero hT hi hiz .i64 .i64 n n hbd.1 (Int.le_refl _) (by rw [hib,Int.mul_comm];omega) (by omega)
 have hzs:zero.cells.size=t.size:=t.size_eq hz
 have hlen:(madeCells zero.cells (n.toNat*i0.size)).toList.length=n.toNat*t.size:=by rw [Array.length_toList,size_madeCells,his]
 refine a3M (v:=.slice (some ⟨w.heap.size,0,none⟩) n.toNat n.toNat) (w':=w.alloc (.cells (madeCells zero.cells (n.toNat*i0.size)) U)) hw hd (fun ρ _ _ _ _ _ ha=>?_) ?_
 ·simp only [execOp,ha x _ hx,ha y _ hy,Sem.run_bind,hr,Result.andThen_ok]
  rfl
 ·have hS':=hS.newObj (madeCells zero.cells (n.toNat*i0.size)).toList U
  have hrow:A9 true t K (madeCells zero.cells (n.toNat*i0.size)).toList (List.replicate n.toNat e):=by
   have hat: ∀k,k<n.toNat*t.size→(madeCells zero.cells (n.toNat*i0.size)).toList[k]? =some (zero.cells[k%zero.cells.size]!):=fun k hk=>by
    have hk':k<n.toNat*i0.size:=by rw [his];exact hk
    simp [madeCells,hk']
   refine⟨⟨by rw [hlen,List.length_replicate];exact Nat.le_refl _,fun _=>by rw [hlen,List.length_replicate]⟩,fun c hc=>?_,fun k z hz'=>⟨zero,?_,fun j dd e'=>?_⟩⟩
   ·obtain⟨k,hk,e'⟩:=List.getElem_of_mem hc
    have h1:=hat k (by rw [←hlen];exact hk)
    rw [i6 hk,e'] at h1
    injection h1 with h1
    subst h1
    by_cases hz0:0<zero.cells.size
    ·have hm:k%zero.cells.size<zero.cells.size:=Nat.mod_lt _ hz0
     refine t.ones hz _ ?_
     rw [getElem!_pos zero.cells _ hm]
     exact Array.getElem_mem_toList hm
    ·exfalso
     have h0:t.size=0:=by omega
     rw [hlen,h0] at hk
     omega
   ·have:=(g8.1 hz').2
    simp at this
    subst this;exact hz
   ·have hk:=(g8.1 hz').1
    rw [List.length_replicate] at hk
    have hj:=(g8.1 e').1
    rw [Array.length_toList,hzs] at hj
    have hle2:(k+1)*t.size≤n.toNat*t.size:=Nat.mul_le_mul_right _ hk
    rw [Nat.add_mul,Nat.one_mul] at hle2
    rw [hat _ (by omega),hzs,Nat.add_comm,Nat.add_mul_mod_self_right,Nat.mod_eq_of_lt hj,←e',getElem!_pos zero.cells j (by omega)]
    rw [Array.getElem?_toList,Array.getElem?_eq_getElem (by omega)]
  have:=h w.heap.size _ _ (by rw [List.length_replicate];exact Nat.le_trans hle (by decide)) hrow (by simpa using hS')
  simpa using this
theorem b0N {m n:Nat}(h:m=n)(hm:m≤maxLen):n≤maxLen:=h▸hm
theorem N6 {α:Type}{t:Ty α}{g m c:Nat}{xs:List α}{k:IntKind}{i:Int}{e:α}(hT:P.underlying T=some (.slice U))(hU:TF P U t.size agg zero bytes)
  (hx:ev E x=some (.slice (some ⟨g,0,none⟩) m c))(hy:ev E y=some (.int k i))(hm:m=xs.length)(hz:p8 xs i=some e):RV P E w (.indexAddr T x y) (.pointer (some ⟨g,i.toNat*t.size,none⟩)):=fun ρ _ _ _ _ _ ha=>by
 obtain⟨g0,g1,g2⟩:=a0j hz
 subst hm
 have hlt:i<(xs.length:Int):=by omega
 simp [execOp,ha x _ hx,ha y _ hy,Instr.indexAt,asIntOf,run_underlying hT,g0,hlt,H8 hU,a2N]
theorem a3l {α:Type}{xs:List α}{a:Option Addr}{m c:Nat}(hT:P.underlying T=some (.slice U))(hx:ev E x=some (.slice a m c))(hm:m=xs.length):
  RV P E w (.call {callee:=.builtin .len,args:=#[x],argTypes:=#[T]}) (.int .i64 xs.length):=fun ρ _ _ _ _ _ ha=>by
 subst hm
 simp [execOp,resolve,invoke,builtin,ha x _ hx,Builtin.len_,run_underlying hT,goInt]
theorem a2M {ex:Bool}{α:Type}{t:Ty α}{g:Nat}{i:Int}{cs:List Value}{xs:List α}{v:Value}{e e':α}(hw:H2 ops N E gd)(hT:TF P T t.size agg zero bytes)(hx:ev E x=some (.pointer (some ⟨g,i.toNat*t.size,none⟩)))(hy:ev E y=some v)(hv:t.rel K v e)
  (hS:SH w0 K0 M w K (r5 g cs U fr::L))(hr:A9 ex t K cs xs)(hz:p8 xs i=some e')
  (h: ∀cs' w',A9 ex t K cs' (xs.set i.toNat e)→SH w0 K0 M w' K (r5 g cs' U fr::L)→WL P ops Q N rest E w'):WL P ops Q N (⟨none,.store T x y,ty,pos,af,gd⟩::rest) E w:=by
 obtain⟨g0,g1,g2⟩:=a0j hz
 have hi:=(g8.1 g2).1
 have hle:(i.toNat+1)*t.size≤xs.length*t.size:=Nat.mul_le_mul_right _ hi
 rw [Nat.add_mul,Nat.one_mul] at hle
 have hl:=hr.1.1
 obtain⟨h1,h2⟩:=b1S hT hx hy (t.size_eq hv) (t.ones hv) hS (by simp;omega)
 exact b2q hw h1 (h _ _ (hr.set hi hv) h2)
theorem SH.freeze {α:Type}{t:Ty α}{g:Nat}{cs:List Value}{xs:List α}(h:SH w0 K0 M w K (r5 g cs U::L))(hr:A9 true t K cs xs)(hm:xs.length≤maxLen):
  ∃K',H7 K K'∧b7 t K' (some ⟨g,0,none⟩) xs.length xs.length xs∧SH w0 K0 M w K' (tail (.slice (some ⟨g,0,none⟩) xs.length xs.length) U t.size::L):=by
 obtain⟨e,_⟩:=h.obj_at
 have hnone:=((h.items _ (List.mem_cons_self ..)).2 g rfl).2
 have hlt:=h.own
 have hle:H7 K (K.put g (fun o=>cs[o]?)):=fun b o v e'=>by
  by_cases hb:b=g
  ·rw [hb,hnone] at e';cases e'
  ·rw [K.put_other _ hb];exact e'
 refine⟨_,hle,b7.of_cells rfl (Nat.le_refl _) hm (fun i z hz=>?_),?_⟩
 ·obtain⟨u,hu,hk⟩:=hr.2.2 i z hz
  exact⟨u,t.mono hle hu,fun j d e=>by rw [K.put_same];exact hk j d e⟩
 ·refine h.drop.step (w':=w) rfl rfl rfl (Nat.le_refl _) (by omega) (fun b _ _=>rfl) hlt.1 hlt.2 h.apart (fun b hb=>K.put_other _ hb) (fun o v e=>hle g o v e)
   (fun o v e=>?_) rfl ⟨.inr ⟨g,_,_,rfl,Nat.le_refl _,hm⟩,g,_,_,_,rfl,e,by simpa using hr.1.2 rfl,fun i hi=>?_⟩
  ·rw [K.put_same] at e;rw [h.obj_cell];exact e
  ·rw [K.put_same,List.getElem?_eq_none];rw [hr.1.2 rfl];exact hi
theorem A9.at {ex:Bool}{α:Type}{t:Ty α}{cs:List Value}{xs:List α}{i:Int}{e:α}(hr:A9 ex t K cs xs)(hz:p8 xs i=some e): ∃u,t.rel K u e∧∀j d,u.cells.toList[j]? =some d→cs[i.toNat*t.size+j]? =some d:=
 hr.2.2 _ _ (a0j hz).2.2
theorem a3j {g o o':Nat}{cs:List Value}{v:Value}(hT:TF P T size false zero bytes)(hx:ev E x=some (.pointer (some ⟨g,o',none⟩)))(ho:o'=o)(hv:cs[o]? =some v)(hH:A4 g cs w):RV P E w (.load T x) v:=by
 subst ho;exact z8 hT hx hv hH
section
variable {a b:UInt32}
end
section
variable {H F:World→Prop}{st:Nat}{I:List (Nat×Nat)}
theorem b04 {α:Type}{t:Ty α}{a:Option Addr}{nn c:Nat}{xs:List α}{k:IntKind}{i:Int}{e:α}{n j:Nat}{listed listed':Array Bool}
  (hi:ops[j]? =some ⟨some d,.indexAddr T x y,ty,pos,af,gd⟩)(hsel:Region.noSelect ops=true)(hQ:Q2 Q)(hwa:a3q .any ops I=true)(hist:Nat.beq j st=false)
  (hf:Region.free .any ops listed j=true)(hr:(Region.ready .any ops listed).contains j=true)(hl:listed.setIfInBounds j true=listed')(hS:SG H F st I listed w)
  (hw:H2 ops N E gd)(hd:Nat.blt d N=true)(hT:P.underlying T=some (.slice U))(hU:TF P U t.size agg zero bytes)
  (hx:ev E x=some (.slice a nn c))(hy:ev E y=some (.int k i))(hs:b7 t K a nn c xs)(hz:p8 xs i=some e)
  (h: ∀b o u,t.rel K u e→D7 K b o u.cells.toList→WG P ops Q H F st I N n listed' ((d,.pointer (some ⟨b,o,none⟩))::E) w):WG P ops Q H F st I N (n+1) listed E w:=by
 obtain⟨b,o,u,h1,h2,h3⟩:=a1i hT hU hx hy hs hz
 exact a13 (fun _=>True) hi hsel hQ hwa hist hf hr hl (.inl fun _ _=>trivial) hS hw hd (fun w' _=>h1 w') (h b o u h2 h3)
end
end
def ltO {β:Type}(c:β→β→Option Int)(x y:β):Bool:=decide ((c x y).getD 0<0)
def b0V {β:Type}(c:β→β→Option Int)(xs:List β):Bool:=
 decide (xs.length<4611686018427387904)&&(xs.all fun x=>xs.all fun y=>(c x y).isSome)&&(xs.all fun x=> !ltO c x x)&&
  (xs.all fun x=>xs.all fun y=>xs.all fun z=> !(ltO c x y&&ltO c y z)||ltO c x z)&&(xs.all fun x=>xs.all fun y=>xs.all fun z=>(ltO c x y||ltO c y z)|| !ltO c x z)&&
  decide (xs.Pairwise fun a b=>ltO c a b=true∨ltO c b a=true)
def b14 {β:Type}(c:β→β→Option Int)(xs:List β):Option (List β):=if b0V c xs=true then some (xs.mergeSort fun x y=> !ltO c y x) else none
end Go.Fk
namespace Go.Fk
open Go Go.ChangeShapes Go.WideShapes Go.ChangeAt Go.RowKit
set_option linter.unusedSectionVars false
variable [dr:Dr]
def b8n (W:World):C7:=fun b o=>W.cell? ⟨b,o,none⟩
theorem b49 (W:World):SH W (b8n W) [] W (b8n W) []:=SH.start (fun _ _ _ e=>e)
theorem b6X {W:World}{a:Addr}{v:Value}(h:W.cell? a=some v):a.block<W.heap.size:=by
 rcases Nat.lt_or_ge a.block W.heap.size with h' | h'
 ·exact h'
 ·have e:W.heap[a.block]? =none:=Array.getElem?_eq_none h'
  simp [World.cell?,e] at h
section
variable {H:Type}{enc:TypeId×Value→H}{P:Program}{W W':World}
theorem b0J {t e:TypeId}{v:Value}{d:DataW H}{ps:List MemPlace}{b0:Nat}(ht:P.underlying t=some (.slice e))(he:P.underlying e=some (.int .u8))(hc:P.cellsOf e=1)
  (hv:Value.okWide P W .any b0 t v)(h0:DataW.Trod enc P W 0 (fun _=>true) true t v d ps):
  ∃(a:Option Addr) (n c:Nat) (xs:List UInt8),v= .slice a n c∧b7 tU8 (b8n W) a n c xs∧
   ∀W',Below W.heap.size W W'→∀sp:Nat→Bool,(∀p∈ps,sp p.block=true)→DataW.Trod enc P W' 0 sp true t v d ps:=by
 obtain⟨a0,len,cap,rfl⟩:=okWide_slice ht hv
 obtain⟨fuel,hf⟩:=h0
 rcases open_ints ht he hc hf with ⟨hcs,hx⟩ | ⟨a,len',cap',zs,hcs,_,hl,hm,hz,hx,hcell,hwz⟩
 ·simp [Value.cells] at hcs
  obtain⟨rfl,rfl,rfl⟩:=hcs
  simp only [Prod.mk.injEq] at hx
  obtain⟨rfl,rfl⟩:=hx
  exact⟨none,0,0,[],rfl,⟨rfl,Nat.le_refl _,Nat.zero_le _,fun h=>absurd h (Nat.lt_irrefl _)⟩,fun W' _ sp _=>shut_slice_nil ht⟩
 ·simp [Value.cells] at hcs
  obtain⟨rfl,rfl,rfl⟩:=hcs
  simp only [Prod.mk.injEq] at hx
  obtain⟨rfl,rfl⟩:=hx
  simp only [if_true] at hz
  refine⟨some a,len,cap,(zs.take len).map fun z=>UInt8.ofNat z.toNat,rfl,⟨by simp;omega,hl,hm,fun h=>?_⟩,fun W' hB sp hsp=>?_⟩
  ·obtain⟨b,off,spot⟩:=a
   have hspot:spot=none:=by simpa [Addr.add] using World.cell?_spot (hcell 0 (by omega))
   subst hspot
   refine⟨b,off,rfl,fun i x hx=>⟨iv8 x,rfl,fun j c hj=>?_⟩⟩
   rw [List.getElem?_map] at hx
   obtain⟨z,hz1,rfl⟩:=Option.map_eq_some_iff.1 hx
   rw [List.getElem?_take] at hz1
   split at hz1
   case isFalse=>cases hz1
   have hi:=(g8.1 hz1).1
   have hw:=hwz z (m8 hz1)
   have hz2:zs.getD i 0=z:=by rw [List.getD_eq_getElem?_getD,hz1];rfl
   have hw':0≤z∧z≤255:=by simpa [Lit.wf,IntKind.min,IntKind.max,IntKind.signed,IntKind.bits] using hw
   have hcl:=hcell i hi
   rw [add_plain,hz2] at hcl
   cases j with
   | zero=>
    simp [iv8,Value.cells] at hj
    subst hj
    have e1:((UInt8.ofNat z.toNat).toNat:Int)=z:=by simp;omega
    show W.cell? ⟨b,off+i*1+0,none⟩=_
    rw [Nat.mul_one,Nat.add_zero,hcl]
    congr 2
    omega
   | succ j=>simp [iv8,Value.cells] at hj
  ·have hcell': ∀i,i<zs.length→W'.cell? (a.add i)=some (.int .u8 (zs.getD i 0)):=fun i hi=>by
    rw [hB.cell (b6X (hcell i hi))];exact hcell i hi
   by_cases hz0:zs.length=0
   ·have hc0:cap=0:=by omega
    have hl0:len=0:=by omega
    subst hc0;subst hl0
    have t0:=shut_ints (enc:=enc) (w:=W') (base:=0) (spare:=sp) (held:=true) (a:=a) (len:=0) (cap:=0) (zs:=zs) 0 ht he hc (Nat.zero_le _) (Nat.le_refl _) hm (by simp [hz0]) hcell' hwz
    exact⟨2,by simpa [Value.cells] using t0⟩
   ·have hspb:sp a.block=true:=by
     have:=hsp (.cell a.block a.off) (MemPlace.mem_row.2 ⟨0,by omega,by simp⟩)
     exact this
    have t0:=shut_ints (enc:=enc) (w:=W') (base:=0) (spare:=sp) (held:=true) (a:=a) (len:=len) (cap:=cap) (zs:=zs) 0 ht he hc (Nat.zero_le _) hl hm (by simp [hspb,hz]) hcell' hwz
    exact⟨2,by simpa [Value.cells] using t0⟩
theorem a9u {f:Func}{s:ChangeSpec}{apart fresh handsOn again:Bool}{args:Array Value}{v:Value}{ds gs:List (DataW H)}{before pa pv:List MemPlace}
  (hW:DataW.Whole enc P f.params.toList s.vars apart W args.toList ds gs before)
  (hres: ∀(b:Nat) (sp:Nat→Bool) (hd:Bool),DataW.TrodAll enc P W' b sp hd f.resultTypes.toList (v.resultList f.resultTypes.size) (s.fn H (ds++gs)).results [])
  (hargs: ∀sp:Nat→Bool,(∀p∈before,sp p.block=true)→DataW.TrodAll enc P W' 0 sp true f.params.toList args.toList (s.fn H (ds++gs)).args pa)
  (hvars: ∀sp:Nat→Bool,(∀p∈before,sp p.block=true)→DataW.TrodVars enc P W' sp s.vars (s.fn H (ds++gs)).vars pv)
  (hps:before=pa++pv)(hB:Below W.heap.size W W')
  (hok: ∀(j:Nat) (t:TypeId) (r:Value),f.resultTypes[j]? =some t→(v.resultList f.resultTypes.size)[j]? =some r→Value.okWide P W' .any 0 t r):
  s.post enc P f apart fresh handsOn again W args v W':=by
 have hlt: ∀p∈before,p.block<W.heap.size:=hW.lt
 have hin: ∀p∈before,(fun b=>decide (b<W.heap.size)) p.block=true:=fun p hp=>by simpa using hlt p hp
 refine⟨ds,gs,before,[],pa,pv,hW,hres _ _ _,hargs _ hin,hvars _ hin,hB.frame _,fun _=>?_⟩
 obtain⟨_,_,_,_,_,hz,hn⟩:=hW
 refine⟨hok,_,_,([]++pa)++pv,⟨[]++pa,pv,trodAll_append (hargs _ (fun _ _=>rfl)) (hres _ _ _),hvars _ (fun _ _=>rfl),rfl,?_,?_⟩,?_⟩
 ·intro b off hp
  have hp':MemPlace.cell b off∈before:=by rw [hps];simpa using hp
  have:=hB.frozen (p:=⟨b,off,none⟩) (hlt _ hp')
  rw [this]
  exact hz b off hp'
 ·intro ha
  have:=hn ha
  rw [hps] at this
  simpa using this
 ·intro p hp _
  rw [hps]
  simpa using hp
end
end Go.Fk
