/-
  Regions that draw their order and write: quiet operations are taken first, the others come one by one. Of no program.
-/
import Derived.Test.YtpjefkdclnmlfaaGreatCoreI
import Derived.OrdersHeld
namespace Go.Fk
open Go
set_option linter.unusedSectionVars false
variable [dr:Dr]
section
variable {P:Program}{ops:Array Oper}{Q:Exit→Act→World→Prop}{md:Region.Mode}{S:Array Bool→World→Prop}
def wpAnyG (P:Program)(md:Region.Mode)(ops:Array Oper)(Q:Exit→Act→World→Prop)(S:Array Bool→World→Prop):Nat→Array Bool→Act→World→Prop
 | 0,listed,a,w=>Region.ready md ops listed=[]∧Q .normal a w
 | fuel+1,listed,a,w=>
  (Region.ready md ops listed=[]→Q .normal a w)∧
  ∀i∈Region.ready md ops listed,wpOp P ops Q i (fun a' w'=>S (listed.setIfInBounds i true) w'∧wpAnyG P md ops Q S fuel (listed.setIfInBounds i true) a' w') a w
theorem wpAny_of_G: ∀(fuel:Nat) (listed:Array Bool) (a:Act) (w:World),wpAnyG P md ops Q S fuel listed a w→wpAny P md ops Q fuel listed a w
 | 0,_,_,_,h=>h
 | fuel+1,_,_,_,h=>⟨h.1,fun i hi=>wpOp_mono (fun a' w' h'=>wpAny_of_G fuel _ a' w' h'.2) (h.2 i hi)⟩
theorem wpAnyG_first {i:Nat}{oi:Oper}{v:Value}{S0:World→Prop}(hi:ops[i]? =some oi)(hsel: ∀(j:Nat) (o:Oper) cs b,ops[j]? =some o→o.op≠ .select cs b)
  (hQ: ∀c a w,Q (.panic c) (a.put oi.dst v) w→Q (.panic c) a w)(hS0: ∀listed w,listed.getD i true=false→S listed w→S0 w)(hSet: ∀listed w,i∈Region.ready md ops listed→S listed w→S (listed.setIfInBounds i true) w)
  (hback: ∀(l:Array Bool) j w w',i∈Region.ready md ops l→j∈Region.ready md ops l→i≠j→S l w→S ((l.setIfInBounds i true).setIfInBounds j true) w'→S (l.setIfInBounds j true) w'):
  ∀(fuel:Nat) (listed:Array Bool) (a:Act) (w:World),
   (∀j oj,ops[j]? =some oj→j≠i→listed.getD j true=false→(∀e∈oj.after,Region.binds md e=true→e.on≠i)→oi.apart ops oj=true)→
   i∈Region.ready md ops listed→YieldsIf P ops S0 oi v a→S listed w→
   wpAnyG P md ops Q S fuel (listed.setIfInBounds i true) (a.put oi.dst v) w→wpAnyG P md ops Q S (fuel+1) listed a w:=by
 intro fuel
 induction fuel with
 | zero=>
  intro listed a w _ hr hy hS H
  refine⟨fun h=>(by rw [h] at hr;cases hr),fun j hj=>?_⟩
  have hun:=(mem_ready.1 hr).1
  by_cases hji:j=i
  ·subst hji;exact hy.wpOp hi (hS0 _ _ hun hS) ⟨hSet _ _ hr hS,H⟩
  ·have:=ready_mono hj hji
   rw [H.1] at this
   cases this
 | succ fuel ih=>
  intro listed a w hfree hr hy hS H
  have hun0:=(mem_ready.1 hr).1
  refine⟨fun h=>(by rw [h] at hr;cases hr),fun j hj=>?_⟩
  by_cases hji:j=i
  ·subst hji;exact hy.wpOp hi (hS0 _ _ hun0 hS) ⟨hSet _ _ hr hS,H⟩
  ·have h1:=H.2 j (ready_mono hj hji)
   obtain⟨hjun,oj,hoj,hall⟩:=mem_ready.1 hj
   have hnot: ∀e∈oj.after,Region.binds md e=true→e.on≠i:=fun e he hb heq=>by
    have h1:=hall e he hb
    have h0:=(mem_ready.1 hr).1
    rw [heq] at h1
    rcases Nat.lt_or_ge i listed.size with h' | h'
    ·simp [h'] at h0 h1;rw [h0] at h1;cases h1
    ·simp [Array.getElem?_eq_none h'] at h1
   have h2:=wpOp_putIf hoj (hfree j oj hoj hji hjun hnot) (fun cs b=>hsel i oi cs b hi) (fun cs b=>hsel j oj cs b hoj) hQ hy h1
   have hfree': ∀k ok,ops[k]? =some ok→k≠i→(listed.setIfInBounds j true).getD k true=false→
     (∀e∈ok.after,Region.binds md e=true→e.on≠i)→oi.apart ops ok=true:=fun k ok hk hki hun hno=>by
    refine hfree k ok hk hki ?_ hno
    by_cases hjk:j=k
    ·subst hjk;exact hjun
    ·rw [getD_set_ne true hjk] at hun;exact hun
   have hr':=ready_mono hr (Ne.symm hji)
   refine wpOp_mono (fun a' w' h3=>?_) h2
   have hSj:S (listed.setIfInBounds j true) w':=hback listed j w w' hr hj (Ne.symm hji) hS h3.2.1
   refine⟨hSj,ih (listed.setIfInBounds j true) a' w' hfree' hr' h3.1 hSj ?_⟩
   rw [Array.setIfInBounds_comm _ _ hji];exact h3.2.2
def SG (H F:World→Prop)(st:Nat)(I:List (Nat×Nat))(l:Array Bool)(w:World):Prop:=
 H w∧(l.getD st true=false→F w)∧∀p∈I,l.getD p.1 true=false→l.getD p.2 true=false
def waits (md:Region.Mode)(ops:Array Oper)(I:List (Nat×Nat)):Bool:=
 I.all fun p=>match ops[p.2]? with | some o=>o.after.any fun e=>Region.binds md e&&e.on==p.1 | none=>false
def reach (I:List (Nat×Nat))(st:Nat):Nat→Nat→Bool
 | 0,i=>i==st
 | n+1,i=>i==st||I.any fun p=>p.1==i&&reach I st n p.2
theorem reach_spec {I:List (Nat×Nat)}{st:Nat}{l:Array Bool}(h: ∀p∈I,l.getD p.1 true=false→l.getD p.2 true=false): ∀n i,reach I st n i=true→l.getD i true=false→l.getD st true=false
 | 0,i,e,hl=>by
  simp only [reach,beq_iff_eq] at e
  rw [←e];exact hl
 | n+1,i,e,hl=>by
  simp only [reach,Bool.or_eq_true,beq_iff_eq,List.any_eq_true,Bool.and_eq_true] at e
  rcases e with e | ⟨p,hp,e1,e2⟩
  ·rw [←e];exact hl
  ·exact reach_spec h n p.2 e2 (h p hp (by rw [e1];exact hl))
theorem waits_listed {md:Region.Mode}{I:List (Nat×Nat)}{p:Nat×Nat}{l:Array Bool}(hw:waits md ops I=true)(hp:p∈I)(hj:p.2∈Region.ready md ops l):l.getD p.1 true=true:=by
 obtain⟨_,oj,hoj,hall⟩:=mem_ready.1 hj
 have h2:=(List.all_eq_true.1 hw) p hp
 rw [hoj] at h2
 simp only [Array.any_eq_true'] at h2
 obtain⟨e,he,h3⟩:=h2
 simp only [Bool.and_eq_true,beq_iff_eq] at h3
 have h4:=hall e he h3.1
 rw [h3.2] at h4
 rcases Nat.lt_or_ge p.1 l.size with h' | h'
 ·simp [h'] at h4 ⊢;exact h4
 ·simp [Array.getElem?_eq_none h'] at h4
theorem wpAnyG_take {H F:World→Prop}{st:Nat}{I:List (Nat×Nat)}{i:Nat}{oi:Oper}{v:Value}{S0:World→Prop}(hi:ops[i]? =some oi)(hsel:Region.noSelect ops=true)
  (hQ: ∀c a w,Q (.panic c) (a.put oi.dst v) w→Q (.panic c) a w)(hw:waits md ops I=true)(hist:Nat.beq i st=false)
  (hS0:(∀w,H w→S0 w)∨(reach I st I.length i=true∧∀w,H w→F w→S0 w))
  (fuel:Nat)(listed:Array Bool)(a:Act)(w:World)(hf:Region.free md ops listed i=true)(hr:(Region.ready md ops listed).contains i=true)(hy:YieldsIf P ops S0 oi v a)(hS:SG H F st I listed w)
  (h:wpAnyG P md ops Q (SG H F st I) fuel (listed.setIfInBounds i true) (a.put oi.dst v) w):wpAnyG P md ops Q (SG H F st I) (fuel+1) listed a w:=by
 have hne:i≠st:=by intro e;subst e;simp at hist
 refine wpAnyG_first (S0:=S0) hi (Region.noSelect_spec hsel) hQ (fun l w hl hs=>?_) (fun l w hl hs=>?_) (fun l j w w' hl hj hij hs hs'=>?_) fuel listed a w (Region.free_spec hi hf) (by simpa using hr) hy hS h
 ·rcases hS0 with h0 | ⟨h1,h2⟩
  ·exact h0 w hs.1
  ·exact h2 w hs.1 (hs.2.1 (reach_spec hs.2.2 _ _ h1 hl))
 ·refine⟨hs.1,fun h1=>hs.2.1 (by rwa [getD_set_ne true hne] at h1),fun p hp h1=>?_⟩
  by_cases hik:i=p.1
  ·rw [←hik] at h1
   exfalso
   rcases Nat.lt_or_ge i l.size with h' | h'
   ·simp [h'] at h1
   ·simp at h1
  ·rw [getD_set_ne true hik] at h1
   by_cases hi2:i=p.2
   ·have:=waits_listed (p:=p) hw hp (hi2▸hl)
    rw [this] at h1;cases h1
   ·rw [getD_set_ne true hi2];exact hs.2.2 p hp h1
 ·have hun:=(mem_ready.1 hl).1
  have hset: ∀k,i≠k→((l.setIfInBounds i true).setIfInBounds j true).getD k true=(l.setIfInBounds j true).getD k true:=fun k hik=>by
   by_cases hjk:j=k
   ·subst hjk
    rcases Nat.lt_or_ge j l.size with h' | h'
    ·simp [h']
    ·simp [h']
   ·rw [getD_set_ne true hjk,getD_set_ne true hjk,getD_set_ne true hik]
  refine⟨hs'.1,fun h1=>hs'.2.1 (by rw [hset st hne];exact h1),fun p hp h1=>?_⟩
  by_cases hik:i=p.1
  ·have h2:=hs.2.2 p hp (hik▸hun)
   by_cases hjs:j=p.2
   ·have:=waits_listed (p:=p) hw hp (hjs▸hj)
    rw [←hik,hun] at this;cases this
   ·rw [getD_set_ne true hjs];exact h2
  ·have h2:=hs'.2.2 p hp (by rw [hset p.1 hik];exact h1)
   by_cases hi2:i=p.2
   ·rw [←hi2,getD_set_ne true (Ne.symm hij),hi2] at h2
    exfalso
    rcases Nat.lt_or_ge p.2 l.size with h' | h'
    ·simp [h'] at h2
    ·simp at h2
   ·rw [←hset p.2 hi2];exact h2
end
section
variable {P:Program}{ops:Array Oper}{Q:Exit→Act→World→Prop}{N:Nat}{E:Env}{w w0:World}{K K0:KMap}{M:List Nat}{L:List Item}{H F:World→Prop}{st:Nat}{I:List (Nat×Nat)}
def WG (P:Program)(ops:Array Oper)(Q:Exit→Act→World→Prop)(H F:World→Prop)(st:Nat)(I:List (Nat×Nat))(N n:Nat)(listed:Array Bool)(E:Env)(w:World):Prop:=
 ∀t,Fr N E t→wpAnyG P .any ops Q (SG H F st I) n listed ⟨t,[]⟩ w
theorem wc_held {id:Nat}{l:List Oper}(H F:World→Prop)(st:Nat)(I:List (Nat×Nat))(hm:P.follows .mixedOrders=true)
  (h:WG P l.toArray Q H F st I N l.length (Array.replicate l.length false) E w.drew):WC P (.region id l.toArray true) Q N E w:=fun t ht=>by
 refine wp_region_any hm (wpAny_of_G (S:=SG H F st I) _ _ _ _ ?_)
 have:=h t ht
 rw [List.size_toArray]
 exact this
def PanicOk (Q:Exit→Act→World→Prop):Prop:=∀c a a' w,a.defers=a'.defers→Q (.panic c) a w→Q (.panic c) a' w
theorem pk_body {fn:Func}{R:Ending→World→Prop}:PanicOk (bodyPost P fn R):=fun _ _ _ _ e h=>⟨e▸h.1,h.2⟩
theorem pk_then {k:Act→World→Prop}(h:PanicOk Q):PanicOk (Exit.then k Q):=h
theorem pk_block {b:Nat}(h:PanicOk Q):PanicOk (Exit.inBlock b Q):=h
class PkI (Q:Exit→Act→World→Prop):Prop where
 h:PanicOk Q
instance {fn:Func}{R:Ending→World→Prop}:PkI (bodyPost P fn R):=⟨pk_body⟩
instance {k:Act→World→Prop}[i:PkI Q]:PkI (Exit.then k Q):=⟨pk_then i.h⟩
instance {b:Nat}[i:PkI Q]:PkI (Exit.inBlock b Q):=⟨pk_block i.h⟩
theorem put_defers' (a:Act)(d:Option Tmp)(v:Value):(a.put d v).defers=a.defers:=by cases d<;>rfl
theorem wg_val {n i:Nat}{d:Tmp}{op:Op}{ty:TypeId}{pos:String}{af:Array Edge}{gd:Option (Nat×Bool)}{listed listed':Array Bool}{v:Value}(S0:World→Prop)
  (hi:ops[i]? =some ⟨some d,op,ty,pos,af,gd⟩)(hsel:Region.noSelect ops=true)(hQ:PanicOk Q)(hw:waits .any ops I=true)(hist:Nat.beq i st=false)
  (hf:Region.free .any ops listed i=true)(hr:(Region.ready .any ops listed).contains i=true)(hl:listed.setIfInBounds i true=listed')
  (hS0:(∀w,H w→S0 w)∨(reach I st I.length i=true∧∀w,H w→F w→S0 w))(hS:SG H F st I listed w)
  (hwt:Wanted ops N E gd)(hd:Nat.blt d N=true)(hrv: ∀w',S0 w'→RV P E w' op v)(h:WG P ops Q H F st I N n listed' ((d,v)::E) w):WG P ops Q H F st I N (n+1) listed E w:=fun t ht=>by
 subst hl
 exact wpAnyG_take (S0:=S0) hi hsel (fun c a w h=>hQ c _ _ w (put_defers' _ _ _) h) hw hist hS0 n listed ⟨t,[]⟩ w hf hr (.inl ⟨hwt t _ _ _ _ _ ht,fun w' hw'=>hrv w' hw' _ _ _ _ _ _ ht.agree⟩) hS (h _ (ht.put hd v))
theorem upon_then {o:Oper}{a:Act}{next:Act→World→Prop}{k:Act→World→Prop}{r:Result Next}(h:o.upon P a next (Exit.then k Q) r):o.upon P a next Q r:=by
 cases r with
 | ok n w'=>cases n<;>exact h
 | halt x w'=>cases x<;>exact h
theorem wg_one {n i:Nat}{o:Oper}{listed:Array Bool}(hr:Region.ready .any ops listed=[i])(hi:ops[i]? =some o)
  (h:WL P ops (Exit.then (fun a' w'=>SG H F st I (listed.setIfInBounds i true) w'∧wpAnyG P .any ops Q (SG H F st I) n (listed.setIfInBounds i true) a' w') Q) N [o] E w):WG P ops Q H F st I N (n+1) listed E w:=fun t ht=>by
 refine⟨fun e=>(by rw [hr] at e;cases e),fun j hj=>?_⟩
 rw [hr] at hj
 simp only [List.mem_singleton] at hj
 subst hj
 have h1:=h t ht
 unfold wpOp
 simp only [hi]
 unfold wpList at h1
 split at h1
 ·rename_i hw
  rw [if_pos hw]
  rcases h1 with h1 | h1
  ·exact .inl (upon_then h1)
  ·exact .inr h1
 ·rename_i hw
  rw [if_neg hw]
  exact h1
def Each (p:Nat→Prop):List Nat→Prop
 | []=>True
 | i::r=>p i∧Each p r
theorem Each.mem {p:Nat→Prop}: ∀{l:List Nat},Each p l→∀i∈l,p i
 | [],_,_,hi=>by cases hi
 | _::_,h,i,hi=>by
  rcases List.mem_cons.1 hi with rfl | hi
  ·exact h.1
  ·exact Each.mem h.2 i hi
theorem wg_many {n:Nat}{l:List Nat}{listed:Array Bool}(hr:Region.ready .any ops listed=l)(hne:l.isEmpty=false)
  (h:Each (fun i=>∃o,ops[i]? =some o∧WL P ops (Exit.then (fun a' w'=>SG H F st I (listed.setIfInBounds i true) w'∧wpAnyG P .any ops Q (SG H F st I) n (listed.setIfInBounds i true) a' w') Q) N [o] E w) l):WG P ops Q H F st I N (n+1) listed E w:=fun t ht=>by
 refine⟨fun e=>(by rw [hr] at e;subst e;cases hne),fun j hj=>?_⟩
 rw [hr] at hj
 obtain⟨o,hi,h0⟩:=h.mem j hj
 have h1:=h0 t ht
 unfold wpOp
 simp only [hi]
 unfold wpList at h1
 split at h1
 ·rename_i hw
  rw [if_pos hw]
  rcases h1 with h1 | h1
  ·exact .inl (upon_then h1)
  ·exact .inr h1
 ·rename_i hw
  rw [if_neg hw]
  exact h1
theorem qe_held {n:Nat}{listed listed':Array Bool}(hl:listed=listed')(hS:SG H F st I listed' w)(h:WG P ops Q H F st I N n listed' E w):
  QE (Exit.then (fun a' w'=>SG H F st I listed w'∧wpAnyG P .any ops Q (SG H F st I) n listed a' w') Q) .normal N E w:=fun t ht=>by
 subst hl;exact⟨hS,h t ht⟩
theorem wg_done {listed:Array Bool}(hr:Region.ready .any ops listed=[])(h:QE Q .normal N E w):WG P ops Q H F st I N 0 listed E w:=fun t ht=>⟨hr,h t ht⟩
def HasObj (g:Nat)(cs:List Value)(w:World):Prop:=∀o,w.cell? ⟨g,o,none⟩=cs[o]?
theorem SH.hasObj {g:Nat}{cs:List Value}{T:TypeId}{fr:Nat×Nat}(h:SH w0 K0 M w K L)(hm:obj g cs T fr∈L):HasObj g cs w:=fun o=>h.mem_obj hm o
theorem SH.hasK {K1:KMap}(h:SH w0 K0 M w K L)(hl:KLe K1 K):Holds K1 w:=fun b o v e=>h.holds b o v (hl b o v e)
variable {x:Operand}{T:TypeId}{size bytes:Nat}{zero:Value}
theorem rh_load1 {b o:Nat}{v:Value}(hT:TF P T size false zero bytes)(hx:ev E x=some (.pointer (some ⟨b,o,none⟩)))(hk:K b o=some v)(hH:Holds K w):RV P E w (.load T x) v:=
 rv_load hT hx (cs:=[v]) (fun j c e=>by
  cases j with
  | zero=>simp at e;subst e;exact hH _ _ _ hk
  | succ j=>simp at e) (.inr ⟨rfl,rfl⟩)
theorem rh_loadS {b o:Nat}{cs:List Value}(hT:TF P T size true zero bytes)(hx:ev E x=some (.pointer (some ⟨b,o,none⟩)))(hk:AtK K b o cs)(hl:cs.length=size)(hH:Holds K w):RV P E w (.load T x) (.agg cs.toArray):=
 rv_load hT hx (fun j c e=>hH _ _ _ (hk j c e)) (.inl ⟨rfl,hl,rfl⟩)
theorem rh_loadm1 {g o:Nat}{cs:List Value}{v:Value}(hT:TF P T size false zero bytes)(hx:ev E x=some (.pointer (some ⟨g,o,none⟩)))(hv:cs[o]? =some v)(hH:HasObj g cs w):RV P E w (.load T x) v:=
 rv_load hT hx (cs:=[v]) (fun j c e=>by
  cases j with
  | zero=>simp at e;subst e;rw [Nat.add_zero,hH];exact hv
  | succ j=>simp at e) (.inr ⟨rfl,rfl⟩)
theorem rh_loadmS {g o:Nat}{cs ds:List Value}(hT:TF P T size true zero bytes)(hx:ev E x=some (.pointer (some ⟨g,o,none⟩)))(hv:(cs.drop o).take size=ds)(hl:ds.length=size)(hH:HasObj g cs w):RV P E w (.load T x) (.agg ds.toArray):=
 rv_load hT hx (fun j c e=>by
  rw [hH]
  subst hv
  rw [List.getElem?_take] at e
  split at e
  ·rw [List.getElem?_drop] at e;exact e
  ·cases e) (.inl ⟨rfl,hl,rfl⟩)
end
end Go.Fk
