/-
  What each operation does, over frames as lists of slots: of no program.
-/
import Derived.Test.YtepcfgnicnibnaaCoreA
namespace Go.Fk
open Go
section
variable {P:Program}{ops:Array Oper}{Q:Exit→Act→World→Prop}{N:Nat}{E:Env}{w:World}
def RunTo (P:Program)(E:Env)(w:World)(op:Op)(r:Result Next):Prop:=
 ∀(ρ:Operand→Value) (dst:Option Tmp) (ty:TypeId) (pos:String) (af:Array Edge) (gd:Option (Nat×Bool)),Agree E ρ→(execOp ρ ⟨dst,op,ty,pos,af,gd⟩).run P w=r
abbrev RV (P:Program)(E:Env)(w:World)(op:Op)(v:Value):Prop:=RunTo P E w op (.ok (.value v) w)
def Wanted (ops:Array Oper)(N:Nat)(E:Env)(gd:Option (Nat×Bool)):Prop:=
 ∀(t:Array Value) (dst:Option Tmp) (op:Op) (ty:TypeId) (pos:String) (af:Array Edge),Fr N E t→Region.wanted ⟨dst,op,ty,pos,af,gd⟩ (yielded ops t)=true
def Unwanted (ops:Array Oper)(N:Nat)(E:Env)(gd:Option (Nat×Bool)):Prop:=
 ∀(t:Array Value) (dst:Option Tmp) (op:Op) (ty:TypeId) (pos:String) (af:Array Edge),Fr N E t→Region.wanted ⟨dst,op,ty,pos,af,gd⟩ (yielded ops t)=false
theorem wn:Wanted ops N E none:=fun _ _ _ _ _ _ _=>rfl
theorem wg {j gs:Nat}{b want:Bool}(hj:(ops[j]?).bind (·.dst)=some gs)(hE:look E gs=some (.bool b))(hb:b=want):Wanted ops N E (some (j,want)):=
 fun t _ _ _ _ _ hf=>by
  have h:=hf.2 gs _ hE
  simp [Region.wanted,yielded,hj,h,hb]
theorem ug {j gs:Nat}{b want:Bool}(hj:(ops[j]?).bind (·.dst)=some gs)(hE:look E gs=some (.bool b))(hb:b= !want):Unwanted ops N E (some (j,want)):=
 fun t _ _ _ _ _ hf=>by
  have h:=hf.2 gs _ hE
  subst hb
  simp [Region.wanted,yielded,hj,h]
theorem uu {j gs:Nat}{want:Bool}(hj:(ops[j]?).bind (·.dst)=some gs)(hE:look E gs=some undef):Unwanted ops N E (some (j,want)):=
 fun t _ _ _ _ _ hf=>by
  have h:=hf.2 gs _ hE
  simp [Region.wanted,yielded,hj,h,undef]
theorem wl_of_wp {o:Oper}{rest:List Oper}(hw: ∀t,Fr N E t→Region.wanted o (yielded ops t)=true)
  (h: ∀t,Fr N E t→o.wp P ⟨t,[]⟩ w (wpList P ops Q rest) Q):WL P ops Q N (o::rest) E w:=fun t ht=>by
 unfold wpList
 rw [if_pos (hw t ht)]
 exact .inl (h t ht)
theorem wl_val {d:Tmp}{op:Op}{ty:TypeId}{pos:String}{af:Array Edge}{gd:Option (Nat×Bool)}{rest:List Oper}{v:Value}
  (hw:Wanted ops N E gd)(hd:Nat.blt d N=true)(hr:RV P E w op v)(h:WL P ops Q N rest ((d,v)::E) w):WL P ops Q N (⟨some d,op,ty,pos,af,gd⟩::rest) E w:=
 wl_of_wp (fun t ht=>hw t _ _ _ _ _ ht) fun t ht=>by
  unfold Oper.wp
  rw [hr _ _ _ _ _ _ ht.agree]
  exact h _ (ht.put hd v)
theorem wl_eff {d:Tmp}{op:Op}{ty:TypeId}{pos:String}{af:Array Edge}{gd:Option (Nat×Bool)}{rest:List Oper}{v:Value}{w':World}
  (hw:Wanted ops N E gd)(hd:Nat.blt d N=true)(hr:RunTo P E w op (.ok (.value v) w'))(h:WL P ops Q N rest ((d,v)::E) w'):WL P ops Q N (⟨some d,op,ty,pos,af,gd⟩::rest) E w:=
 wl_of_wp (fun t ht=>hw t _ _ _ _ _ ht) fun t ht=>by
  unfold Oper.wp
  rw [hr _ _ _ _ _ _ ht.agree]
  exact h _ (ht.put hd v)
theorem wl_do {op:Op}{ty:TypeId}{pos:String}{af:Array Edge}{gd:Option (Nat×Bool)}{rest:List Oper}{w':World}
  (hw:Wanted ops N E gd)(hr:RunTo P E w op (.ok .skip w'))(h:WL P ops Q N rest E w'):WL P ops Q N (⟨none,op,ty,pos,af,gd⟩::rest) E w:=
 wl_of_wp (fun t ht=>hw t _ _ _ _ _ ht) fun t ht=>by
  unfold Oper.wp
  rw [hr _ _ _ _ _ _ ht.agree]
  exact h _ ht
theorem wl_un {d:Tmp}{op:Op}{ty:TypeId}{pos:String}{af:Array Edge}{gd:Option (Nat×Bool)}{rest:List Oper}
  (hw:Unwanted ops N E gd)(hd:Nat.blt d N=true)(h:WL P ops Q N rest ((d,undef)::E) w):WL P ops Q N (⟨some d,op,ty,pos,af,gd⟩::rest) E w:=fun t ht=>by
 unfold wpList
 rw [if_neg (by rw [hw t _ _ _ _ _ ht];simp)]
 exact h _ (ht.put hd undef)
theorem wl_call {d:Tmp}{op:Op}{ty:TypeId}{pos:String}{af:Array Edge}{gd:Option (Nat×Bool)}{rest:List Oper}{f:FuncId}{args:Array Value}{R:Ending→World→Prop}
  (hw:Wanted ops N E gd)(hd:Nat.blt d N=true)(hr:RunTo P E w op (.ok (.enter f args) w))(hc:Calls P f args w R)
  (h: ∀e w',R e w'→∃v,e= .returned v∧WL P ops Q N rest ((d,v)::E) w'):WL P ops Q N (⟨some d,op,ty,pos,af,gd⟩::rest) E w:=
 wl_of_wp (fun t ht=>hw t _ _ _ _ _ ht) fun t ht=>by
  unfold Oper.wp
  rw [hr _ _ _ _ _ _ ht.agree]
  refine hc.mono fun e w' hR=>?_
  obtain⟨v,rfl,hn⟩:=h e w' hR
  exact hn _ (ht.put hd v)
variable {x y:Operand}{T T':TypeId}
theorem rv_move {v:Value}(hx:ev E x=some v):RV P E w (.move x) v:=fun ρ _ _ _ _ _ ha=>by simp [execOp,ha x v hx]
theorem rv_assign {v:Value}(hx:ev E x=some v):RV P E w (.assign x) v:=fun ρ _ _ _ _ _ ha=>by simp [execOp,ha x v hx]
theorem rv_pick_t {c:Operand}{b:Bool}{v:Value}(hc:ev E c=some (.bool b))(hb:b=true)(hx:ev E x=some v):RV P E w (.pick c x y) v:=
 fun ρ _ _ _ _ _ ha=>by subst hb;simp [execOp,ha _ _ hc,ha _ _ hx,asBool]
theorem rv_pick_f {c:Operand}{b:Bool}{v:Value}(hc:ev E c=some (.bool b))(hb:b=false)(hy:ev E y=some v):RV P E w (.pick c x y) v:=
 fun ρ _ _ _ _ _ ha=>by subst hb;simp [execOp,ha _ _ hc,ha _ _ hy,asBool]
theorem rv_not {b:Bool}(hx:ev E x=some (.bool b)):RV P E w (.unOp .not T x) (.bool (!b)):=fun ρ _ _ _ _ _ ha=>by simp [execOp,ha x _ hx,Op.unary]
def w64 (n:Int):Int:=IntKind.i64.wrap n
section
variable {k:IntKind}{a b c:Int}
theorem rv_add (hx:ev E x=some (.int .i64 a))(hy:ev E y=some (.int .i64 b)):RV P E w (.binOp .add T x y T') (.int .i64 (w64 (a+b))):=
 fun ρ _ _ _ _ _ ha=>by simp [execOp,ha x _ hx,ha y _ hy,eqGuard,binOp,Op.intArith,w64]
theorem rv_add_to (hx:ev E x=some (.int .i64 a))(hy:ev E y=some (.int .i64 b))(hc:w64 (a+b)=c):RV P E w (.binOp .add T x y T') (.int .i64 c):=hc▸rv_add hx hy
theorem rv_sub (hx:ev E x=some (.int .i64 a))(hy:ev E y=some (.int .i64 b)):RV P E w (.binOp .sub T x y T') (.int .i64 (w64 (a-b))):=
 fun ρ _ _ _ _ _ ha=>by simp [execOp,ha x _ hx,ha y _ hy,eqGuard,binOp,Op.intArith,w64]
theorem rv_lss (hx:ev E x=some (.int k a))(hy:ev E y=some (.int k b)):RV P E w (.binOp .lss T x y T') (.bool (decide (a<b))):=
 fun ρ _ _ _ _ _ ha=>by simp [execOp,ha x _ hx,ha y _ hy,eqGuard,binOp,Op.intCmp]
theorem rv_leq (hx:ev E x=some (.int k a))(hy:ev E y=some (.int k b)):RV P E w (.binOp .leq T x y T') (.bool (decide (a≤b))):=
 fun ρ _ _ _ _ _ ha=>by simp [execOp,ha x _ hx,ha y _ hy,eqGuard,binOp,Op.intCmp]
theorem rv_gtr (hx:ev E x=some (.int k a))(hy:ev E y=some (.int k b)):RV P E w (.binOp .gtr T x y T') (.bool (decide (b<a))):=
 fun ρ _ _ _ _ _ ha=>by simp [execOp,ha x _ hx,ha y _ hy,eqGuard,binOp,Op.intCmp]
theorem rv_geq (hx:ev E x=some (.int k a))(hy:ev E y=some (.int k b)):RV P E w (.binOp .geq T x y T') (.bool (decide (b≤a))):=
 fun ρ _ _ _ _ _ ha=>by simp [execOp,ha x _ hx,ha y _ hy,eqGuard,binOp,Op.intCmp]
theorem rv_eql (hx:ev E x=some (.int k a))(hy:ev E y=some (.int k b)):RV P E w (.binOp .eql T x y T') (.bool (a==b)):=
 fun ρ _ _ _ _ _ ha=>by simp [execOp,ha x _ hx,ha y _ hy,eqGuard,binOp,Op.intCmp]
theorem rv_neq (hx:ev E x=some (.int k a))(hy:ev E y=some (.int k b)):RV P E w (.binOp .neq T x y T') (.bool (!(a==b))):=
 fun ρ _ _ _ _ _ ha=>by simp [execOp,ha x _ hx,ha y _ hy,eqGuard,binOp,Op.intCmp,bne]
end
section
variable {s r:Str}
end
section
variable {a b:UInt8}
end
end
end Go.Fk
