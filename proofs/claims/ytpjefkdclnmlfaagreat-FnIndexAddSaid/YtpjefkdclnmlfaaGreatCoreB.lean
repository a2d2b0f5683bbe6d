/-
  What each operation does, over frames as lists of slots: of no program.
-/
import Derived.Test.YtpjefkdclnmlfaaGreatCoreA
namespace Go.Fk
open Go
section
variable {P:Program}{ops:Array Oper}{Q:Exit→Act→World→Prop}{N:Nat}{E:Env}{w:World}
def RunTo (P:Program)(E:Env)(w:World)(op:Op)(r:Result Next):Prop:=
 ∀(ρ:Operand→Value) (dst:Option Tmp) (ty:TypeId) (pos:String) (af:Array Edge) (gd:Option (Nat×Bool)),Agree E ρ→(execOp ρ ⟨dst,op,ty,pos,af,gd⟩).run P w=r
abbrev RV (P:Program)(E:Env)(w:World)(op:Op)(v:Value):Prop:=RunTo P E w op (.ok (.value v) w)
def Wanted (ops:Array Oper)(N:Nat)(E:Env)(gd:Option (Nat×Bool)):Prop:=
 ∀(t:Array Value) (dst:Option Tmp) (op:Op) (ty:TypeId) (pos:String) (af:Array Edge),Fr N E t→Region.wanted ⟨dst,op,ty,pos,af,gd⟩ (yielded ops t)=true
def Unwanted (ops:Array Oper)(N:Nat)(E:Env)(gd:Option (Nat×Bool)):Prop:=
 ∀(t:Array Value) (dst:Option Tmp) (op:Op) (ty:TypeId) (pos:String) (af:Array Edge),Fr N E t→Region.wanted ⟨dst,op,ty,pos,af,gd⟩ (yielded ops t)=false
theorem wn:Wanted ops N E none:=fun _ _ _ _ _ _ _=>rfl
theorem wg {j gs:Nat}{b want:Bool}(hj:(ops[j]?).bind (·.dst)=some gs)(hE:look E gs=some (.bool b))(hb:b=want):Wanted ops N E (some (j,want)):=
 fun t _ _ _ _ _ hf=>by
  have h:=hf.2 gs _ hE
  simp [Region.wanted,yielded,hj,h,hb]
theorem ug {j gs:Nat}{b want:Bool}(hj:(ops[j]?).bind (·.dst)=some gs)(hE:look E gs=some (.bool b))(hb:b= !want):Unwanted ops N E (some (j,want)):=
 fun t _ _ _ _ _ hf=>by
  have h:=hf.2 gs _ hE
  subst hb
  simp [Region.wanted,yielded,hj,h]
theorem uu {j gs:Nat}{want:Bool}(hj:(ops[j]?).bind (·.dst)=some gs)(hE:look E gs=some undef):Unwanted ops N E (some (j,want)):=
 fun t _ _ _ _ _ hf=>by
  have h:=hf.2 gs _ hE
  simp [Region.wanted,yielded,hj,h,undef]
theorem wl_of_wp {o:Oper}{rest:List Oper}(hw: ∀t,Fr N E t→Region.wanted o (yielded ops t)=true)
  (h: ∀t,Fr N E t→o.wp P ⟨t,[]⟩ w (wpList P ops Q rest) Q):WL P ops Q N (o::rest) E w:=fun t ht=>by
 unfold wpList
 rw [if_pos (hw t ht)]
 exact .inl (h t ht)
theorem wl_val {d:Tmp}{op:Op}{ty:TypeId}{pos:String}{af:Array Edge}{gd:Option (Nat×Bool)}{rest:List Oper}{v:Value}
  (hw:Wanted ops N E gd)(hd:Nat.blt d N=true)(hr:RV P E w op v)(h:WL P ops Q N rest ((d,v)::E) w):WL P ops Q N (⟨some d,op,ty,pos,af,gd⟩::rest) E w:=
 wl_of_wp (fun t ht=>hw t _ _ _ _ _ ht) fun t ht=>by
  unfold Oper.wp
  rw [hr _ _ _ _ _ _ ht.agree]
  exact h _ (ht.put hd v)
theorem wl_eff {d:Tmp}{op:Op}{ty:TypeId}{pos:String}{af:Array Edge}{gd:Option (Nat×Bool)}{rest:List Oper}{v:Value}{w':World}
  (hw:Wanted ops N E gd)(hd:Nat.blt d N=true)(hr:RunTo P E w op (.ok (.value v) w'))(h:WL P ops Q N rest ((d,v)::E) w'):WL P ops Q N (⟨some d,op,ty,pos,af,gd⟩::rest) E w:=
 wl_of_wp (fun t ht=>hw t _ _ _ _ _ ht) fun t ht=>by
  unfold Oper.wp
  rw [hr _ _ _ _ _ _ ht.agree]
  exact h _ (ht.put hd v)
theorem wl_do {op:Op}{ty:TypeId}{pos:String}{af:Array Edge}{gd:Option (Nat×Bool)}{rest:List Oper}{w':World}
  (hw:Wanted ops N E gd)(hr:RunTo P E w op (.ok .skip w'))(h:WL P ops Q N rest E w'):WL P ops Q N (⟨none,op,ty,pos,af,gd⟩::rest) E w:=
 wl_of_wp (fun t ht=>hw t _ _ _ _ _ ht) fun t ht=>by
  unfold Oper.wp
  rw [hr _ _ _ _ _ _ ht.agree]
  exact h _ ht
theorem wl_un {d:Tmp}{op:Op}{ty:TypeId}{pos:String}{af:Array Edge}{gd:Option (Nat×Bool)}{rest:List Oper}
  (hw:Unwanted ops N E gd)(hd:Nat.blt d N=true)(h:WL P ops Q N rest ((d,undef)::E) w):WL P ops Q N (⟨some d,op,ty,pos,af,gd⟩::rest) E w:=fun t ht=>by
 unfold wpList
 rw [if_neg (by rw [hw t _ _ _ _ _ ht];simp)]
 exact h _ (ht.put hd undef)
theorem wl_call {d:Tmp}{op:Op}{ty:TypeId}{pos:String}{af:Array Edge}{gd:Option (Nat×Bool)}{rest:List Oper}{f:FuncId}{args:Array Value}{R:Ending→World→Prop}
  (hw:Wanted ops N E gd)(hd:Nat.blt d N=true)(hr:RunTo P E w op (.ok (.enter f args) w))(hc:Calls P f args w R)
  (h: ∀e w',R e w'→∃v,e= .returned v∧WL P ops Q N rest ((d,v)::E) w'):WL P ops Q N (⟨some d,op,ty,pos,af,gd⟩::rest) E w:=
 wl_of_wp (fun t ht=>hw t _ _ _ _ _ ht) fun t ht=>by
  unfold Oper.wp
  rw [hr _ _ _ _ _ _ ht.agree]
  refine hc.mono fun e w' hR=>?_
  obtain⟨v,rfl,hn⟩:=h e w' hR
  exact hn _ (ht.put hd v)
variable {x y:Operand}{T T':TypeId}
theorem rv_move {v:Value}(hx:ev E x=some v):RV P E w (.move x) v:=fun ρ _ _ _ _ _ ha=>by simp [execOp,ha x v hx]
theorem rv_assign {v:Value}(hx:ev E x=some v):RV P E w (.assign x) v:=fun ρ _ _ _ _ _ ha=>by simp [execOp,ha x v hx]
theorem rv_pick_t {c:Operand}{b:Bool}{v:Value}(hc:ev E c=some (.bool b))(hb:b=true)(hx:ev E x=some v):RV P E w (.pick c x y) v:=
 fun ρ _ _ _ _ _ ha=>by subst hb;simp [execOp,ha _ _ hc,ha _ _ hx,asBool]
theorem rv_pick_f {c:Operand}{b:Bool}{v:Value}(hc:ev E c=some (.bool b))(hb:b=false)(hy:ev E y=some v):RV P E w (.pick c x y) v:=
 fun ρ _ _ _ _ _ ha=>by subst hb;simp [execOp,ha _ _ hc,ha _ _ hy,asBool]
theorem rv_nilCheck {a:Addr}(hx:ev E x=some (.pointer (some a))):RV P E w (.nilCheck x) (.pointer (some a)):=fun ρ _ _ _ _ _ ha=>by simp [execOp,ha x _ hx]
theorem rv_not {b:Bool}(hx:ev E x=some (.bool b)):RV P E w (.unOp .not T x) (.bool (!b)):=fun ρ _ _ _ _ _ ha=>by simp [execOp,ha x _ hx,Op.unary]
theorem rv_extract {vs:Array Value}{i:Nat}{v:Value}(hx:ev E x=some (.tuple vs))(hv:vs[i]? =some v):RV P E w (.extract x i) v:=
 fun ρ _ _ _ _ _ ha=>by simp [execOp,ha x _ hx,Instr.extract,hv]
def w64 (n:Int):Int:=IntKind.i64.wrap n
def xorI (a b:Int):Int:=w64 (BitVec.ofInt 64 a ^^^ BitVec.ofInt 64 b).toNat
def quoI (a b:Int):Option Int:=if b=0 then none else some (w64 (a.tdiv b))
def remI (a b:Int):Option Int:=if b=0 then none else some (a.tmod b)
section
variable {k:IntKind}{a b c:Int}
theorem rv_add (hx:ev E x=some (.int .i64 a))(hy:ev E y=some (.int .i64 b)):RV P E w (.binOp .add T x y T') (.int .i64 (w64 (a+b))):=
 fun ρ _ _ _ _ _ ha=>by simp [execOp,ha x _ hx,ha y _ hy,eqGuard,binOp,Op.intArith,w64]
theorem rv_add_to (hx:ev E x=some (.int .i64 a))(hy:ev E y=some (.int .i64 b))(hc:w64 (a+b)=c):RV P E w (.binOp .add T x y T') (.int .i64 c):=hc▸rv_add hx hy
theorem rv_sub (hx:ev E x=some (.int .i64 a))(hy:ev E y=some (.int .i64 b)):RV P E w (.binOp .sub T x y T') (.int .i64 (w64 (a-b))):=
 fun ρ _ _ _ _ _ ha=>by simp [execOp,ha x _ hx,ha y _ hy,eqGuard,binOp,Op.intArith,w64]
theorem rv_mul (hx:ev E x=some (.int .i64 a))(hy:ev E y=some (.int .i64 b)):RV P E w (.binOp .mul T x y T') (.int .i64 (w64 (a*b))):=
 fun ρ _ _ _ _ _ ha=>by simp [execOp,ha x _ hx,ha y _ hy,eqGuard,binOp,Op.intArith,w64]
theorem rv_quo (hx:ev E x=some (.int .i64 a))(hy:ev E y=some (.int .i64 b))(hc:quoI a b=some c):RV P E w (.binOp .quo T x y T') (.int .i64 c):=
 fun ρ _ _ _ _ _ ha=>by
  unfold quoI at hc
  split at hc
  ·cases hc
  ·rename_i hb;cases hc;simp [execOp,ha x _ hx,ha y _ hy,eqGuard,binOp,Op.intDiv,hb,w64]
theorem rv_rem (hx:ev E x=some (.int .i64 a))(hy:ev E y=some (.int .i64 b))(hc:remI a b=some c):RV P E w (.binOp .rem T x y T') (.int .i64 c):=
 fun ρ _ _ _ _ _ ha=>by
  unfold remI at hc
  split at hc
  ·cases hc
  ·rename_i hb;cases hc;simp [execOp,ha x _ hx,ha y _ hy,eqGuard,binOp,Op.intDiv,hb]
theorem rv_xor (hx:ev E x=some (.int .i64 a))(hy:ev E y=some (.int .i64 b)):RV P E w (.binOp .xor T x y T') (.int .i64 (xorI a b)):=
 fun ρ _ _ _ _ _ ha=>by simp only [execOp,ha x _ hx,ha y _ hy];simp [eqGuard,binOp,Op.intBits,xorI,w64];rfl
theorem rv_lss (hx:ev E x=some (.int k a))(hy:ev E y=some (.int k b)):RV P E w (.binOp .lss T x y T') (.bool (decide (a<b))):=
 fun ρ _ _ _ _ _ ha=>by simp [execOp,ha x _ hx,ha y _ hy,eqGuard,binOp,Op.intCmp]
theorem rv_leq (hx:ev E x=some (.int k a))(hy:ev E y=some (.int k b)):RV P E w (.binOp .leq T x y T') (.bool (decide (a≤b))):=
 fun ρ _ _ _ _ _ ha=>by simp [execOp,ha x _ hx,ha y _ hy,eqGuard,binOp,Op.intCmp]
theorem rv_gtr (hx:ev E x=some (.int k a))(hy:ev E y=some (.int k b)):RV P E w (.binOp .gtr T x y T') (.bool (decide (b<a))):=
 fun ρ _ _ _ _ _ ha=>by simp [execOp,ha x _ hx,ha y _ hy,eqGuard,binOp,Op.intCmp]
theorem rv_geq (hx:ev E x=some (.int k a))(hy:ev E y=some (.int k b)):RV P E w (.binOp .geq T x y T') (.bool (decide (b≤a))):=
 fun ρ _ _ _ _ _ ha=>by simp [execOp,ha x _ hx,ha y _ hy,eqGuard,binOp,Op.intCmp]
theorem rv_eql (hx:ev E x=some (.int k a))(hy:ev E y=some (.int k b)):RV P E w (.binOp .eql T x y T') (.bool (a==b)):=
 fun ρ _ _ _ _ _ ha=>by simp [execOp,ha x _ hx,ha y _ hy,eqGuard,binOp,Op.intCmp]
theorem rv_neq (hx:ev E x=some (.int k a))(hy:ev E y=some (.int k b)):RV P E w (.binOp .neq T x y T') (.bool (!(a==b))):=
 fun ρ _ _ _ _ _ ha=>by simp [execOp,ha x _ hx,ha y _ hy,eqGuard,binOp,Op.intCmp,bne]
theorem run_equalIn_bool {p q:Bool}(d:Nat)(hT:P.underlying T=some .bool):(Op.equalIn (d+1) T (.bool p) (.bool q)).run P w= .ok (p==q) w:=by
 simp [Op.equalIn,run_underlying hT]
theorem rv_booleq {p q:Bool}(hT:P.underlying T=some .bool)(hx:ev E x=some (.bool p))(hy:ev E y=some (.bool q)):RV P E w (.binOp .eql T x y T') (.bool (p==q)):=
 fun ρ _ _ _ _ _ ha=>by
  have h:=run_equalIn_bool (P:=P) (w:=w) (p:=p) (q:=q) 9999 hT
  simp only [execOp,ha x _ hx,ha y _ hy]
  simp only [eqGuard,binOp,Op.equal,Op.maxDepth]
  simp [h]
theorem rv_boolne {p q:Bool}(hT:P.underlying T=some .bool)(hx:ev E x=some (.bool p))(hy:ev E y=some (.bool q)):RV P E w (.binOp .neq T x y T') (.bool (!(p==q))):=
 fun ρ _ _ _ _ _ ha=>by
  have h:=run_equalIn_bool (P:=P) (w:=w) (p:=p) (q:=q) 9999 hT
  simp only [execOp,ha x _ hx,ha y _ hy]
  simp only [eqGuard,binOp,Op.equal,Op.maxDepth]
  simp [h]
end
section
variable {s r:Str}
def strLess (a b:Str):Bool:=Op.bytesLess a b
theorem rv_slss (hx:ev E x=some (sv s))(hy:ev E y=some (sv r)):RV P E w (.binOp .lss T x y T') (.bool (strLess s r)):=
 fun ρ _ _ _ _ _ ha=>by simp [execOp,ha x _ hx,ha y _ hy,eqGuard,binOp,sv,Op.stringOp,strLess]
theorem rv_sgtr (hx:ev E x=some (sv s))(hy:ev E y=some (sv r)):RV P E w (.binOp .gtr T x y T') (.bool (!(strLess s r||s==r))):=
 fun ρ _ _ _ _ _ ha=>by simp [execOp,ha x _ hx,ha y _ hy,eqGuard,binOp,sv,Op.stringOp,strLess]
theorem rv_sleq (hx:ev E x=some (sv s))(hy:ev E y=some (sv r)):RV P E w (.binOp .leq T x y T') (.bool (strLess s r||s==r)):=
 fun ρ _ _ _ _ _ ha=>by simp [execOp,ha x _ hx,ha y _ hy,eqGuard,binOp,sv,Op.stringOp,strLess]
theorem rv_sgeq (hx:ev E x=some (sv s))(hy:ev E y=some (sv r)):RV P E w (.binOp .geq T x y T') (.bool (!strLess s r)):=
 fun ρ _ _ _ _ _ ha=>by simp [execOp,ha x _ hx,ha y _ hy,eqGuard,binOp,sv,Op.stringOp,strLess]
theorem rv_seql (hx:ev E x=some (sv s))(hy:ev E y=some (sv r)):RV P E w (.binOp .eql T x y T') (.bool (s==r)):=
 fun ρ _ _ _ _ _ ha=>by simp [execOp,ha x _ hx,ha y _ hy,eqGuard,binOp,sv,Op.stringOp]
theorem rv_sneq (hx:ev E x=some (sv s))(hy:ev E y=some (sv r)):RV P E w (.binOp .neq T x y T') (.bool (!(s==r))):=
 fun ρ _ _ _ _ _ ha=>by simp [execOp,ha x _ hx,ha y _ hy,eqGuard,binOp,sv,Op.stringOp]
def catS (a b:Str):Option Str:=if a.length+b.length≤maxLen then some (a++b) else none
theorem sv_append (s r:Str):(⟨s.toArray⟩:ByteArray)++⟨r.toArray⟩=⟨(s++r).toArray⟩:=by
 apply ByteArray.ext
 simp [ByteArray.data_append]
theorem rv_sadd {c:Str}(hx:ev E x=some (sv s))(hy:ev E y=some (sv r))(hc:catS s r=some c):RV P E w (.binOp .add T x y T') (sv c):=
 fun ρ _ _ _ _ _ ha=>by
  unfold catS at hc
  split at hc
  ·rename_i h
   cases hc
   simp only [maxLen] at h
   have h': ¬((((⟨s.toArray⟩:ByteArray).size+(⟨r.toArray⟩:ByteArray).size:Nat):Int)>IntKind.i64.max):=by
    show ¬(((s.toArray.size+r.toArray.size:Nat):Int)>9223372036854775807)
    simp only [List.size_toArray];omega
   simp only [sv] at hx hy ⊢
   simp only [execOp,ha x _ hx,ha y _ hy,eqGuard,binOp,Op.stringOp,sv_append]
   rw [if_neg h']
   rfl
  ·cases hc
theorem size_sv (s:Str):(⟨s.toArray⟩:ByteArray).size=s.length:=by show s.toArray.size=_;simp
theorem rv_slen (hT:P.underlying T=some .string)(hx:ev E x=some (sv s)):RV P E w (.call {callee:=.builtin .len,args:=#[x],argTypes:=#[T]}) (.int .i64 s.length):=
 fun ρ _ _ _ _ _ ha=>by simp [execOp,resolve,invoke,builtin,ha x _ hx,Builtin.len_,run_underlying hT,sv,goInt,size_sv]
theorem rv_sidx {k:IntKind}{i:Int}{c:UInt8}(hT:P.underlying T=some .string)(hx:ev E x=some (sv s))(hy:ev E y=some (.int k i))(hc:getI s i=some c):RV P E w (.index T x y) (iv8 c):=
 fun ρ _ _ _ _ _ ha=>by
  obtain⟨h0,h1,h2⟩:=getI_some hc
  have h3:(⟨s.toArray⟩:ByteArray)[i.toNat]? =some c:=by
   have hlt:i.toNat<s.length:=by omega
   rw [getElem?_pos _ _ (by rw [size_sv];exact hlt)]
   rw [List.getElem?_eq_getElem hlt] at h2
   simpa [ByteArray.getElem_eq_getElem_data] using h2
  simp [execOp,ha x _ hx,ha y _ hy,Instr.index,asIntOf,run_underlying hT,sv,h0,h3,iv8]
def subS (s:Str)(l h:Int):Option Str:=if 0≤l∧l≤h∧h≤s.length then some ((s.take h.toNat).drop l.toNat) else none
theorem extract_sv (s:Str)(l h:Nat):(⟨s.toArray⟩:ByteArray).extract l h=⟨((s.take h).drop l).toArray⟩:=by
 apply ByteArray.ext
 simp [ByteArray.data_extract,List.drop_take]
theorem rv_ssl_l {k:IntKind}{i:Int}{c:Str}(hT:P.underlying T=some .string)(hx:ev E x=some (sv s))(hy:ev E y=some (.int k i))(hc:subS s i s.length=some c):RV P E w (.slice T x (some y) none none) (sv c):=
 fun ρ _ _ _ _ _ ha=>by
  unfold subS at hc
  split at hc
  ·rename_i h
   cases hc
   simp [execOp,ha x _ hx,ha y _ hy,Instr.sliceAt,Instr.slice,Instr.sliceBounds,Instr.sliceBound,asIntOf,run_underlying hT,sv,h.1,h.2.1,extract_sv,size_sv]
  ·cases hc
theorem rv_ssl_h {k:IntKind}{i:Int}{c:Str}(hT:P.underlying T=some .string)(hx:ev E x=some (sv s))(hy:ev E y=some (.int k i))(hc:subS s 0 i=some c):RV P E w (.slice T x none (some y) none) (sv c):=
 fun ρ _ _ _ _ _ ha=>by
  unfold subS at hc
  split at hc
  ·rename_i h
   cases hc
   have h1:i≤((⟨s.toArray⟩:ByteArray).size:Int):=by rw [size_sv];omega
   simp [execOp,ha x _ hx,ha y _ hy,Instr.sliceAt,Instr.slice,Instr.sliceBounds,Instr.sliceBound,asIntOf,run_underlying hT,sv,h.2.1,h1,extract_sv]
  ·cases hc
end
section
variable {a b:UInt8}
theorem rv_bl (hx:ev E x=some (iv8 a))(hy:ev E y=some (iv8 b)):RV P E w (.binOp .lss T x y T') (.bool (decide (a<b))):=
 fun ρ _ _ _ _ _ ha=>by simp [execOp,ha x _ hx,ha y _ hy,eqGuard,binOp,Op.intCmp,iv8,UInt8.lt_iff_toNat_lt]
theorem rv_ble (hx:ev E x=some (iv8 a))(hy:ev E y=some (iv8 b)):RV P E w (.binOp .leq T x y T') (.bool (decide (a≤b))):=
 fun ρ _ _ _ _ _ ha=>by simp [execOp,ha x _ hx,ha y _ hy,eqGuard,binOp,Op.intCmp,iv8,UInt8.le_iff_toNat_le]
theorem rv_bg (hx:ev E x=some (iv8 a))(hy:ev E y=some (iv8 b)):RV P E w (.binOp .gtr T x y T') (.bool (decide (b<a))):=
 fun ρ _ _ _ _ _ ha=>by simp [execOp,ha x _ hx,ha y _ hy,eqGuard,binOp,Op.intCmp,iv8,UInt8.lt_iff_toNat_lt]
theorem rv_bge (hx:ev E x=some (iv8 a))(hy:ev E y=some (iv8 b)):RV P E w (.binOp .geq T x y T') (.bool (decide (b≤a))):=
 fun ρ _ _ _ _ _ ha=>by simp [execOp,ha x _ hx,ha y _ hy,eqGuard,binOp,Op.intCmp,iv8,UInt8.le_iff_toNat_le]
theorem beq8 (a b:UInt8):((a.toNat:Int)==(b.toNat:Int))=(a==b):=by
 rw [Bool.eq_iff_iff];simp [←UInt8.toNat_inj];omega
theorem rv_beq (hx:ev E x=some (iv8 a))(hy:ev E y=some (iv8 b)):RV P E w (.binOp .eql T x y T') (.bool (a==b)):=
 fun ρ _ _ _ _ _ ha=>by simp only [iv8] at hx hy;simp only [execOp,ha x _ hx,ha y _ hy];simp [eqGuard,binOp,Op.intCmp,beq8]
theorem rv_bne (hx:ev E x=some (iv8 a))(hy:ev E y=some (iv8 b)):RV P E w (.binOp .neq T x y T') (.bool (!(a==b))):=
 fun ρ _ _ _ _ _ ha=>by simp only [iv8] at hx hy;simp only [execOp,ha x _ hx,ha y _ hy];simp [eqGuard,binOp,Op.intCmp,bne,beq8]
theorem rv_badd (hx:ev E x=some (iv8 a))(hy:ev E y=some (iv8 b)):RV P E w (.binOp .add T x y T') (iv8 (a+b)):=
 fun ρ _ _ _ _ _ ha=>by
  have e:IntKind.u8.wrap ((a.toNat:Int)+b.toNat)=((a+b).toNat:Int):=by
   simp only [IntKind.wrap,UInt8.toNat_add];simp [IntKind.signed,IntKind.bits]
  simp only [iv8] at hx hy ⊢;simp only [execOp,ha x _ hx,ha y _ hy];simp [eqGuard,binOp,Op.intArith,e]
theorem rv_bsub (hx:ev E x=some (iv8 a))(hy:ev E y=some (iv8 b)):RV P E w (.binOp .sub T x y T') (iv8 (a-b)):=
 fun ρ _ _ _ _ _ ha=>by
  have e:IntKind.u8.wrap ((a.toNat:Int)-b.toNat)=((a-b).toNat:Int):=by
   have h1:=a.toNat_lt;have h2:=b.toNat_lt
   simp only [IntKind.wrap,UInt8.toNat_sub];simp [IntKind.signed,IntKind.bits];omega
  simp only [iv8] at hx hy ⊢;simp only [execOp,ha x _ hx,ha y _ hy];simp [eqGuard,binOp,Op.intArith,e]
theorem rv_b2i (hT:P.underlying T=some (.int .u8))(hT':P.underlying T'=some (.int .i64))(hx:ev E x=some (iv8 a)):RV P E w (.convert T T' x) (.int .i64 a.toNat):=
 fun ρ _ _ _ _ _ ha=>by
  have h1:=a.toNat_lt
  have e:IntKind.i64.wrap (a.toNat:Int)=(a.toNat:Int):=by
   simp only [IntKind.wrap];simp [IntKind.signed,IntKind.bits];omega
  simp only [iv8] at hx;simp only [execOp,ha x _ hx];simp [convert,run_underlying hT,run_underlying hT',Conv.intToInt,e]
end
end
end Go.Fk
