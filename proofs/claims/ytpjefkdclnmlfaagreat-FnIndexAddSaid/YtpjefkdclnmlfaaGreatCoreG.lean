/-
  Regions that draw their order and only read; small facts; bytes and strings: of no program.
-/
import Derived.Test.YtpjefkdclnmlfaaGreatCoreFb
import Derived.Deep.Quiet
import Derived.Laws.BytesString
namespace Go.Fk
open Go
set_option linter.unusedSectionVars false
variable [dr:Dr]
section
variable {P:Program}{ops:Array Oper}{Q:Exit→Act→World→Prop}{N:Nat}{E:Env}{w w0:World}{K K0:KMap}{M:List Nat}{L:List Item}{C:World→Prop}
variable {x y:Operand}{T T' U:TypeId}{size bytes:Nat}{zero:Value}{agg:Bool}
instance (n:Int):Decidable (rng64 n):=inferInstanceAs (Decidable (_∧_))
theorem w64_rng (n:Int):rng64 (w64 n):=by
 have h1:=Int.emod_nonneg n (b:=18446744073709551616) (by decide)
 have h2:=Int.emod_lt_of_pos n (b:=18446744073709551616) (by decide)
 unfold rng64 w64 IntKind.wrap
 simp only [IntKind.signed,IntKind.bits,show (2:Int) ^ 64=18446744073709551616 from rfl,show (2:Int) ^ (64-1)=9223372036854775808 from rfl,Bool.true_and,decide_eq_true_eq]
 split<;>omega
theorem w64_of {n:Int}(h:rng64 n):w64 n=n:=by
 obtain⟨h1,h2⟩:=h
 unfold w64 IntKind.wrap
 simp only [IntKind.signed,IntKind.bits,show (2:Int) ^ 64=18446744073709551616 from rfl,show (2:Int) ^ (64-1)=9223372036854775808 from rfl,Bool.true_and,decide_eq_true_eq]
 split<;>omega
theorem rng_nat {n:Nat}(h:n≤9223372036854775807):rng64 (n:Int):=⟨by omega,by omega⟩
theorem rng_u8 (b:UInt8):rng64 (b.toNat:Int):=⟨by omega,by have:=b.toNat_lt;omega⟩
theorem rng_idx {i n:Nat}(h:i<n)(hn:n≤9223372036854775807):rng64 (i:Int):=⟨by omega,by omega⟩
theorem rng_rem {a b c:Int}(ha:rng64 a)(h:remI a b=some c):rng64 c:=by
 unfold remI at h
 split at h
 ·cases h
 ·cases h
  obtain⟨h1,h2⟩:=ha
  have h3:(a.tmod b).natAbs=a.natAbs%b.natAbs:=Int.natAbs_tmod a b
  have h4:=Nat.mod_le a.natAbs b.natAbs
  have h5:0≤a→0≤a.tmod b:=fun h=>Int.tmod_nonneg b h
  have h6:a≤0→a.tmod b≤0:=fun h=>by
   have h7:=Int.tmod_nonneg b (show 0≤ -a by omega)
   rw [Int.neg_tmod] at h7;omega
  unfold rng64
  omega
theorem w64_succ {i n:Nat}(h:i<n)(hn:n≤9223372036854775807):w64 ((i:Int)+1)=((i+1:Nat):Int):=by
 rw [w64_of ⟨by omega,by omega⟩];omega
theorem len_cat {a b c:Str}(h:catS a b=some c):c.length≤maxLen:=by
 unfold catS at h
 split at h
 ·cases h;simpa using by assumption
 ·cases h
theorem len_sub {s c:Str}{l h:Int}(hs:s.length≤maxLen)(e:subS s l h=some c):c.length≤maxLen:=by
 unfold subS at e
 split at e
 ·cases e;simp only [List.length_drop,List.length_take];omega
 ·cases e
theorem cond_t {α:Type}{b:Bool}{x y r:α}(hb:b=true)(h:cond b x y=r):x=r:=by subst hb;exact h
theorem cond_f {α:Type}{b:Bool}{x y r:α}(hb:b=false)(h:cond b x y=r):y=r:=by subst hb;exact h
theorem wc_cond_t {c:Operand}{x y:Code}{b:Bool}(hc:ev E c=some (.bool b))(hb:b=true)(h:WC P x Q N E w):WC P (.cond c x y) Q N E w:=
 wc_cond hc (fun _=>h) fun h'=>by rw [hb] at h';cases h'
theorem wc_cond_f {c:Operand}{x y:Code}{b:Bool}(hc:ev E c=some (.bool b))(hb:b=false)(h:WC P y Q N E w):WC P (.cond c x y) Q N E w:=
 wc_cond hc (fun h'=>by rw [hb] at h';cases h') fun _=>h
theorem qe_mid' {k:Env→World→Prop}{E':Env}(h:k E' w)(hs:Sub E' E):QE (Exit.then (InSt N k) Q) .normal N E w:=qe_sub hs (qe_mid h)
def WQ (P:Program)(ops:Array Oper)(C:World→Prop)(Q:Exit→Act→World→Prop)(N:Nat)(rest:List Oper)(E:Env):Prop:=
 ∀t,Fr N E t→wpQuiet P ops C (fun a'=>∀w',C w'→Q .normal a' w') rest ⟨t,[]⟩
def QC (w0:World)(K0:KMap)(M:List Nat)(K:KMap)(L:List Item)(w':World):Prop:=∃K',SH w0 K0 M w' K' L∧KLe K K'
theorem wc_quiet {id:Nat}{l:List Oper}(hm:P.follows .mixedOrders=true)(hB:Region.lexB .any l.toArray=true)(hS:SH w0 K0 M w K L)
  (h:WQ P l.toArray (QC w0 K0 M K L) Q N l E):WC P (.region id l.toArray true) Q N E w:=fun t ht=>
 wp_region_quiet (C:=QC w0 K0 M K L) hm hB ⟨K,hS.drew,.refl _⟩ (h t ht)
theorem wq_val {d:Tmp}{op:Op}{ty:TypeId}{pos:String}{af:Array Edge}{gd:Option (Nat×Bool)}{rest:List Oper}{v:Value}
  (hw:Wanted ops N E gd)(hd:Nat.blt d N=true)(hr: ∀w',C w'→RV P E w' op v)(h:WQ P ops C Q N rest ((d,v)::E)):WQ P ops C Q N (⟨some d,op,ty,pos,af,gd⟩::rest) E:=fun t ht=>by
 unfold wpQuiet
 rw [if_pos (hw t _ _ _ _ _ ht)]
 refine⟨v,fun w' hw'=>?_,h _ (ht.put hd v)⟩
 unfold Oper.quietAt
 rw [hr w' hw' _ _ _ _ _ _ ht.agree]
 exact⟨rfl,rfl⟩
theorem wq_un {d:Tmp}{op:Op}{ty:TypeId}{pos:String}{af:Array Edge}{gd:Option (Nat×Bool)}{rest:List Oper}
  (hw:Unwanted ops N E gd)(hd:Nat.blt d N=true)(h:WQ P ops C Q N rest ((d,undef)::E)):WQ P ops C Q N (⟨some d,op,ty,pos,af,gd⟩::rest) E:=fun t ht=>by
 unfold wpQuiet
 rw [if_neg (by rw [hw t _ _ _ _ _ ht];simp)]
 exact h _ (ht.put hd undef)
theorem wq_call {d:Tmp}{op:Op}{ty:TypeId}{pos:String}{af:Array Edge}{gd:Option (Nat×Bool)}{rest:List Oper}{f:FuncId}{args:Array Value}{v:Value}
  (hw:Wanted ops N E gd)(hd:Nat.blt d N=true)(hr: ∀w',RunTo P E w' op (.ok (.enter f args) w'))(hc: ∀w',C w'→Calls P f args w' fun e w''=>e= .returned v∧C w'')
  (h:WQ P ops C Q N rest ((d,v)::E)):WQ P ops C Q N (⟨some d,op,ty,pos,af,gd⟩::rest) E:=fun t ht=>by
 unfold wpQuiet
 rw [if_pos (hw t _ _ _ _ _ ht)]
 refine⟨v,fun w' hw'=>?_,h _ (ht.put hd v)⟩
 unfold Oper.quietAt
 rw [hr w' _ _ _ _ _ _ ht.agree]
 exact⟨rfl,hc w' hw'⟩
theorem wq_nil (h: ∀w',C w'→QE Q .normal N E w'):WQ P ops C Q N [] E:=fun t ht w' hw'=>h w' hw' t ht
end
end Go.Fk
