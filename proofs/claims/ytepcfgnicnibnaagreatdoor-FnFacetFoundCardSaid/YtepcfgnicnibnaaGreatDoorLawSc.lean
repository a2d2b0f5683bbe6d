import Derived.Test.YtepcfgnicnibnaaGreatDoorLawPts
import Derived.Test.YtepcfgnicnibnaaGreatDoorLawQs
import Derived.Test.YtepcfgnicnibnaaGreatDoorLawDrs
/-
  What a question's leaves are worth in a document: the program and the reference reckon alike. Of no program's steps.
-/
set_option linter.unusedVariables false
namespace Go.Fk
open Go
def b1H (c:u5)(w:q9):q9:=if D0 w&&X2 c then ((G3 c w)[0]?).elim [] (·.Text) else []
theorem c2P {b:UInt8}(h:a0W b=true):a8h b=true:=by
 unfold a0W at h
 unfold a8h
 simp only [Bool.or_eq_true,l8,decide_eq_true_iff,Bool.not_eq_true',Bool.or_eq_false_iff,decide_eq_false_iff_not,UInt8.le_iff_toNat_le,UInt8.lt_iff_toNat_lt] at h ⊢
 have e1:(97:UInt8).toNat=97:=rfl
 have e2:(122:UInt8).toNat=122:=rfl
 have e3:(48:UInt8).toNat=48:=rfl
 have e4:(57:UInt8).toNat=57:=rfl
 have e5:(32:UInt8).toNat=32:=rfl
 have e6:(126:UInt8).toNat=126:=rfl
 omega
theorem b3Y {w:q9}(h:D0 w=true):w.all a8h=true:=by
 simp only [D0,l8,List.all_eq_true] at h
 exact List.all_eq_true.2 fun b hb=>c2P (h.1 b hb)
theorem b8Z {w:q9}(h:D0 w=true):a2o w=true:=by
 have:=N3 h
 unfold a2o
 rw [b3Y h,b8 (by omega)];rfl
theorem b8g (F:Nat)(c:u5)(w:q9)(hc:c.Stops.length≤2000000)(hF:1000<F):a2K F c w=some (b1H c w):=by
 unfold a2K b1H
 rw [M0,a8]
 cases hw:D0 w with
 | false=>rfl
 | true=>
  have hl:=N3 hw
  rw [l9,i6,a6L F c w (by omega) hc (by omega),a8,b8Z hw]
  cases X2 c with
  | false=>rfl
  | true=>
   simp only [Bool.and_self,if_true]
   cases ht:G3 c w with
   | nil=>rfl
   | cons x r=>
    rw [beq_eq_false_iff_ne.2 (by simp only [r4];omega),i6,show ((0:Int))=((0:Nat):Int) from rfl,n5];rfl
theorem b8N (F:Nat)(c:u5)(w:q9)(hc:a0B 100 c)(hcs:X2 c=true)(hw:D0 w=true)(hF:1000<F):a2M F c w=some (b1H c w):=by
 have hl:=N3 hw
 unfold a2M b1H
 rw [b44 F 100 c hc (by omega) (by omega),a8,hcs,l9,i6,Y8 F w 12 hl (by omega) (by omega),a8,hw,a8,l9,i6,a6W F c w hcs (by omega) (by omega),a8]
 simp only [Bool.and_self,if_true]
 cases ht:G3 c w with
 | nil=>rfl
 | cons x r=>
  rw [beq_eq_false_iff_ne.2 (by simp only [r4];omega),i6,show ((0:Int))=((0:Nat):Int) from rfl,n5];rfl
def a0X (d:y5)(name:q9):Int:=(d.Nums.find? fun a=>a.Name==name).elim (-1) (·.Num)
theorem c0m (F:Nat)(d:y5)(name:q9)(hd:a3h d=true):W7 F d name=some (a0X d name):=by
 unfold W7 a0X
 rw [a9I,a8,hd,i9]
 rw [a2v (fun a=>a.Name==name) (fun a=>a.Num) (fun i x hx=>by
  rw [n5,hx,a8];cases x.Name==name<;>rfl)]
 cases List.find? (fun a=>a.Name==name) d.Nums<;>rfl
theorem c0Q (F:Nat)(d:y5)(name:q9)(hl:d.Nums.length<F)(hb:d.Nums.length≤1000000):a3G F d name=some (a0X d name):=by
 unfold a3G a0X
 rw [a1b (xs:=d.Nums) (fun a=>a.Name==name) (fun a=>(.inr a.Num:Unit⊕Int)) (e:=.inl ()) F hl (fun i x hx=>?_) ?_]
 ·cases List.find? (fun a=>a.Name==name) d.Nums<;>rfl
 ·rw [c6 (by omega)];rfl
 ·have hi:=(i4.1 hx).1
  rw [b8 (by omega),i9,n5,hx,a8,a8,y2 (by omega)]
  cases x.Name==name<;>rfl
def U1 (ws:List q9):q9:=Lib.join ws [32]
theorem a5l (a b:q9)(r:List q9):U1 (a::b::r)=a++[32]++U1 (b::r):=by
 unfold U1 Lib.join List.intercalate
 rw [List.intersperse_cons_cons,List.flatten_cons,List.flatten_cons,List.append_assoc]
theorem a7H (a:q9):U1 [a]=a:=by
 unfold U1 Lib.join List.intercalate
 simp
theorem b4K (x:q9): ∀(l:List q9),U1 (l++[x])=if l.isEmpty then x else U1 l++[32]++x
 | []=>by rw [List.nil_append,a7H];rfl
 | [a]=>by
  show U1 [a,x]=_
  rw [a5l,a7H,a7H];rfl
 | a::b::r=>by
  show U1 (a::b::(r++[x]))=_
  have:=b4K x (b::r)
  rw [a5l,a5l,show b::(r++[x])=(b::r)++[x] from rfl,this]
  simp [List.append_assoc]
theorem a5m: ∀(ws:List q9),(∀w∈ws,D0 w=true)→(U1 ws).length≤13*ws.length
 | [],_=>by unfold U1 Lib.join List.intercalate;simp
 | [a],h=>by have:=N3 (h a (.head _));rw [a7H,j9];omega
 | a::b::r,h=>by
  have h1:=N3 (h a (.head _))
  have h2:=a5m (b::r) fun w hw=>h w (.tail _ hw)
  rw [a5l]
  simp only [n9,r4,List.length_nil] at h2 ⊢
  omega
theorem b6R: ∀(ws:List q9),(∀w∈ws,D0 w=true)→(U1 ws).all a8h=true
 | [],_=>by unfold U1 Lib.join List.intercalate;simp
 | [a],h=>by rw [a7H];exact b3Y (h a (.head _))
 | a::b::r,h=>by
  rw [a5l,List.all_append,List.all_append,b3Y (h a (.head _)),b6R (b::r) fun w hw=>h w (.tail _ hw)]
  rfl
theorem c0s {ws:List q9}(h: ∀w∈ws,D0 w=true)(hl:ws.length≤4):a2o (U1 ws)=true:=by
 have:=a5m ws h
 unfold a2o
 rw [b6R ws h,b8 (by omega)];rfl
theorem c0k {ws:List q9}(h: ∀w∈ws,D0 w=true)(hl:ws.length≤4):b6Q [32] ws=some (U1 ws):=by
 have:=a5m ws h
 unfold U1 at this ⊢
 unfold b6Q
 rw [if_pos ⟨by omega,by omega⟩]
theorem c0N (F:Nat){ws:List q9}(h: ∀w∈ws,D0 w=true)(hl:ws.length≤4)(hF:10<F):a0K F ws [32]=some (U1 ws):=by
 have cat: ∀a b:q9,a.length+b.length≤10000→a8W a b=some (a++b):=fun a b hab=>by
  have hm:10000≤maxLen:=by decide
  unfold a8W
  rw [if_pos (by omega)]
 unfold a0K
 have key:=fun f step fin=>H4 (σ:=q9×Int) (τ:=q9) (f:=f) (Post:=fun t=>t=U1 ws) (fun i s=>s=(U1 (ws.take i),(i:Int))) ws.length step fin ws.length 0 (([]:q9),(0:Int)) F (by omega) (by omega) (by rw [List.take_zero];unfold U1 Lib.join List.intercalate;simp)
 generalize hf:(fun (s14:q9×Int)=>_:q9×Int→Option ((q9×Int)⊕q9))=f
 obtain⟨t,ht,hp⟩:=key f (fun i s hi hs=>by
  subst hf;subst hs
  have hm:=h _ (List.getElem_mem hi)
  have h1:=N3 hm
  have h2:=a5m (ws.take i) fun w hw=>h w (List.mem_of_mem_take hw)
  rw [List.length_take] at h2
  left
  refine⟨_,?_,rfl⟩
  dsimp only
  rw [b8 (by omega),i9,a0m hi,List.take_succ_eq_append_getElem hi,b4K]
  by_cases h0:i=0
  ·subst h0
   rw [c6 (by omega),i6,a8,a8]
   have e0:U1 (ws.take 0)=[]:=by rw [List.take_zero];unfold U1 Lib.join List.intercalate;simp
   rw [e0,cat [] _ (by simp only [List.length_nil];omega),List.take_zero]
   rfl
  ·have hne:(ws.take i).isEmpty=false:=by
    cases hw:ws.take i with
    | nil=>
     have:=congrArg List.length hw
     simp only [List.length_take,List.length_nil] at this
     omega
    | cons a r=>rfl
   rw [b8 (by omega),i9,cat _ [32] (by simp only [j9];omega),a8,a8,a8,cat _ _ (by simp only [n9,j9];omega),a8,hne,y2 (by omega)]
   rfl) (fun s hs=>by
  subst hf;subst hs
  refine⟨_,?_,rfl⟩
  dsimp only
  rw [c6 (by omega),i6,List.take_length])
 rw [ht,hp];rfl
theorem b05: ∀(n:Nat) (s:q9) (o k:Nat),s.length≤n→∀w∈W6 s o k,(k:Int)≤w.At∧w.At≤k+s.length
 | n,[],o,k,_,w,hw=>by rw [a0A] at hw;cases hw
 | 0,b::r,o,k,h,_,_=>by simp at h
 | n+1,b::r,o,k,h,w,hw=>by
  rw [W6] at hw
  by_cases hb:isW b=true
  ·rw [if_pos hb] at hw
   have hpos:0<((b::r).takeWhile isW).length:=by rw [List.takeWhile_cons,if_pos hb];simp
   rcases List.mem_cons.1 hw with rfl | hw
   ·exact⟨Int.le_refl _,by simp only;omega⟩
   ·have ih:=b05 n ((b::r).drop ((b::r).takeWhile isW).length) _ (k+1) (by rw [List.length_drop];omega) w hw
    rw [List.length_drop] at ih
    simp only [r4] at ih hpos ⊢
    omega
  ·rw [if_neg hb] at hw
   have ih:=b05 n r (o+1) k (by rw [r4] at h;omega) w hw
   rw [r4]
   omega
theorem b2A {syns:List V7}{P:C8→Prop}(hy: ∀y∈syns,∀t,P t→P ⟨y.To,t.At⟩): ∀(n:Nat) (l:List C8),(∀t∈l,P t)→∀t∈a4G syns n l,P t
 | 0,l,_,t,ht=>by rw [a4G] at ht;cases ht
 | n+1,[],_,t,ht=>by rw [a4G] at ht;cases ht
 | n+1,x::r,h,t,ht=>by
  simp only [a4G] at ht
  cases hb:a6o syns (x::r) with
  | none=>
   rw [hb] at ht
   rcases List.mem_cons.1 ht with rfl | ht
   ·exact h _ (.head _)
   ·exact b2A hy n r (fun t ht=>h t (.tail _ ht)) t ht
  | some y=>
   rw [hb] at ht
   rcases List.mem_cons.1 ht with rfl | ht
   ·exact hy y (a5c hb) x (h x (.head _))
   ·exact b2A hy n _ (fun t ht=>h t (List.mem_of_mem_drop ht)) t ht
theorem b4U {c:u5}{s:q9}{t:C8}(h:t∈a2H c s): ∃w∈a1M s,t=⟨a0U w.Text,w.At⟩:=by
 obtain⟨w,hw,ht⟩:=List.mem_flatMap.1 h
 unfold a1z at ht
 split at ht
 ·simp only [List.mem_singleton] at ht
  exact⟨w,hw,ht⟩
 ·cases ht
theorem b3U {c:u5}{s:q9}{t:C8}(h:t∈G3 c s):0≤t.At∧t.At≤s.length:=by
 refine b2A (P:=fun t=>0≤t.At∧t.At≤s.length) (fun y _ t ht=>ht) _ _ (fun t ht=>?_) t h
 obtain⟨w,hw,rfl⟩:=b4U ht
 have:=b05 s.length s 0 0 (Nat.le_refl _) w hw
 simp only;omega
theorem b8U {c:u5}(hc:X2 c=true){s:q9}{t:C8}(h:t∈G3 c s):D0 t.Text=true:=by
 refine b2A (P:=fun t=>D0 t.Text=true) (fun y hy t _=>?_) _ _ (fun t ht=>?_) t h
 ·simp only [X2,l8,List.all_eq_true] at hc
  have:=hc.2 y hy
  simp only [a8U,l8] at this
  exact this.1.2.1
 ·obtain⟨w,hw,rfl⟩:=b4U ht
  exact c1a (a9k hw)
theorem b98 {d:y5}(h:a3h d=true)(n:q9):(H5 d n).length≤160:=by
 have:=a6K h n
 simp only [a2o,l8,decide_eq_true_eq] at this
 omega
theorem b0r {ds:List y5}(h:Z6 ds=true): ∀d∈ds,a3h d=true:=by
 simp only [Z6,l8] at h
 exact(a3Q h.1).1
theorem b5k {c:u5}{s:A7}(ho:N0 c s=true)(n t:q9)(id:Int):(∀x∈atS s n t id,0≤x∧x≤160)∧(atS s n t id).length≤160:=by
 obtain⟨_,h2,h3⟩:=a3V ho
 rw [h3]
 by_cases h0:(atS (a1L c s.Docs) n t id).length=0
 ·rw [List.length_eq_zero_iff.1 h0]
  exact And.intro (fun x hx=>by cases hx) (by simp)
 ·obtain⟨d,hd,_,he⟩:=c1l h0
  rw [he]
  have hds:=b0r h2 d hd
  have h160:=b98 hds n
  refine And.intro (fun x hx=>?_) ?_
  ·unfold a1A at hx
   obtain⟨y,hy,hx⟩:=List.mem_flatMap.1 hx
   split at hx
   ·simp only [List.mem_singleton] at hx
    subst hx
    have:=b3U hy
    omega
   ·cases hx
  ·have h1:=b9s (c:=c) (d:=d) n t
   have h2:=a3u c (H5 d n)
   omega
theorem a84 {c:u5}{s:A7}(ho:N0 c s=true){e:B1}(he:e∈s.Entries):D0 e.Term=true:=by
 obtain⟨h1,h2,h3⟩:=a3V ho
 rw [h3] at he
 have hp:=b6x he
 have hm:=b9j he
 rw [hm] at hp
 simp only [M4] at hp
 obtain⟨p,hp⟩:=List.exists_mem_of_length_pos hp
 obtain⟨d,hd,hpd⟩:=List.mem_flatMap.1 hp
 unfold R1 at hpd
 split at hpd
 ·rename_i hl
  simp only [decide_eq_true_eq] at hl
  obtain⟨a,ha⟩:=List.exists_mem_of_length_pos hl
  unfold a1A at ha
  obtain⟨y,hy,ha⟩:=List.mem_flatMap.1 ha
  split at ha
  ·rename_i hyt
   have:=b8U h1 hy
   rw [eq_of_beq hyt] at this
   exact this
  ·cases ha
 ·cases hpd
theorem a3g {c:u5}{s:A7}(ho:N0 c s=true):s.Entries.length≤10000∧s.Docs.length≤16:=by
 obtain⟨_,h2,h3⟩:=a3V ho
 have:=(a96 (c:=c) h2).1
 rw [←h3] at this
 exact⟨by omega,(a3J h2).1⟩
def a8Q (n:q9)(e:B1):List q9:=if e.Field==n then [e.Term] else []
def a2n (s:A7)(n:q9):List q9:=s.Entries.flatMap (a8Q n)
theorem c0x (n:q9)(e:B1):(a8Q n e).length≤1:=by unfold a8Q;split<;>simp
theorem b8T {s:A7}{n:q9}:(a2n s n).length≤s.Entries.length:=by
 have:=W3 (g:=a8Q n) (m:=1) s.Entries fun e _=>c0x n e
 unfold a2n;omega
theorem b1m (F:Nat)(c:u5)(s:A7)(n:q9)(hl:s.Entries.length≤10000):I0 F ⟨c,s⟩ n=some (a2n s n):=by
 have hlen:=b8T (s:=s) (n:=n)
 unfold I0
 dsimp only
 rw [a4s (a8Q n) 10000 (fun i e acc hx hB=>?_) [] (by rw [List.nil_append];unfold a2n at hlen;omega),List.nil_append]
 ·rfl
 ·rw [n5,hx,a8]
  unfold a8Q at hB ⊢
  revert hB
  rw [R2]
  cases e.Field==n
  ·intro _;simp
  ·intro hB
   simp only [i9] at hB ⊢
   rw [F1 (by simp at hB ⊢;omega)];rfl
theorem b1I {c:u5}{s:A7}(ho:N0 c s=true){n t:q9}(h:t∈a2n s n):D0 t=true:=by
 obtain⟨e,he,ht⟩:=List.mem_flatMap.1 h
 unfold a8Q at ht
 split at ht
 ·simp only [List.mem_singleton] at ht
  rw [ht];exact a84 ho he
 ·cases ht
end Go.Fk
set_option linter.unusedVariables false
namespace Go.Fk
open Go
def a3m (ts:List C8)(q:C8×Nat):Int:=q.1.At-(ts[0]?).elim 0 (·.At)-(q.2:Int)
def b1s (sh:Int)(p:Int):List Int:=if decide (sh≤p) then [p-sh] else []
def a6g (s:A7)(f:q9)(id:Int)(ts:List C8)(q:C8×Nat):List Int:=(atS s f q.1.Text id).flatMap (b1s (a3m ts q))
def a2G (s:A7)(f:q9)(id:Int)(ts:List C8):List (List Int):=ts.zipIdx.map (a6g s f id ts)
def c2M (c:u5)(s:A7)(f:q9)(id:Int)(ts:List C8):Nat:=(ts.map fun t=>O9 c s f t.Text id).sum
def a4Y (c:u5)(s:A7)(f:q9)(ws:List q9)(n:Int)(id:Int):Nat:=
 let ts:=G3 c (U1 ws)
 if ts.length=0 then 0 else (if (a5P (a2G s f id ts) n).length<3 then (a5P (a2G s f id ts) n).length else 3)*c2M c s f id ts
theorem c0u (sh p:Int):(b1s sh p).length≤1:=by unfold b1s;split<;>simp
theorem a6R (s:A7)(f:q9)(id:Int)(ts:List C8)(q:C8×Nat):(a6g s f id ts q).length≤(atS s f q.1.Text id).length:=by
 have:=W3 (g:=b1s (a3m ts q)) (m:=1) (atS s f q.1.Text id) fun x _=>c0u _ x
 unfold a6g;omega
theorem b7L {α:Type}(w:α→Nat)(l:List α)(i:Nat)(hi:i<l.length):((l.take (i+1)).map w).sum=((l.take i).map w).sum+w l[i]:=by
 rw [List.take_succ_eq_append_getElem hi,List.map_append,List.sum_append];simp
theorem b0b {α:Type}{w:α→Nat}{B:Nat}{l:List α}(h: ∀x∈l,w x≤B)(i:Nat):((l.take i).map w).sum≤l.length*B:=by
 have h1:=b02 (w:=w) (l.take i) fun x hx=>h x (List.mem_of_mem_take hx)
 have h2:(l.take i).length*B≤l.length*B:=Nat.mul_le_mul_right _ (List.length_take_le' ..)
 omega
theorem b7o {ts:List C8}{B:Nat}(hB:B≤1000)(hl:ts.length≤B)(ht: ∀t∈ts,0≤t.At∧t.At≤B){i:Nat}(hi:i<ts.length):
  A1 (A1 (ts[i].At-(ts[0]'(by omega)).At)-(i:Int))=a3m ts (ts[i],i)∧ -(2000:Int)≤a3m ts (ts[i],i)∧a3m ts (ts[i],i)≤2000:=by
 have h1:=ht _ (List.getElem_mem hi)
 have h0:=ht _ (List.getElem_mem (show 0<ts.length by omega))
 have e:a3m ts (ts[i],i)=ts[i].At-(ts[0]'(by omega)).At-(i:Int):=by
  unfold a3m
  rw [j4 (show 0<ts.length by omega)];rfl
 rw [e,B9 (n:=ts[i].At-(ts[0]'(by omega)).At) ⟨by omega,by omega⟩,B9 ⟨by omega,by omega⟩]
 exact⟨rfl,by omega,by omega⟩
theorem b9U {α:Type}(l:List α)(i:Nat)(hi:i<l.length):(l.zipIdx.take (i+1))=l.zipIdx.take i++[(l[i],i)]:=by
 rw [List.take_succ_eq_append_getElem (by simpa using hi)]
 simp
theorem b6L (F:Nat)(c:u5)(s:A7)(f:q9)(ws:List q9)(n a b:Int)(ks:List r5)(d:y5)(ho:N0 c s=true)(hw: ∀w∈ws,D0 w=true)(hl:ws.length≤4)(hF:1000000000<F):
  T3 F ⟨c,s⟩ ⟨a,f,ws,n,b,ks⟩ d=some ((a4Y c s f ws n d.Id:Nat):Int):=by
 obtain⟨h1,h2,h3⟩:=a3V ho
 have hj:=a5m ws hw
 have hst:=a6I h1
 unfold T3
 dsimp only
 rw [c0k hw hl,a8,a6L F c _ (by omega) (by omega) (by omega),a8,h1,c0s hw hl]
 simp only [Bool.and_self,if_true]
 have htl:=a3u c (U1 ws)
 have hta: ∀t∈G3 c (U1 ws),0≤t.At∧t.At≤(100:Nat):=fun t ht=>by have:=b3U ht;omega
 unfold a4Y
 dsimp only
 generalize hts:G3 c (U1 ws)=ts at *
 by_cases h0:ts.length=0
 ·rw [if_pos h0,beq_iff_eq.2 (by omega)];rfl
 ·rw [if_neg h0,beq_eq_false_iff_ne.2 (by omega),i6]
  have hpt: ∀t:C8,O9 c s f t.Text d.Id≤1000000000:=fun t=>a4e c s f t.Text d.Id ho
  have key:=fun g step=>a6r (σ:=(List (List Int))×Int) (f:=g) (fun i st=>st=((ts.zipIdx.take i).map (a6g s f d.Id ts),((((ts.take i).map fun t=>O9 c s f t.Text d.Id).sum:Nat):Int))) ts.length step ts.length 0 (([]:List (List Int)),(0:Int)) (by omega) (by simp)
  generalize hg:(fun (i95:Nat) (s91:(List (List Int))×Int)=>_:Nat→(List (List Int))×Int→Option ((List (List Int))×Int))=g
  obtain⟨t,ht,hp⟩:=key g (fun i st hi hs=>by
   subst hg;subst hs
   refine⟨_,?_,rfl⟩
   have hsh:=b7o (B:=100) (by omega) (by omega) hta hi
   have har:=b5k ho f ts[i].Text d.Id
   have hpl:=a6R s f d.Id ts (ts[i],i)
   dsimp only at hpl
   dsimp only
   rw [a0m hi,a8,a7F,a8,a4s (b1s (a3m ts (ts[i],i))) 1000 (fun j x acc hx hB=>?_) [] (by rw [List.nil_append];unfold a6g at hpl;dsimp only at hpl;omega),List.nil_append,a8,a8,a7G F c s f ts[i].Text d.Id ho hF]
   ·have hsb:=b0b (w:=fun t:C8=>O9 c s f t.Text d.Id) (l:=ts) (fun t _=>hpt t) i
    have hsb2:ts.length*1000000000≤100*1000000000:=Nat.mul_le_mul_right _ (by omega)
    have hpi:=hpt ts[i]
    rw [F1 (by simp only [List.length_map,List.length_take,List.length_zipIdx,j9];omega),a8,a8,b9U ts i hi,b7L _ ts i hi,B9 ⟨by omega,by omega⟩,List.map_append]
    simp only [List.map_cons,List.map_nil,a6g]
    congr 2
   ·have hxr:=har.1 x (l7 hx)
    have g0:u0 ts (0:Int)=some (ts[0]'(by omega)):=a0m (xs:=ts) (i:=0) (by omega)
    rw [n5,hx,a8,g0,a8,hsh.1,B9 (n:=x-a3m ts (ts[i],i)) ⟨by omega,by omega⟩]
    unfold b1s at hB ⊢
    by_cases hle:a3m ts (ts[i],i)≤x
    ·rw [b8 (show (0:Int)≤x-a3m ts (ts[i],i) by omega),i9,b8 hle,if_pos rfl]
     rw [b8 hle,if_pos rfl] at hB
     simp only [n9,j9] at hB
     rw [F1 (by simp only [j9];omega)];rfl
    ·rw [c6 (show ¬(0:Int)≤x-a3m ts (ts[i],i) by omega),i6,c6 hle,if_neg (by simp),List.append_nil])
  rw [ht,hp,a8,a8]
  dsimp only
  rw [List.take_of_length_le (by simp),List.take_length]
  have hLl:(a2G s f d.Id ts).length=ts.length:=by unfold a2G;simp
  have hLe: ∀l∈a2G s f d.Id ts,l.length≤1000:=fun l hl=>by
   unfold a2G at hl
   obtain⟨q,_,rfl⟩:=List.mem_map.1 hl
   have:=a6R s f d.Id ts q
   have:=(b5k ho f q.1.Text d.Id).2
   omega
  have hph:=b35 F (a2G s f d.Id ts) n hLe (by omega) (by omega)
  unfold a2G at hph
  rw [hph,a8,a8]
  have hsb:=b0b (w:=fun t:C8=>O9 c s f t.Text d.Id) (l:=ts) (fun t _=>hpt t) ts.length
  have hsb2:ts.length*1000000000≤100*1000000000:=Nat.mul_le_mul_right _ (by omega)
  rw [List.take_length] at hsb
  unfold c2M a2G
  generalize (a5P (ts.zipIdx.map (a6g s f d.Id ts)) n).length=k
  generalize (ts.map fun t=>O9 c s f t.Text d.Id).sum=m at *
  by_cases hk:k<3
  ·rw [if_pos (by omega),if_pos hk]
   have:k*m≤3*m:=Nat.mul_le_mul_right _ (by omega)
   rw [show ((k:Nat):Int)*(m:Int)=((k*m:Nat):Int) by simp,B9 ⟨by omega,by omega⟩]
  ·rw [if_neg (by omega),if_neg hk]
   rw [show (3:Int)*(m:Int)=((3*m:Nat):Int) by simp,B9 ⟨by omega,by omega⟩]
theorem b7C (F:Nat)(c:u5)(s:A7)(f:q9)(ws:List q9)(n a b:Int)(ks:List r5)(id:Int)(ho:N0 c s=true)(hw: ∀w∈ws,D0 w=true)(hl:ws.length≤4)(hF:1000000000<F):
  a0M F c s ⟨a,f,ws,n,b,ks⟩ id=some ((a4Y c s f ws n id:Nat):Int):=by
 obtain⟨h1,h2,h3⟩:=a3V ho
 have hj:=a5m ws hw
 have hfew:=a3g ho
 unfold a0M a29
 dsimp only
 simp only [c0N F hw hl (show 10<F by omega),a8,a6W F c (U1 ws) h1 (show (U1 ws).length≤2000000 by omega) (show (U1 ws).length+30<F by omega)]
 have htl:=a3u c (U1 ws)
 have hta: ∀t∈G3 c (U1 ws),0≤t.At∧t.At≤(100:Nat):=fun t ht=>by have:=b3U ht;omega
 unfold a4Y
 dsimp only
 generalize hts:G3 c (U1 ws)=ts at *
 have key:=fun g step fin=>H4 (σ:=(List (List Int))×Int) (τ:=List (List Int)) (f:=g) (Post:=fun t=>t=a2G s f id ts) (fun i st=>st=((ts.zipIdx.take i).map (a6g s f id ts),(i:Int))) ts.length step fin ts.length 0 (([]:List (List Int)),(0:Int)) F (by omega) (by omega) (by simp)
 generalize hg:(fun (s82:(List (List Int))×Int)=>_:(List (List Int))×Int→Option (((List (List Int))×Int)⊕(List (List Int))))=g
 obtain⟨t,ht,hp⟩:=key g (fun i st hi hs=>by
  subst hg;subst hs
  left
  refine⟨_,?_,rfl⟩
  have hsh:=b7o (B:=100) (by omega) (by omega) hta hi
  have har:=b5k ho f ts[i].Text id
  have hpl:=a6R s f id ts (ts[i],i)
  dsimp only at hpl
  have g0:u0 ts (0:Int)=some (ts[0]'(by omega)):=a0m (xs:=ts) (i:=0) (by omega)
  dsimp only
  rw [b8 (by omega),i9,a0m hi,a8,g0,a8,a8,b50 F s f ts[i].Text id hfew.1 (a6S ho f ts[i].Text).1 (by omega),a8,hsh.1]
  rw [a9E (xs:=atS s f ts[i].Text id) (b1s (a3m ts (ts[i],i))) 1000 F (by omega) (fun j x acc hx hB=>?_) (fun acc=>?_) [] (by rw [List.nil_append];unfold a6g at hpl;dsimp only at hpl;omega),List.nil_append,a8,a8]
  ·rw [F1 (by simp only [List.length_map,List.length_take,List.length_zipIdx,j9];omega),a8,b9U ts i hi,y2 (by omega),List.map_append]
   simp only [List.map_cons,List.map_nil,a6g]
  ·have hxr:=har.1 x (l7 hx)
   have hjl:=(i4.1 hx).1
   dsimp only
   rw [b8 (by omega),i9,n5,hx,a8,a8,B9 (n:=x-a3m ts (ts[i],i)) ⟨by omega,by omega⟩,y2 (by omega)]
   unfold b1s at hB ⊢
   by_cases hle:a3m ts (ts[i],i)≤x
   ·rw [b8 hle,i9,if_pos rfl]
    rw [b8 hle,if_pos rfl] at hB
    simp only [n9,j9] at hB
    rw [F1 (by simp only [j9];omega)];rfl
   ·rw [c6 hle,i6,if_neg (by simp),List.append_nil]
  ·dsimp only
   rw [c6 (by omega),i6]) (fun st hs=>by
  subst hg;subst hs
  refine⟨_,?_,rfl⟩
  dsimp only
  rw [c6 (by omega),i6,List.take_of_length_le (by simp)];rfl)
 rw [ht,hp,a8,a8]
 have hLl:(a2G s f id ts).length=ts.length:=by unfold a2G;simp
 have hLe: ∀l∈a2G s f id ts,l.length≤1000:=fun l hl=>by
  unfold a2G at hl
  obtain⟨q,_,rfl⟩:=List.mem_map.1 hl
  have:=a6R s f id ts q
  have:=(b5k ho f q.1.Text id).2
  omega
 rw [a8,hLl]
 by_cases h0:ts.length=0
 ·rw [if_pos h0,beq_iff_eq.2 (by omega)];rfl
 ·rw [if_neg h0,beq_eq_false_iff_ne.2 (by omega),i6,b4m F (a2G s f id ts) n hLe (by omega) (by omega),a8]
  have hpt: ∀t:C8,O9 c s f t.Text id≤1000000000:=fun t=>a4e c s f t.Text id ho
  have hsb2:ts.length*1000000000≤100*1000000000:=Nat.mul_le_mul_right _ (by omega)
  have key2:=fun g step fin=>H4 (σ:=Int×Int) (τ:=Int) (f:=g) (Post:=fun t=>t=((c2M c s f id ts:Nat):Int)) (fun i st=>st=(((((ts.take i).map fun t=>O9 c s f t.Text id).sum:Nat):Int),(i:Int))) ts.length step fin ts.length 0 ((0:Int),(0:Int)) F (by omega) (by omega) (by simp)
  generalize hg2:(fun (s118:Int×Int)=>_:Int×Int→Option ((Int×Int)⊕Int))=g2
  obtain⟨t2,ht2,hp2⟩:=key2 g2 (fun i st hi hs=>by
   subst hg2;subst hs
   left
   refine⟨_,?_,rfl⟩
   have hsb:=b0b (w:=fun t:C8=>O9 c s f t.Text id) (l:=ts) (fun t _=>hpt t) i
   have hpi:=hpt ts[i]
   dsimp only
   rw [b8 (by omega),i9,a0m hi,a8,a8c F c s f ts[i].Text id ho hF,a8,b7L _ ts i hi,B9 ⟨by omega,by omega⟩,y2 (by omega)]
   rfl) (fun st hs=>by
   subst hg2;subst hs
   refine⟨_,?_,rfl⟩
   dsimp only
   rw [c6 (by omega),i6,List.take_length];rfl)
  rw [ht2,hp2]
  have hsb:=b0b (w:=fun t:C8=>O9 c s f t.Text id) (l:=ts) (fun t _=>hpt t) ts.length
  rw [List.take_length] at hsb
  unfold c2M
  generalize (a5P (a2G s f id ts) n).length=k
  generalize (ts.map fun t=>O9 c s f t.Text id).sum=m at *
  by_cases hk:k<3
  ·rw [c6 (by omega),i6,if_pos hk]
   simp only [a8]
   have:k*m≤3*m:=Nat.mul_le_mul_right _ (by omega)
   rw [show (m:Int)*((k:Nat):Int)=((k*m:Nat):Int) by rw [Nat.mul_comm];simp,B9 ⟨by omega,by omega⟩]
  ·rw [if_neg hk]
   by_cases hk3:k=3
   ·subst hk3
    rw [c6 (by omega),i6]
    simp only [a8]
    rw [show (m:Int)*((3:Nat):Int)=((3*m:Nat):Int) by rw [Nat.mul_comm];simp,B9 ⟨by omega,by omega⟩]
   ·rw [b8 (by omega),i9]
    simp only [a8]
    rw [show (m:Int)*(3:Int)=((3*m:Nat):Int) by rw [Nat.mul_comm];simp,B9 ⟨by omega,by omega⟩]
theorem b8s (c:u5)(s:A7)(f:q9)(ws:List q9)(n id:Int)(ho:N0 c s=true)(hw: ∀w∈ws,D0 w=true)(hl:ws.length≤4):a4Y c s f ws n id≤300000000000:=by
 have hj:=a5m ws hw
 have htl:=a3u c (U1 ws)
 unfold a4Y
 dsimp only
 generalize G3 c (U1 ws)=ts at *
 split
 ·omega
 ·have hsb:=b0b (w:=fun t:C8=>O9 c s f t.Text id) (l:=ts) (fun t _=>a4e c s f t.Text id ho) ts.length
  have hsb2:ts.length*1000000000≤100*1000000000:=Nat.mul_le_mul_right _ (by omega)
  rw [List.take_length] at hsb
  unfold c2M
  generalize (ts.map fun t=>O9 c s f t.Text id).sum=m at *
  split
  ·rename_i hk
   have:=Nat.mul_le_mul_right m (Nat.le_of_lt hk)
   omega
  ·omega
end Go.Fk
set_option linter.unusedVariables false
namespace Go.Fk
open Go
theorem b6G {α σ:Type}{xs:List α}(g:σ→α→σ){f:σ×Int→Option ((σ×Int)⊕σ)}(F:Nat)(hF:xs.length<F)(hl:xs.length<9000000000000000000)
  (h: ∀(i:Nat) x s,xs[i]? =some x→f (s,(i:Int))=some (.inl (g s x,((i+1:Nat):Int))))(h0: ∀s,f (s,(xs.length:Int))=some (.inr s))(s0:σ):v8 f F (s0,(0:Int))=some (xs.foldl g s0):=by
 obtain⟨t,ht,hp⟩:=H4 (σ:=σ×Int) (τ:=σ) (f:=f) (Post:=fun t=>t=xs.foldl g s0) (fun i st=>st=((xs.take i).foldl g s0,(i:Int))) xs.length (fun i st hi hs=>by
  subst hs
  refine .inl ⟨_,h i xs[i] _ (j4 hi),?_⟩
  rw [List.take_succ_eq_append_getElem hi,List.foldl_append];rfl) (fun st hs=>by
  subst hs
  exact⟨_,h0 _,by rw [List.take_length]⟩) xs.length 0 (s0,(0:Int)) F (by omega) hF (by simp)
 rw [ht,hp]
theorem b4B {σ:Type}(n:q9)(g:σ→q9→σ): ∀(es:List B1) (s:σ),es.foldl (fun s e=>if e.Field==n then g s e.Term else s) s=(es.flatMap (a8Q n)).foldl g s
 | [],s=>rfl
 | e::es,s=>by
  rw [List.foldl_cons,List.flatMap_cons,List.foldl_append,b4B n g es]
  unfold a8Q
  split<;>rfl
def b6W (c:u5)(s:A7)(f w:q9)(id:Int)(t:q9):Int:=(((O9 c s f t id:Nat):Int)*(3-b33 t w)).tdiv 3
def a4F (c:u5)(s:A7)(f w:q9)(n id:Int)(best:Int)(t:q9):Int:=if decide (b33 t w≤n) then (if best<b6W c s f w id t then b6W c s f w id t else best) else best
def b1u (c:u5)(s:A7)(f w:q9)(n id:Int):Int:=(a2n s f).foldl (a4F c s f w n id) 0
theorem b5s (t w:q9):0≤b33 t w∧b33 t w≤(t.length:Int)+w.length:=b2q t w t.length w.length
theorem b6X {p:Nat}{d:Int}(hp:p≤1000000000)(h0:0≤d)(h2:d≤2):a3l (A1 ((p:Int)*A1 (3-d))) 3=some (((p:Int)*(3-d)).tdiv 3):=by
 have e1:A1 (3-d)=3-d:=B9 ⟨by omega,by omega⟩
 have e2:A1 ((p:Int)*(3-d))=(p:Int)*(3-d):=by
  have:d=0∨d=1∨d=2:=by omega
  rcases this with rfl | rfl | rfl<;>exact B9 ⟨by omega,by omega⟩
 have e3:A1 (((p:Int)*(3-d)).tdiv 3)=((p:Int)*(3-d)).tdiv 3:=by
  have:d=0∨d=1∨d=2:=by omega
  rcases this with rfl | rfl | rfl<;>(rw [Int.tdiv_eq_ediv_of_nonneg (by omega)];exact B9 ⟨by omega,by omega⟩)
 rw [e1,e2,a3l,if_neg (by omega),e3]
theorem b8b (F:Nat)(c:u5)(s:A7)(f w:q9)(n id:Int)(ho:N0 c s=true)(hw:D0 w=true)(hn:1≤n∧n≤2)(hF:1000000000<F){g:Nat→Int→Option Int}
  (hg: ∀(i:Nat) (b:Int),g i b=(Option.bind (u0 (a2n s f) ((i:Nat):Int)) fun x140=>(Option.bind (u0 ([w]:List q9) (0:Int)) fun x150=>(Option.bind (a0E F x140 x150) fun r160=>(Option.bind (y9 F r160 (0:Int) n) fun r169=>(cond r169 (Option.bind (L1 F ⟨c,s⟩ f x140 id) fun r179=>(Option.bind (a3l (A1 (r179*(A1 ((3:Int)-r160)))) (3:Int)) fun x188=>(some (if x188>b then x188 else b)))) (some b))))))):
  U6 g (a2n s f).length 0 (0:Int)=some (b1u c s f w n id):=by
 unfold b1u
 rw [a8m (xs:=a2n s f) (a4F c s f w n id) (fun i x b hx=>?_)]
 have hxw:=b1I ho (l7 hx)
 have hfp:=b5s x w
 rw [hg,n5,hx,a8,show u0 [w] (0:Int)=some w from rfl,a8,c16 F x w hxw hw (by omega),a8,M7,a8,N7 hfp.1,q8]
 unfold a4F
 by_cases hd:b33 x w≤n
 ·rw [b8 hd,i9,a7G F c s f x id ho hF,a8,b6X (a4e c s f x id ho) hfp.1 (by omega),a8,if_pos rfl]
  rfl
 ·rw [c6 hd,i6,if_neg (by simp)]
theorem b8K (F:Nat)(c:u5)(s:A7)(f w:q9)(n a b id:Int)(ks:List r5)(ho:N0 c s=true)(hw:D0 w=true)(hn:1≤n∧n≤2)(hF:1000000000<F):a14 F s ⟨a,f,[w],n,b,ks⟩ id=some (b1u c s f w n id):=by
 have hfew:=a3g ho
 have hwl:=N3 hw
 unfold a14 b1u a2n
 rw [←b4B]
 dsimp only
 rw [b6G (xs:=s.Entries) (fun (b:Int) e=>if e.Field==f then a4F c s f w n id b e.Term else b) F (by omega) (by omega) (fun i e b hx=>?_) (fun b=>?_) (0:Int)]
 ·rfl
 ·have hi:=(i4.1 hx).1
  have hew:=N3 (a84 ho (l7 hx))
  have hfp:=b5s e.Term w
  dsimp only
  rw [b8 (by omega),i9,n5,hx,a8,show u0 [w] (0:Int)=some w from rfl,a8,c2F F e.Term w (by omega) (by omega) (by omega),a8,y2 (by omega)]
  cases e.Field==f
  ·rfl
  ·rw [l9,i6,a8,if_pos rfl]
   unfold a4F
   by_cases hd:b33 e.Term w≤n
   ·rw [c6 (by omega),i6,a8c F c s f e.Term id ho hF,a8,b6X (a4e c s f e.Term id ho) hfp.1 (by omega),a8,b8 hd,if_pos rfl]
    unfold b6W
    by_cases hb:b<(((O9 c s f e.Term id:Nat):Int)*(3-b33 e.Term w)).tdiv 3
    ·rw [b8 hb,if_pos hb];rfl
    ·rw [c6 hb,if_neg hb];rfl
   ·rw [b8 (by omega),i9,c6 hd,if_neg (by simp)]
 ·dsimp only
  rw [c6 (by omega)];rfl
theorem b2x (c:u5)(s:A7)(f w:q9)(n id:Int)(ho:N0 c s=true): ∀(l:List q9) (b:Int),0≤b→b≤1000000000→0≤l.foldl (a4F c s f w n id) b∧l.foldl (a4F c s f w n id) b≤1000000000
 | [],b,h0,h1=>⟨h0,h1⟩
 | t::l,b,h0,h1=>by
  rw [List.foldl_cons]
  have hp:=a4e c s f t id ho
  have hf:=b5s t w
  have hv:b6W c s f w id t≤1000000000:=by
   unfold b6W
   generalize O9 c s f t id=p at *
   generalize b33 t w=d at *
   have h3:(p:Int)*(3-d)≤(p:Int)*3:=Int.mul_le_mul_of_nonneg_left (by omega) (by omega)
   by_cases h:(p:Int)*(3-d)<0
   ·have:((p:Int)*(3-d)).tdiv 3≤0:=by
     have h4:=Int.neg_tdiv (-((p:Int)*(3-d))) 3
     rw [Int.neg_neg] at h4
     rw [h4,Int.tdiv_eq_ediv_of_nonneg (by omega)]
     omega
    omega
   ·rw [Int.tdiv_eq_ediv_of_nonneg (by omega)];omega
  unfold a4F
  split
  ·split
   ·exact b2x c s f w n id ho l _ (by omega) hv
   ·exact b2x c s f w n id ho l b h0 h1
  ·exact b2x c s f w n id ho l b h0 h1
def a6s (s:A7)(f p:q9)(id:Int)(t:q9):Bool:=a2X p t&&decide (0<(atS s f t id).length)
def b1h (s:A7)(f p:q9)(id:Int):Bool:=(a2n s f).any (a6s s f p id)
theorem c0i (F:Nat)(p t:q9)(hp:a7B p=true)(ht:D0 t=true)(hF:100<F):a1Z F p t=some (a2X p t):=by
 have h1:=N3 ht
 have h2:p.length≤12:=by
  simp only [a7B,l8,decide_eq_true_eq] at hp
  omega
 unfold a1Z
 rw [a7C,a8,hp,i9,M0,a8,ht,i9,b4H 50 p t F (by omega) (by omega)];rfl
theorem b8I (F:Nat)(c:u5)(s:A7)(f p:q9)(n a b id:Int)(ks:List r5)(ho:N0 c s=true)(hp:a7B p=true)(hF:1000000000<F):a13 F s ⟨a,f,[p],n,b,ks⟩ id=some (b1h s f p id):=by
 have hfew:=a3g ho
 have h2:p.length≤12:=by
  simp only [a7B,l8,decide_eq_true_eq] at hp
  omega
 have hq:b1h s f p id=s.Entries.any fun e=>e.Field==f&&a6s s f p id e.Term:=by
  unfold b1h a2n
  rw [List.any_flatMap]
  congr 1
  funext e
  unfold a8Q
  cases e.Field==f<;>simp
 rw [hq]
 unfold a13
 dsimp only
 rw [a1b (xs:=s.Entries) (fun e=>e.Field==f&&a6s s f p id e.Term) (fun _=>(Sum.inr true:Unit⊕Bool)) (e:=Sum.inl ()) F (by omega) (fun i e hx=>?_) ?_]
 ·cases hf:s.Entries.find? fun e=>e.Field==f&&a6s s f p id e.Term with
  | none=>
   have:(s.Entries.any fun e=>e.Field==f&&a6s s f p id e.Term)=false:=by
    rw [List.any_eq_false]
    exact List.find?_eq_none.1 hf
   rw [this];rfl
  | some m=>
   have:(s.Entries.any fun e=>e.Field==f&&a6s s f p id e.Term)=true:=by
    rw [List.any_eq_true]
    exact⟨m,List.mem_of_find?_eq_some hf,List.find?_some (p:=fun e:B1=>e.Field==f&&a6s s f p id e.Term) hf⟩
   rw [this];rfl
 ·rw [c6 (by omega)];rfl
 ·have hi:=(i4.1 hx).1
  have hew:=N3 (a84 ho (l7 hx))
  rw [b8 (by omega),i9,n5,hx,a8,y2 (by omega)]
  cases e.Field==f
  ·rfl
  ·rw [i9,show u0 [p] (0:Int)=some p from rfl,a8,b43 50 p e.Term F (by omega) (by omega),a8,q8]
   unfold a6s
   cases a2X p e.Term
   ·rfl
   ·rw [i9,b50 F s f e.Term id hfew.1 (a6S ho f e.Term).1 (by omega),a8,a8,q8]
    by_cases h0:0<(atS s f e.Term id).length
    ·rw [b8 (show (0:Int)<((atS s f e.Term id).length:Int) by omega),b8 h0];rfl
    ·rw [c6 (show ¬(0:Int)<((atS s f e.Term id).length:Int) by omega),c6 h0];rfl
def b6S (c:u5)(s:A7)(q:r5)(x:y5):Int:=
 if q.Kind=1 then 100
 else if q.Kind=2 then ((O9 c s q.Field (b1H c (q.Words.headD [])) x.Id:Nat):Int)
 else if q.Kind=3 then ((a4Y c s q.Field q.Words q.From x.Id:Nat):Int)
 else if q.Kind=4 then b1u c s q.Field (q.Words.headD []) q.From x.Id
 else if q.Kind=5 then (if b1h s q.Field (q.Words.headD []) x.Id then 100 else 0)
 else (if decide (q.From≤a0X x q.Field)&&decide (a0X x q.Field≤q.To) then 100 else 0)
def a8B (and:Bool)(l:List Int):Int:=if and&&l.any (· ==0) then 0 else l.sum
def D1 (c:u5)(s:A7):Nat→r5→y5→Int
 | 0,_,_=>0
 | d+1,q,x=>
  if q.Kind≤6 then b6S c s q x
  else if q.Kind=10 then q.From*D1 c s d (q.Kids.headD q) x
  else if q.Kind=9 then (if 0<D1 c s d ((q.Kids[1]?).getD q) x then 0 else D1 c s d (q.Kids.headD q) x)
  else a8B (q.Kind==7) (q.Kids.map fun k=>D1 c s d k x)
def b30:Nat→Int
 | 0=>1000000000000
 | d+1=>36*b30 d
theorem b83: ∀d,1000000000000≤b30 d
 | 0=>by unfold b30;omega
 | d+1=>by have:=b83 d;unfold b30;omega
theorem c10 (c:u5)(s:A7){q:r5}(h:a4y q)(x:y5)(ho:N0 c s=true):0≤b6S c s q x∧b6S c s q x≤1000000000000:=by
 cases h with
 | all=>
  show (0:Int)≤100∧(100:Int)≤_
  omega
 | @term f w hf hw=>
  have:=a4e c s f (b1H c w) x.Id ho
  show 0≤((O9 c s f (b1H c w) x.Id:Nat):Int)∧((O9 c s f (b1H c w) x.Id:Nat):Int)≤_
  omega
 | @phrase f ws n hf h1 h2 hw h3 h4=>
  have:=b8s c s f ws n x.Id ho hw h2
  show 0≤((a4Y c s f ws n x.Id:Nat):Int)∧((a4Y c s f ws n x.Id:Nat):Int)≤_
  omega
 | @near f w n hf hw h1 h2=>
  have:=b2x c s f w n x.Id ho (a2n s f) 0 (by omega) (by omega)
  show 0≤b1u c s f w n x.Id∧b1u c s f w n x.Id≤_
  unfold b1u;omega
 | @glob f p hf hp hn=>
  show 0≤(if b1h s f p x.Id then (100:Int) else 0)∧(if b1h s f p x.Id then (100:Int) else 0)≤_
  split<;>omega
 | @range f a b hf h1 h2 h3 h4=>
  show 0≤(if decide (a≤a0X x f)&&decide (a0X x f≤b) then (100:Int) else 0)∧(if decide (a≤a0X x f)&&decide (a0X x f≤b) then (100:Int) else 0)≤_
  split<;>omega
theorem a6D {B:Int}: ∀{l:List Int},(∀x∈l,0≤x∧x≤B)→0≤l.sum∧l.sum≤(l.length:Int)*B
 | [],_=>by simp
 | x::l,h=>by
  have h1:=h x (.head _)
  have h2:=a6D (l:=l) fun y hy=>h y (.tail _ hy)
  rw [List.sum_cons,r4,show (((l.length+1:Nat):Int))*B=(l.length:Int)*B+B by rw [Int.natCast_add,Int.add_mul];simp]
  omega
theorem b82 {B:Int}{and:Bool}{l:List Int}(hB:0≤B)(hl:l.length≤4)(h: ∀x∈l,0≤x∧x≤B):0≤a8B and l∧a8B and l≤4*B:=by
 have h1:=a6D h
 have h2:(l.length:Int)*B≤4*B:=Int.mul_le_mul_of_nonneg_right (by omega) hB
 unfold a8B
 split<;>omega
theorem b0B {q:r5}(h:a4y q):q.Kind≤6:=by
 cases h with
 | all=>exact(by decide :(1:Int)≤6)
 | term=>exact(by decide :(2:Int)≤6)
 | phrase=>exact(by decide :(3:Int)≤6)
 | near=>exact(by decide :(4:Int)≤6)
 | glob=>exact(by decide :(5:Int)≤6)
 | range=>exact(by decide :(6:Int)≤6)
theorem a5a (c:u5)(s:A7)(x:y5)(ho:N0 c s=true): ∀{d:Nat} {q:r5},I8 d q→0≤D1 c s d q x∧D1 c s d q x≤b30 d
 | 0,q,h=>by cases h
 | d+1,q,h=>by
  have hb:=b83 d
  have hbd:b30 (d+1)=36*b30 d:=rfl
  cases h with
  | leaf h=>
   have:=c10 c s h x ho
   rw [D1,if_pos (b0B h)];omega
  | @and _ ks h1 h2 h3=>
   have:=b82 (and:=true) (l:=ks.map fun k=>D1 c s d k x) (B:=b30 d) (by omega) (by simpa using h2) fun y hy=>by
    obtain⟨k,hk,rfl⟩:=List.mem_map.1 hy
    exact a5a c s x ho (h3 k hk)
   show 0≤a8B true (ks.map fun k=>D1 c s d k x)∧a8B true (ks.map fun k=>D1 c s d k x)≤_
   omega
  | @or _ ks h1 h2 h3=>
   have:=b82 (and:=false) (l:=ks.map fun k=>D1 c s d k x) (B:=b30 d) (by omega) (by simpa using h2) fun y hy=>by
    obtain⟨k,hk,rfl⟩:=List.mem_map.1 hy
    exact a5a c s x ho (h3 k hk)
   show 0≤a8B false (ks.map fun k=>D1 c s d k x)∧a8B false (ks.map fun k=>D1 c s d k x)≤_
   omega
  | @less _ a b h1 h2=>
   have r1:=a5a c s x ho h1
   show 0≤(if 0<D1 c s d b x then 0 else D1 c s d a x)∧(if 0<D1 c s d b x then 0 else D1 c s d a x)≤_
   split<;>omega
  | @times _ n k h1 h2 h3=>
   have r1:=a5a c s x ho h3
   show 0≤n*D1 c s d k x∧n*D1 c s d k x≤_
   have h4:n*D1 c s d k x≤9*D1 c s d k x:=Int.mul_le_mul_of_nonneg_right h2 r1.1
   have h5:0≤n*D1 c s d k x:=Int.mul_nonneg (by omega) r1.1
   omega
end Go.Fk
set_option linter.unusedVariables false
namespace Go.Fk
open Go
theorem c32 {d:Nat}(h:d≤3):b30 d≤1000000000000*46656:=by
 have:d=0∨d=1∨d=2∨d=3:=by omega
 rcases this with rfl | rfl | rfl | rfl<;>decide
theorem b7X {α:Type}{ks:List α}{v:α→Int}{g:Nat→Int→Option (Int⊕Int)}{and:Bool}{m:Int}(hv: ∀k∈ks,0≤v k)
  (h: ∀i x a,ks[i]? =some x→0≤a→a+v x≤m→g i a=some (if and&&v x==0 then .inr 0 else .inl (a+v x))):
  ∀k i a,i+k=ks.length→0≤a→a+((ks.drop i).map v).sum≤m→C7 g k i a=some (if and&&((ks.drop i).map v).any (· ==0) then .inr 0 else .inl (a+((ks.drop i).map v).sum))
 | 0,i,a,e,h0,hm=>by
  rw [List.drop_of_length_le (by omega)]
  cases and<;>simp [C7]
 | k+1,i,a,e,h0,hm=>by
  have hi:i<ks.length:=by omega
  have hx:=hv _ (List.getElem_mem hi)
  rw [List.drop_eq_getElem_cons hi,List.map_cons,List.sum_cons] at hm
  have hrest:0≤((ks.drop (i+1)).map v).sum:=by
   have: ∀l:List α,(∀x∈l,0≤v x)→0≤(l.map v).sum:=fun l hl=>by
    induction l with
    | nil=>simp
    | cons y l ih=>
     rw [List.map_cons,List.sum_cons]
     have:=hl y (.head _)
     have:=ih fun z hz=>hl z (.tail _ hz)
     omega
   exact this _ fun x hx=>hv x (List.mem_of_mem_drop hx)
  rw [C7,h i ks[i] a (j4 hi) h0 (by omega),List.drop_eq_getElem_cons hi,List.map_cons,List.sum_cons,List.any_cons]
  cases hz:and&&v ks[i]==0
  ·simp only [Bool.false_eq_true,if_false,a8,Sum.elim_inl]
   show C7 g k (i+1) (a+v ks[i])=_
   rw [b7X hv h k (i+1) (a+v ks[i]) (by omega) (by omega) (by omega)]
   cases and
   ·simp;omega
   ·simp only [q8] at hz ⊢
    rw [hz,Bool.false_or,Int.add_assoc]
  ·simp only [l8] at hz
   rw [hz.1,hz.2];rfl
theorem b7Y {α:Type}{ks:List α}{v:α→Int}{g:Int×Int→Option ((Int×Int)⊕(Int⊕Int))}{and:Bool}{m:Int}(hl:ks.length≤1000000)(hv: ∀k∈ks,0≤v k)
  (h: ∀(i:Nat) x a,ks[i]? =some x→0≤a→a+v x≤m→g (a,(i:Int))=some (if and&&v x==0 then .inr (.inr 0) else .inl (a+v x,((i+1:Nat):Int))))(h1: ∀a,g (a,(ks.length:Int))=some (.inr (.inl a))):
  ∀k i a F,i+k=ks.length→k<F→0≤a→a+((ks.drop i).map v).sum≤m→v8 g F (a,(i:Int))=some (if and&&((ks.drop i).map v).any (· ==0) then .inr 0 else .inl (a+((ks.drop i).map v).sum))
 | 0,i,a,F,e,hF,h0,hm=>by
  obtain⟨F,rfl⟩: ∃G,F=G+1:=⟨F-1,by omega⟩
  rw [v8,show i=ks.length by omega,h1,List.drop_of_length_le (Nat.le_refl _)]
  cases and<;>simp
 | k+1,i,a,F,e,hF,h0,hm=>by
  obtain⟨F,rfl⟩: ∃G,F=G+1:=⟨F-1,by omega⟩
  have hi:i<ks.length:=by omega
  have hx:=hv _ (List.getElem_mem hi)
  rw [List.drop_eq_getElem_cons hi,List.map_cons,List.sum_cons] at hm
  have hrest:0≤((ks.drop (i+1)).map v).sum:=by
   have: ∀l:List α,(∀x∈l,0≤v x)→0≤(l.map v).sum:=fun l hl=>by
    induction l with
    | nil=>simp
    | cons y l ih=>
     rw [List.map_cons,List.sum_cons]
     have:=hl y (.head _)
     have:=ih fun z hz=>hl z (.tail _ hz)
     omega
   exact this _ fun x hx=>hv x (List.mem_of_mem_drop hx)
  rw [v8,h i ks[i] a (j4 hi) h0 (by omega),List.drop_eq_getElem_cons hi,List.map_cons,List.sum_cons,List.any_cons]
  cases hz:and&&v ks[i]==0
  ·simp only [Bool.false_eq_true,if_false,a8,Sum.elim_inl]
   show v8 g F (a+v ks[i],((i+1:Nat):Int))=_
   rw [b7Y hl hv h h1 k (i+1) (a+v ks[i]) F (by omega) (by omega) (by omega) (by omega)]
   cases and
   ·simp;omega
   ·simp only [q8] at hz ⊢
    rw [hz,Bool.false_or,Int.add_assoc]
  ·simp only [l8] at hz
   rw [hz.1,hz.2];rfl
theorem c0l (F:Nat)(c:u5)(s:A7){q:r5}(h:a4y q)(x:y5)(ho:N0 c s=true)(hx:x∈s.Docs)(hF:1000000000<F):D9 (F+1) ⟨c,s⟩ q x=some (b6S c s q x):=by
 obtain⟨h1,h2,h3⟩:=a3V ho
 have hst:=(a6I h1).1
 have hfew:=a3g ho
 rw [D9]
 dsimp only
 cases h with
 | all=>rfl
 | @term f w hf hw=>
  simp only [Int.reduceBEq,i6,i9]
  rw [show u0 ([w]:List q9) (0:Int)=some w from rfl,a8,b8g F c w (by omega) (by omega),a8,a7G F c s f _ x.Id ho hF]
  rfl
 | @phrase f ws n hf g1 g2 hw g3 g4=>
  simp only [Int.reduceBEq,i6,i9]
  rw [b6L F c s f ws n 3 0 [] x ho hw g2 hF]
  rfl
 | @near f w n hf hw g1 g2=>
  simp only [Int.reduceBEq,i6,i9]
  rw [b1m F c s f hfew.1,a8,b8b F c s f w n x.Id ho hw ⟨g1,g2⟩ hF (fun i b=>rfl)]
  rfl
 | @glob f p hf hp hn=>
  simp only [Int.reduceBEq,i6,i9]
  rw [b1m F c s f hfew.1,a8,
   a2v (xs:=a2n s f) (a6s s f p x.Id) (fun _=>(100:Int)) (fun i t ht=>?_)]
  ·show _=some (if b1h s f p x.Id then 100 else 0)
   unfold b1h
   cases hf:(a2n s f).find? (a6s s f p x.Id) with
   | none=>
    have:(a2n s f).any (a6s s f p x.Id)=false:=by
     rw [List.any_eq_false]
     exact List.find?_eq_none.1 hf
    rw [this];rfl
   | some m=>
    have:(a2n s f).any (a6s s f p x.Id)=true:=by
     rw [List.any_eq_true]
     exact⟨m,List.mem_of_find?_eq_some hf,List.find?_some hf⟩
    rw [this];rfl
  ·have htw:=b1I ho (l7 ht)
   rw [n5,ht,a8,show u0 ([p]:List q9) (0:Int)=some p from rfl,a8,c0i F p t hp htw (by omega),a8]
   unfold a6s
   cases a2X p t
   ·rfl
   ·rw [i9,a7F,a8,a8,q8]
    by_cases h0:0<(atS s f t x.Id).length
    ·rw [b8 (show (0:Int)<((atS s f t x.Id).length:Int) by omega),b8 h0];rfl
    ·rw [c6 (show ¬(0:Int)<((atS s f t x.Id).length:Int) by omega),c6 h0];rfl
 | @range f a b hf g1 g2 g3 g4=>
  simp only [Int.reduceBEq,i6,i9]
  rw [c0m F x f (b0r h2 x hx),a8,M7,a8]
  show _=some (if decide (a≤a0X x f)&&decide (a0X x f≤b) then 100 else 0)
  cases decide (a≤a0X x f)&&decide (a0X x f≤b)<;>rfl
theorem b22 (c:u5)(s:A7)(x:y5)(ho:N0 c s=true)(hx:x∈s.Docs): ∀{d:Nat} {q:r5},I8 d q→d≤4→∀F,1000000000+d<F→D9 F ⟨c,s⟩ q x=some (D1 c s d q x)
 | 0,q,h,_,_,_=>by cases h
 | d+1,q,h,hd,F,hF=>by
  obtain⟨F,rfl⟩: ∃G,F=G+1:=⟨F-1,by omega⟩
  have ih: ∀k,I8 d k→D9 F ⟨c,s⟩ k x=some (D1 c s d k x):=fun k hk=>b22 c s x ho hx hk (by omega) F (by omega)
  have rng: ∀k,I8 d k→0≤D1 c s d k x∧D1 c s d k x≤1000000000000*46656:=fun k hk=>by
   have:=a5a c s x ho hk
   have:=c32 (show d≤3 by omega)
   omega
  cases h with
  | leaf h=>rw [c0l F c s h x ho hx (by omega),D1,if_pos (b0B h)]
  | @and _ ks h1 h2 h3=>
   have hsum:=a6D (B:=1000000000000*46656) (l:=ks.map fun k=>D1 c s d k x) fun y hy=>by
    obtain⟨k,hk,rfl⟩:=List.mem_map.1 hy
    exact rng k (h3 k hk)
   rw [List.length_map] at hsum
   rw [D9]
   dsimp only
   simp only [Int.reduceBEq,i6]
   have hv: ∀k∈ks,0≤D1 c s d k x:=fun k hk=>(rng k (h3 k hk)).1
   have key:=fun g h=>b7X (g:=g) (and:=true) (m:=9000000000000000000) hv h ks.length 0 0 (by omega) (by omega) (by rw [List.drop_zero];omega)
   rw [key _ (fun i k a hk h0 hm=>?_),List.drop_zero]
   ·show _=some (a8B true (ks.map fun k=>D1 c s d k x))
    unfold a8B
    cases (true&&(ks.map fun k=>D1 c s d k x).any (· ==0))
    ·simp
    ·simp
   ·have hr:=rng k (h3 k (l7 hk))
    rw [n5,hk,a8,ih k (h3 k (l7 hk)),a8,q8,B9 ⟨by omega,by omega⟩]
    cases D1 c s d k x==0<;>rfl
  | @or _ ks h1 h2 h3=>
   have hsum:=a6D (B:=1000000000000*46656) (l:=ks.map fun k=>D1 c s d k x) fun y hy=>by
    obtain⟨k,hk,rfl⟩:=List.mem_map.1 hy
    exact rng k (h3 k hk)
   rw [List.length_map] at hsum
   rw [D9]
   dsimp only
   simp only [Int.reduceBEq,i6]
   have hv: ∀k∈ks,0≤D1 c s d k x:=fun k hk=>(rng k (h3 k hk)).1
   have key:=fun g h=>b7X (g:=g) (and:=false) (m:=9000000000000000000) hv h ks.length 0 0 (by omega) (by omega) (by rw [List.drop_zero];omega)
   rw [key _ (fun i k a hk h0 hm=>?_),List.drop_zero]
   ·show _=some (a8B false (ks.map fun k=>D1 c s d k x))
    unfold a8B
    simp
   ·have hr:=rng k (h3 k (l7 hk))
    rw [n5,hk,a8,ih k (h3 k (l7 hk)),a8,Bool.false_and,B9 ⟨by omega,by omega⟩]
    cases D1 c s d k x==0<;>rfl
  | @less _ a b h1 h2=>
   rw [D9]
   dsimp only
   simp only [Int.reduceBEq,i6,i9]
   rw [show u0 ([a,b]:List r5) (1:Int)=some b from rfl,a8,ih b h2,a8]
   show _=some (if 0<D1 c s d b x then 0 else D1 c s d a x)
   by_cases hb:0<D1 c s d b x
   ·rw [b8 hb,i9,if_pos hb]
   ·rw [c6 hb,i6,if_neg hb,show u0 ([a,b]:List r5) (0:Int)=some a from rfl,a8,ih a h1];rfl
  | @times _ n k h1 h2 h3=>
   have hr:=rng k h3
   rw [D9]
   dsimp only
   simp only [Int.reduceBEq,i6,i9]
   have h4:n*D1 c s d k x≤9*D1 c s d k x:=Int.mul_le_mul_of_nonneg_right h2 hr.1
   have h5:0≤n*D1 c s d k x:=Int.mul_nonneg (by omega) hr.1
   rw [show u0 ([k]:List r5) (0:Int)=some k from rfl,a8,ih k h3,a8,B9 ⟨by omega,by omega⟩]
   rfl
theorem b8F (F:Nat)(s:A7)(id:Int)(hl:s.Docs.length≤1000000)(hF:s.Docs.length<F):a2N F s id=some ((s.Docs.find? fun d=>d.Id==id).getD ⟨0,[],[]⟩):=by
 unfold a2N
 have key:=fun f step fin=>H4 (σ:=Int×y5) (τ:=y5⊕y5) (f:=f) (Post:=fun t=>t=(s.Docs.find? fun d=>d.Id==id).elim (.inl ⟨0,[],[]⟩) .inr) (fun i st=>st=((i:Int),⟨0,[],[]⟩)∧∀j,(h:j<s.Docs.length)→j<i→(s.Docs[j].Id==id)=false) s.Docs.length step fin s.Docs.length 0 ((0:Int),⟨0,[],[]⟩) F (by omega) hF ⟨rfl,fun j _ h=>by omega⟩
 generalize hf:(fun (s35:Int×y5)=>_:Int×y5→Option ((Int×y5)⊕(y5⊕y5)))=f
 obtain⟨t,ht,hp⟩:=key f (fun i st hi hI=>by
  obtain⟨rfl,hI⟩:=hI
  subst hf
  dsimp only
  rw [b8 (by omega),i9,a0m hi,a8]
  cases he:s.Docs[i].Id==id
  ·left
   refine⟨_,rfl,by rw [y2 (by omega)],fun j hj hji=>?_⟩
   rcases Nat.lt_or_ge j i with h | h
   ·exact hI j hj h
   ·obtain rfl:j=i:=by omega
    exact he
  ·right
   refine⟨_,rfl,?_⟩
   have:s.Docs.find? (fun d=>d.Id==id)=some s.Docs[i]:=List.find?_eq_some_iff_getElem.2 ⟨he,i,hi,rfl,fun j hj=>by rw [hI j (by omega) hj];rfl⟩
   rw [this];rfl) (fun st hI=>by
  obtain⟨rfl,hI⟩:=hI
  subst hf
  dsimp only
  rw [c6 (by omega),i6]
  refine⟨_,rfl,?_⟩
  have:s.Docs.find? (fun d=>d.Id==id)=none:=List.find?_eq_none.2 fun d hd=>by
   obtain⟨j,hj,rfl⟩:=List.mem_iff_getElem.1 hd
   rw [hI j hj hj];simp
  rw [this];rfl)
 rw [ht,hp]
 cases s.Docs.find? fun d=>d.Id==id<;>rfl
theorem b46 (F:Nat)(b:Bool):a0L F b=some (if b then 100 else 0):=by
 unfold a0L
 cases b<;>rfl
theorem c1P {c:u5}{s:A7}(ho:N0 c s=true){x:y5}(hx:x∈s.Docs):s.Docs.find? (fun d=>d.Id==x.Id)=some x:=by
 obtain⟨_,h2,_⟩:=a3V ho
 exact b5y (a3J h2).2.2 hx
theorem c0O (F:Nat)(c:u5)(s:A7){q:r5}(h:a4y q)(x:y5)(ho:N0 c s=true)(hx:x∈s.Docs)(hc:a0B 100 c)(hn:x.Nums.length≤1000000)(hF:1000000000<F):F4 (F+1) c s q x.Id=some (b6S c s q x):=by
 obtain⟨h1,h2,h3⟩:=a3V ho
 have hfew:=a3g ho
 rw [F4]
 dsimp only
 cases h with
 | all=>rfl
 | @term f w hf hw=>
  simp only [Int.reduceBEq,i6,i9]
  rw [show u0 ([w]:List q9) (0:Int)=some w from rfl,a8,b8N F c w hc h1 hw (by omega),a8,a8c F c s f _ x.Id ho hF]
  rfl
 | @phrase f ws n hf g1 g2 hw g3 g4=>
  simp only [Int.reduceBEq,i6,i9]
  rw [b7C F c s f ws n 3 0 [] x.Id ho hw g2 hF]
  rfl
 | @near f w n hf hw g1 g2=>
  simp only [Int.reduceBEq,i6,i9]
  rw [b8K F c s f w n 4 0 x.Id [] ho hw ⟨g1,g2⟩ hF]
  rfl
 | @glob f p hf hp hn=>
  simp only [Int.reduceBEq,i6,i9]
  rw [b8I F c s f p 0 5 0 x.Id [] ho hp hF,a8,b46]
  rfl
 | @range f a b hf g1 g2 g3 g4=>
  simp only [Int.reduceBEq,i6,i9]
  rw [b8F F s x.Id (by omega) (by omega),c1P ho hx,a8,Option.getD_some,c0Q F x f (by omega) hn,a8,inS,a8,b46]
  rfl
theorem a6V (c:u5)(s:A7)(x:y5)(ho:N0 c s=true)(hx:x∈s.Docs)(hc:a0B 100 c)(hn:x.Nums.length≤1000000): ∀{d:Nat} {q:r5},I8 d q→d≤4→∀F,1000000000+d<F→F4 F c s q x.Id=some (D1 c s d q x)
 | 0,q,h,_,_,_=>by cases h
 | d+1,q,h,hd,F,hF=>by
  obtain⟨F,rfl⟩: ∃G,F=G+1:=⟨F-1,by omega⟩
  have ih: ∀k,I8 d k→F4 F c s k x.Id=some (D1 c s d k x):=fun k hk=>a6V c s x ho hx hc hn hk (by omega) F (by omega)
  have rng: ∀k,I8 d k→0≤D1 c s d k x∧D1 c s d k x≤1000000000000*46656:=fun k hk=>by
   have:=a5a c s x ho hk
   have:=c32 (show d≤3 by omega)
   omega
  cases h with
  | leaf h=>rw [c0O F c s h x ho hx hc hn (by omega),D1,if_pos (b0B h)]
  | @and _ ks h1 h2 h3=>
   have hsum:=a6D (B:=1000000000000*46656) (l:=ks.map fun k=>D1 c s d k x) fun y hy=>by
    obtain⟨k,hk,rfl⟩:=List.mem_map.1 hy
    exact rng k (h3 k hk)
   rw [List.length_map] at hsum
   rw [F4]
   dsimp only
   simp only [Int.reduceBEq,i6]
   have hv: ∀k∈ks,0≤D1 c s d k x:=fun k hk=>(rng k (h3 k hk)).1
   have key:=fun g h h1=>b7Y (g:=g) (and:=true) (m:=9000000000000000000) (by omega) hv h h1 ks.length 0 0 F (by omega) (by omega) (by omega) (by rw [List.drop_zero];omega)
   rw [show ((0:Int),(0:Int))=((0:Int),((0:Nat):Int)) from rfl,key _ (fun i k a hk h0 hm=>?_) (fun a=>?_),List.drop_zero]
   ·show _=some (a8B true (ks.map fun k=>D1 c s d k x))
    unfold a8B
    cases (true&&(ks.map fun k=>D1 c s d k x).any (· ==0))
    ·simp
    ·simp
   ·have hi:=(i4.1 hk).1
    have hr:=rng k (h3 k (l7 hk))
    dsimp only
    rw [b8 (by omega),i9,n5,hk,a8,ih k (h3 k (l7 hk)),a8,q8,B9 (n:=a+D1 c s d k x) ⟨by omega,by omega⟩,y2 (by omega)]
    cases D1 c s d k x==0<;>rfl
   ·dsimp only
    rw [c6 (by omega)];rfl
  | @or _ ks h1 h2 h3=>
   have hsum:=a6D (B:=1000000000000*46656) (l:=ks.map fun k=>D1 c s d k x) fun y hy=>by
    obtain⟨k,hk,rfl⟩:=List.mem_map.1 hy
    exact rng k (h3 k hk)
   rw [List.length_map] at hsum
   rw [F4]
   dsimp only
   simp only [Int.reduceBEq,i6]
   have hv: ∀k∈ks,0≤D1 c s d k x:=fun k hk=>(rng k (h3 k hk)).1
   have key:=fun g h h1=>b7Y (g:=g) (and:=false) (m:=9000000000000000000) (by omega) hv h h1 ks.length 0 0 F (by omega) (by omega) (by omega) (by rw [List.drop_zero];omega)
   rw [show ((0:Int),(0:Int))=((0:Int),((0:Nat):Int)) from rfl,key _ (fun i k a hk h0 hm=>?_) (fun a=>?_),List.drop_zero]
   ·show _=some (a8B false (ks.map fun k=>D1 c s d k x))
    unfold a8B
    simp
   ·have hi:=(i4.1 hk).1
    have hr:=rng k (h3 k (l7 hk))
    dsimp only
    rw [b8 (by omega),i9,n5,hk,a8,ih k (h3 k (l7 hk)),a8,Bool.false_and,B9 (n:=a+D1 c s d k x) ⟨by omega,by omega⟩,y2 (by omega)]
    cases D1 c s d k x==0<;>rfl
   ·dsimp only
    rw [c6 (by omega)];rfl
  | @less _ a b h1 h2=>
   rw [F4]
   dsimp only
   simp only [Int.reduceBEq,i6,i9]
   rw [show u0 ([a,b]:List r5) (1:Int)=some b from rfl,a8,ih b h2,a8]
   show _=some (if 0<D1 c s d b x then 0 else D1 c s d a x)
   by_cases hb:0<D1 c s d b x
   ·rw [b8 hb,i9,if_pos hb]
   ·rw [c6 hb,i6,if_neg hb,show u0 ([a,b]:List r5) (0:Int)=some a from rfl,a8,ih a h1];rfl
  | @times _ n k h1 h2 h3=>
   have hr:=rng k h3
   rw [F4]
   dsimp only
   simp only [Int.reduceBEq,i6,i9]
   have h4:n*D1 c s d k x≤9*D1 c s d k x:=Int.mul_le_mul_of_nonneg_right h2 hr.1
   have h5:0≤n*D1 c s d k x:=Int.mul_nonneg (by omega) hr.1
   rw [show u0 ([k]:List r5) (0:Int)=some k from rfl,a8,ih k h3,a8,B9 ⟨by omega,by omega⟩]
   rfl
end Go.Fk
