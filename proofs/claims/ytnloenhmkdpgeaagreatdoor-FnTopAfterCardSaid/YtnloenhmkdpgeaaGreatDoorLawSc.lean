import Derived.Test.YtnloenhmkdpgeaaGreatDoorLawPts
import Derived.Test.YtnloenhmkdpgeaaGreatDoorLawQs
import Derived.Test.YtnloenhmkdpgeaaGreatDoorLawDrs
/-
  What a question's leaves are worth in a document: the program and the reference reckon alike. Of no program's steps.
-/
set_option linter.unusedVariables false
namespace Go.Fk
open Go
def Y8 (c:u6)(w:r4):r4:=if D0 w&&Y6 c then ((G2 c w)[0]?).elim [] (·.Text) else []
theorem c2A {b:UInt8}(h:a1E b=true):a8T b=true:=by
 unfold a1E at h
 unfold a8T
 simp only [Bool.or_eq_true,q8,decide_eq_true_iff,Bool.not_eq_true',Bool.or_eq_false_iff,decide_eq_false_iff_not,UInt8.le_iff_toNat_le,UInt8.lt_iff_toNat_lt] at h ⊢
 have e1:(97:UInt8).toNat=97:=rfl
 have e2:(122:UInt8).toNat=122:=rfl
 have e3:(48:UInt8).toNat=48:=rfl
 have e4:(57:UInt8).toNat=57:=rfl
 have e5:(32:UInt8).toNat=32:=rfl
 have e6:(126:UInt8).toNat=126:=rfl
 omega
theorem b4u {w:r4}(h:D0 w=true):w.all a8T=true:=by
 simp only [D0,q8,List.all_eq_true] at h
 exact List.all_eq_true.2 fun b hb=>c2A (h.1 b hb)
theorem b8T {w:r4}(h:D0 w=true):a2n w=true:=by
 have:=O4 h
 unfold a2n
 rw [b4u h,b8 (by omega)];rfl
theorem a7p (F:Nat)(c:u6)(w:r4)(hc:c.Stops.length≤2000000)(hF:1000<F):Z7 F c w=some (Y8 c w):=by
 unfold Z7 Y8
 rw [O0,a8]
 cases hw:D0 w with
 | false=>rfl
 | true=>
  have hl:=O4 hw
  rw [l7,i6,a7q F c w (by omega) hc (by omega),a8,b8T hw]
  cases Y6 c with
  | false=>rfl
  | true=>
   simp only [Bool.and_self,if_true]
   cases ht:G2 c w with
   | nil=>rfl
   | cons x r=>
    rw [beq_eq_false_iff_ne.2 (by simp only [s6];omega),i6,show ((0:Int))=((0:Nat):Int) from rfl,n8];rfl
theorem b8L (F:Nat)(c:u6)(w:r4)(hc:a1K 100 c)(hcs:Y6 c=true)(hw:D0 w=true)(hF:1000<F):a3I F c w=some (Y8 c w):=by
 have hl:=O4 hw
 unfold a3I Y8
 rw [b5l F 100 c hc (by omega) (by omega),a8,hcs,l7,i6,a0x F w 12 hl (by omega) (by omega),a8,hw,a8,l7,i6,a7x F c w hcs (by omega) (by omega),a8]
 simp only [Bool.and_self,if_true]
 cases ht:G2 c w with
 | nil=>rfl
 | cons x r=>
  rw [beq_eq_false_iff_ne.2 (by simp only [s6];omega),i6,show ((0:Int))=((0:Nat):Int) from rfl,n8];rfl
def b0C (d:A1)(name:r4):Int:=(d.Nums.find? fun a=>a.Name==name).elim (-1) (·.Num)
theorem c0j (F:Nat)(d:A1)(name:r4)(hd:a5q d=true):a3E F d name=some (b0C d name):=by
 unfold a3E b0C
 rw [b3z,a8,hd,j4]
 rw [a4P (fun a=>a.Name==name) (fun a=>a.Num) (fun i x hx=>by
  rw [n8,hx,a8];cases x.Name==name<;>rfl)]
 cases List.find? (fun a=>a.Name==name) d.Nums<;>rfl
theorem c0U (F:Nat)(d:A1)(name:r4)(hl:d.Nums.length<F)(hb:d.Nums.length≤1000000):a4p F d name=some (b0C d name):=by
 unfold a4p b0C
 rw [a0u (xs:=d.Nums) (fun a=>a.Name==name) (fun a=>(.inr a.Num:Unit⊕Int)) (e:=.inl ()) F hl (fun i x hx=>?_) ?_]
 ·cases List.find? (fun a=>a.Name==name) d.Nums<;>rfl
 ·rw [c6 (by omega)];rfl
 ·have hi:=(i4.1 hx).1
  rw [b8 (by omega),j4,n8,hx,a8,a8,y5 (by omega)]
  cases x.Name==name<;>rfl
def X0 (ws:List r4):r4:=Lib.join ws [32]
theorem a4Q (a b:r4)(r:List r4):X0 (a::b::r)=a++[32]++X0 (b::r):=by
 unfold X0 Lib.join List.intercalate
 rw [List.intersperse_cons_cons,List.flatten_cons,List.flatten_cons,List.append_assoc]
theorem a6W (a:r4):X0 [a]=a:=by
 unfold X0 Lib.join List.intercalate
 simp
theorem b42 (x:r4): ∀(l:List r4),X0 (l++[x])=if l.isEmpty then x else X0 l++[32]++x
 | []=>by rw [List.nil_append,a6W];rfl
 | [a]=>by
  show X0 [a,x]=_
  rw [a4Q,a6W,a6W];rfl
 | a::b::r=>by
  show X0 (a::b::(r++[x]))=_
  have:=b42 x (b::r)
  rw [a4Q,a4Q,show b::(r++[x])=(b::r)++[x] from rfl,this]
  simp [List.append_assoc]
theorem a5Z: ∀(ws:List r4),(∀w∈ws,D0 w=true)→(X0 ws).length≤13*ws.length
 | [],_=>by unfold X0 Lib.join List.intercalate;simp
 | [a],h=>by have:=O4 (h a (.head _));rw [a6W,l8];omega
 | a::b::r,h=>by
  have h1:=O4 (h a (.head _))
  have h2:=a5Z (b::r) fun w hw=>h w (.tail _ hw)
  rw [a4Q]
  simp only [o0,s6,List.length_nil] at h2 ⊢
  omega
theorem b6Y: ∀(ws:List r4),(∀w∈ws,D0 w=true)→(X0 ws).all a8T=true
 | [],_=>by unfold X0 Lib.join List.intercalate;simp
 | [a],h=>by rw [a6W];exact b4u (h a (.head _))
 | a::b::r,h=>by
  rw [a4Q,List.all_append,List.all_append,b4u (h a (.head _)),b6Y (b::r) fun w hw=>h w (.tail _ hw)]
  rfl
theorem c0o {ws:List r4}(h: ∀w∈ws,D0 w=true)(hl:ws.length≤4):a2n (X0 ws)=true:=by
 have:=a5Z ws h
 unfold a2n
 rw [b6Y ws h,b8 (by omega)];rfl
theorem c0h {ws:List r4}(h: ∀w∈ws,D0 w=true)(hl:ws.length≤4):b6X [32] ws=some (X0 ws):=by
 have:=a5Z ws h
 unfold X0 at this ⊢
 unfold b6X
 rw [if_pos ⟨by omega,by omega⟩]
theorem c0R (F:Nat){ws:List r4}(h: ∀w∈ws,D0 w=true)(hl:ws.length≤4)(hF:10<F):a1o F ws [32]=some (X0 ws):=by
 have cat: ∀a b:r4,a.length+b.length≤10000→b0h a b=some (a++b):=fun a b hab=>by
  have hm:10000≤maxLen:=by decide
  unfold b0h
  rw [if_pos (by omega)]
 unfold a1o
 have key:=fun f step fin=>I7 (σ:=r4×Int) (τ:=r4) (f:=f) (Post:=fun t=>t=X0 ws) (fun i s=>s=(X0 (ws.take i),(i:Int))) ws.length step fin ws.length 0 (([]:r4),(0:Int)) F (by omega) (by omega) (by rw [List.take_zero];unfold X0 Lib.join List.intercalate;simp)
 generalize hf:(fun (s14:r4×Int)=>_:r4×Int→Option ((r4×Int)⊕r4))=f
 obtain⟨t,ht,hp⟩:=key f (fun i s hi hs=>by
  subst hf;subst hs
  have hm:=h _ (List.getElem_mem hi)
  have h1:=O4 hm
  have h2:=a5Z (ws.take i) fun w hw=>h w (List.mem_of_mem_take hw)
  rw [List.length_take] at h2
  left
  refine⟨_,?_,rfl⟩
  dsimp only
  rw [b8 (by omega),j4,T5 hi,List.take_succ_eq_append_getElem hi,b42]
  by_cases h0:i=0
  ·subst h0
   rw [c6 (by omega),i6,a8,a8]
   have e0:X0 (ws.take 0)=[]:=by rw [List.take_zero];unfold X0 Lib.join List.intercalate;simp
   rw [e0,cat [] _ (by simp only [List.length_nil];omega),List.take_zero]
   rfl
  ·have hne:(ws.take i).isEmpty=false:=by
    cases hw:ws.take i with
    | nil=>
     have:=congrArg List.length hw
     simp only [List.length_take,List.length_nil] at this
     omega
    | cons a r=>rfl
   rw [b8 (by omega),j4,cat _ [32] (by simp only [l8];omega),a8,a8,a8,cat _ _ (by simp only [o0,l8];omega),a8,hne,y5 (by omega)]
   rfl) (fun s hs=>by
  subst hf;subst hs
  refine⟨_,?_,rfl⟩
  dsimp only
  rw [c6 (by omega),i6,List.take_length])
 rw [ht,hp];rfl
theorem b1R: ∀(n:Nat) (s:r4) (o k:Nat),s.length≤n→∀w∈Q3 s o k,(k:Int)≤w.At∧w.At≤k+s.length
 | n,[],o,k,_,w,hw=>by rw [Y3] at hw;cases hw
 | 0,b::r,o,k,h,_,_=>by simp at h
 | n+1,b::r,o,k,h,w,hw=>by
  rw [Q3] at hw
  by_cases hb:u2 b=true
  ·rw [if_pos hb] at hw
   have hpos:0<((b::r).takeWhile u2).length:=by rw [List.takeWhile_cons,if_pos hb];simp
   rcases List.mem_cons.1 hw with rfl | hw
   ·exact⟨Int.le_refl _,by simp only;omega⟩
   ·have ih:=b1R n ((b::r).drop ((b::r).takeWhile u2).length) _ (k+1) (by rw [List.length_drop];omega) w hw
    rw [List.length_drop] at ih
    simp only [s6] at ih hpos ⊢
    omega
  ·rw [if_neg hb] at hw
   have ih:=b1R n r (o+1) k (by rw [s6] at h;omega) w hw
   rw [s6]
   omega
theorem b25 {syns:List Z0}{P:D3→Prop}(hy: ∀y∈syns,∀t,P t→P ⟨y.To,t.At⟩): ∀(n:Nat) (l:List D3),(∀t∈l,P t)→∀t∈a4F syns n l,P t
 | 0,l,_,t,ht=>by rw [a4F] at ht;cases ht
 | n+1,[],_,t,ht=>by rw [a4F] at ht;cases ht
 | n+1,x::r,h,t,ht=>by
  simp only [a4F] at ht
  cases hb:a6Q syns (x::r) with
  | none=>
   rw [hb] at ht
   rcases List.mem_cons.1 ht with rfl | ht
   ·exact h _ (.head _)
   ·exact b25 hy n r (fun t ht=>h t (.tail _ ht)) t ht
  | some y=>
   rw [hb] at ht
   rcases List.mem_cons.1 ht with rfl | ht
   ·exact hy y (a5S hb) x (h x (.head _))
   ·exact b25 hy n _ (fun t ht=>h t (List.mem_of_mem_drop ht)) t ht
theorem b5b {c:u6}{s:r4}{t:D3}(h:t∈a1X c s): ∃w∈a1c s,t=⟨a01 w.Text,w.At⟩:=by
 obtain⟨w,hw,ht⟩:=List.mem_flatMap.1 h
 unfold P9 at ht
 split at ht
 ·simp only [List.mem_singleton] at ht
  exact⟨w,hw,ht⟩
 ·cases ht
theorem b4p {c:u6}{s:r4}{t:D3}(h:t∈G2 c s):0≤t.At∧t.At≤s.length:=by
 refine b25 (P:=fun t=>0≤t.At∧t.At≤s.length) (fun y _ t ht=>ht) _ _ (fun t ht=>?_) t h
 obtain⟨w,hw,rfl⟩:=b5b ht
 have:=b1R s.length s 0 0 (Nat.le_refl _) w hw
 simp only;omega
theorem b8Q {c:u6}(hc:Y6 c=true){s:r4}{t:D3}(h:t∈G2 c s):D0 t.Text=true:=by
 refine b25 (P:=fun t=>D0 t.Text=true) (fun y hy t _=>?_) _ _ (fun t ht=>?_) t h
 ·simp only [Y6,q8,List.all_eq_true] at hc
  have:=hc.2 y hy
  simp only [a9M,q8] at this
  exact this.1.2.1
 ·obtain⟨w,hw,rfl⟩:=b5b ht
  exact c1g (a97 hw)
theorem b4S {d:A1}(h:a5q d=true)(n:r4):(H7 d n).length≤160:=by
 have:=a7n h n
 simp only [a2n,q8,decide_eq_true_eq] at this
 omega
theorem b1h {ds:List A1}(h:a1I ds=true): ∀d∈ds,a5q d=true:=by
 simp only [a1I,q8] at h
 exact(a59 h.1).1
theorem a9O {c:u6}{s:A5}(ho:G9 c s=true)(n t:r4)(id:Int):(∀x∈atS s n t id,0≤x∧x≤160)∧(atS s n t id).length≤160:=by
 obtain⟨_,h2,h3⟩:=a0w ho
 rw [h3]
 by_cases h0:(atS (a1F c s.Docs) n t id).length=0
 ·rw [List.length_eq_zero_iff.1 h0]
  exact And.intro (fun x hx=>by cases hx) (by simp)
 ·obtain⟨d,hd,_,he⟩:=b5A h0
  rw [he]
  have hds:=b1h h2 d hd
  have h160:=b4S hds n
  refine And.intro (fun x hx=>?_) ?_
  ·unfold U5 at hx
   obtain⟨y,hy,hx⟩:=List.mem_flatMap.1 hx
   split at hx
   ·simp only [List.mem_singleton] at hx
    subst hx
    have:=b4p hy
    omega
   ·cases hx
  ·have h1:=b9i (c:=c) (d:=d) n t
   have h2:=a4g c (H7 d n)
   omega
theorem a9R {c:u6}{s:A5}(ho:G9 c s=true){e:C0}(he:e∈s.Entries):D0 e.Term=true:=by
 obtain⟨h1,h2,h3⟩:=a0w ho
 rw [h3] at he
 have hp:=b6G he
 have hm:=b89 he
 rw [hm] at hp
 simp only [O5] at hp
 obtain⟨p,hp⟩:=List.exists_mem_of_length_pos hp
 obtain⟨d,hd,hpd⟩:=List.mem_flatMap.1 hp
 unfold H6 at hpd
 split at hpd
 ·rename_i hl
  simp only [decide_eq_true_eq] at hl
  obtain⟨a,ha⟩:=List.exists_mem_of_length_pos hl
  unfold U5 at ha
  obtain⟨y,hy,ha⟩:=List.mem_flatMap.1 ha
  split at ha
  ·rename_i hyt
   have:=b8Q h1 hy
   rw [eq_of_beq hyt] at this
   exact this
  ·cases ha
 ·cases hpd
theorem a2D {c:u6}{s:A5}(ho:G9 c s=true):s.Entries.length≤10000∧s.Docs.length≤16:=by
 obtain⟨_,h2,h3⟩:=a0w ho
 have:=(a8L (c:=c) h2).1
 rw [←h3] at this
 exact⟨by omega,(a0Q h2).1⟩
def a9G (n:r4)(e:C0):List r4:=if e.Field==n then [e.Term] else []
def a1D (s:A5)(n:r4):List r4:=s.Entries.flatMap (a9G n)
theorem c0C (n:r4)(e:C0):(a9G n e).length≤1:=by unfold a9G;split<;>simp
theorem b4o {s:A5}{n:r4}:(a1D s n).length≤s.Entries.length:=by
 have:=Z4 (g:=a9G n) (m:=1) s.Entries fun e _=>c0C n e
 unfold a1D;omega
theorem a8l (F:Nat)(c:u6)(s:A5)(n:r4)(hl:s.Entries.length≤10000):J3 F ⟨c,s⟩ n=some (a1D s n):=by
 have hlen:=b4o (s:=s) (n:=n)
 unfold J3
 dsimp only
 rw [a7o (a9G n) 10000 (fun i e acc hx hB=>?_) [] (by rw [List.nil_append];unfold a1D at hlen;omega),List.nil_append]
 ·rfl
 ·rw [n8,hx,a8]
  unfold a9G at hB ⊢
  revert hB
  rw [T6]
  cases e.Field==n
  ·intro _;simp
  ·intro hB
   simp only [j4] at hB ⊢
   rw [H4 (by simp at hB ⊢;omega)];rfl
theorem a8R {c:u6}{s:A5}(ho:G9 c s=true){n t:r4}(h:t∈a1D s n):D0 t=true:=by
 obtain⟨e,he,ht⟩:=List.mem_flatMap.1 h
 unfold a9G at ht
 split at ht
 ·simp only [List.mem_singleton] at ht
  rw [ht];exact a9R ho he
 ·cases ht
end Go.Fk
set_option linter.unusedVariables false
namespace Go.Fk
open Go
def a29 (ts:List D3)(q:D3×Nat):Int:=q.1.At-(ts[0]?).elim 0 (·.At)-(q.2:Int)
def a9A (sh:Int)(p:Int):List Int:=if decide (sh≤p) then [p-sh] else []
def a6J (s:A5)(f:r4)(id:Int)(ts:List D3)(q:D3×Nat):List Int:=(atS s f q.1.Text id).flatMap (a9A (a29 ts q))
def a24 (s:A5)(f:r4)(id:Int)(ts:List D3):List (List Int):=ts.zipIdx.map (a6J s f id ts)
def c2y (c:u6)(s:A5)(f:r4)(id:Int)(ts:List D3):Nat:=(ts.map fun t=>H2 c s f t.Text id).sum
def a0X (c:u6)(s:A5)(f:r4)(ws:List r4)(n:Int)(id:Int):Nat:=
 let ts:=G2 c (X0 ws)
 if ts.length=0 then 0 else (if (a5g (a24 s f id ts) n).length<3 then (a5g (a24 s f id ts) n).length else 3)*c2y c s f id ts
theorem c0v (sh p:Int):(a9A sh p).length≤1:=by unfold a9A;split<;>simp
theorem a7v (s:A5)(f:r4)(id:Int)(ts:List D3)(q:D3×Nat):(a6J s f id ts q).length≤(atS s f q.1.Text id).length:=by
 have:=Z4 (g:=a9A (a29 ts q)) (m:=1) (atS s f q.1.Text id) fun x _=>c0v _ x
 unfold a6J;omega
theorem b7X {α:Type}(w:α→Nat)(l:List α)(i:Nat)(hi:i<l.length):((l.take (i+1)).map w).sum=((l.take i).map w).sum+w l[i]:=by
 rw [List.take_succ_eq_append_getElem hi,List.map_append,List.sum_append];simp
theorem b01 {α:Type}{w:α→Nat}{B:Nat}{l:List α}(h: ∀x∈l,w x≤B)(i:Nat):((l.take i).map w).sum≤l.length*B:=by
 have h1:=b1P (w:=w) (l.take i) fun x hx=>h x (List.mem_of_mem_take hx)
 have h2:(l.take i).length*B≤l.length*B:=Nat.mul_le_mul_right _ (List.length_take_le' ..)
 omega
theorem b7D {ts:List D3}{B:Nat}(hB:B≤1000)(hl:ts.length≤B)(ht: ∀t∈ts,0≤t.At∧t.At≤B){i:Nat}(hi:i<ts.length):
  z8 (z8 (ts[i].At-(ts[0]'(by omega)).At)-(i:Int))=a29 ts (ts[i],i)∧ -(2000:Int)≤a29 ts (ts[i],i)∧a29 ts (ts[i],i)≤2000:=by
 have h1:=ht _ (List.getElem_mem hi)
 have h0:=ht _ (List.getElem_mem (show 0<ts.length by omega))
 have e:a29 ts (ts[i],i)=ts[i].At-(ts[0]'(by omega)).At-(i:Int):=by
  unfold a29
  rw [j8 (show 0<ts.length by omega)];rfl
 rw [e,C5 (n:=ts[i].At-(ts[0]'(by omega)).At) ⟨by omega,by omega⟩,C5 ⟨by omega,by omega⟩]
 exact⟨rfl,by omega,by omega⟩
theorem b9O {α:Type}(l:List α)(i:Nat)(hi:i<l.length):(l.zipIdx.take (i+1))=l.zipIdx.take i++[(l[i],i)]:=by
 rw [List.take_succ_eq_append_getElem (by simpa using hi)]
 simp
theorem b6T (F:Nat)(c:u6)(s:A5)(f:r4)(ws:List r4)(n a b:Int)(ks:List q7)(d:A1)(ho:G9 c s=true)(hw: ∀w∈ws,D0 w=true)(hl:ws.length≤4)(hF:1000000000<F):
  W4 F ⟨c,s⟩ ⟨a,f,ws,n,b,ks⟩ d=some ((a0X c s f ws n d.Id:Nat):Int):=by
 obtain⟨h1,h2,h3⟩:=a0w ho
 have hj:=a5Z ws hw
 have hst:=a7k h1
 unfold W4
 dsimp only
 rw [c0h hw hl,a8,a7q F c _ (by omega) (by omega) (by omega),a8,h1,c0o hw hl]
 simp only [Bool.and_self,if_true]
 have htl:=a4g c (X0 ws)
 have hta: ∀t∈G2 c (X0 ws),0≤t.At∧t.At≤(100:Nat):=fun t ht=>by have:=b4p ht;omega
 unfold a0X
 dsimp only
 generalize hts:G2 c (X0 ws)=ts at *
 by_cases h0:ts.length=0
 ·rw [if_pos h0,beq_iff_eq.2 (by omega)];rfl
 ·rw [if_neg h0,beq_eq_false_iff_ne.2 (by omega),i6]
  have hpt: ∀t:D3,H2 c s f t.Text d.Id≤1000000000:=fun t=>a4b c s f t.Text d.Id ho
  have key:=fun g step=>a6T (σ:=(List (List Int))×Int) (f:=g) (fun i st=>st=((ts.zipIdx.take i).map (a6J s f d.Id ts),((((ts.take i).map fun t=>H2 c s f t.Text d.Id).sum:Nat):Int))) ts.length step ts.length 0 (([]:List (List Int)),(0:Int)) (by omega) (by simp)
  generalize hg:(fun (i95:Nat) (s91:(List (List Int))×Int)=>_:Nat→(List (List Int))×Int→Option ((List (List Int))×Int))=g
  obtain⟨t,ht,hp⟩:=key g (fun i st hi hs=>by
   subst hg;subst hs
   refine⟨_,?_,rfl⟩
   have hsh:=b7D (B:=100) (by omega) (by omega) hta hi
   have har:=a9O ho f ts[i].Text d.Id
   have hpl:=a7v s f d.Id ts (ts[i],i)
   dsimp only at hpl
   dsimp only
   rw [T5 hi,a8,a8i,a8,a7o (a9A (a29 ts (ts[i],i))) 1000 (fun j x acc hx hB=>?_) [] (by rw [List.nil_append];unfold a6J at hpl;dsimp only at hpl;omega),List.nil_append,a8,a8,a8j F c s f ts[i].Text d.Id ho hF]
   ·have hsb:=b01 (w:=fun t:D3=>H2 c s f t.Text d.Id) (l:=ts) (fun t _=>hpt t) i
    have hsb2:ts.length*1000000000≤100*1000000000:=Nat.mul_le_mul_right _ (by omega)
    have hpi:=hpt ts[i]
    rw [H4 (by simp only [List.length_map,List.length_take,List.length_zipIdx,l8];omega),a8,a8,b9O ts i hi,b7X _ ts i hi,C5 ⟨by omega,by omega⟩,List.map_append]
    simp only [List.map_cons,List.map_nil,a6J]
    congr 2
   ·have hxr:=har.1 x (n5 hx)
    have g0:v8 ts (0:Int)=some (ts[0]'(by omega)):=T5 (xs:=ts) (i:=0) (by omega)
    rw [n8,hx,a8,g0,a8,hsh.1,C5 (n:=x-a29 ts (ts[i],i)) ⟨by omega,by omega⟩]
    unfold a9A at hB ⊢
    by_cases hle:a29 ts (ts[i],i)≤x
    ·rw [b8 (show (0:Int)≤x-a29 ts (ts[i],i) by omega),j4,b8 hle,if_pos rfl]
     rw [b8 hle,if_pos rfl] at hB
     simp only [o0,l8] at hB
     rw [H4 (by simp only [l8];omega)];rfl
    ·rw [c6 (show ¬(0:Int)≤x-a29 ts (ts[i],i) by omega),i6,c6 hle,if_neg (by simp),List.append_nil])
  rw [ht,hp,a8,a8]
  dsimp only
  rw [List.take_of_length_le (by simp),List.take_length]
  have hLl:(a24 s f d.Id ts).length=ts.length:=by unfold a24;simp
  have hLe: ∀l∈a24 s f d.Id ts,l.length≤1000:=fun l hl=>by
   unfold a24 at hl
   obtain⟨q,_,rfl⟩:=List.mem_map.1 hl
   have:=a7v s f d.Id ts q
   have:=(a9O ho f q.1.Text d.Id).2
   omega
  have hph:=b4C F (a24 s f d.Id ts) n hLe (by omega) (by omega)
  unfold a24 at hph
  rw [hph,a8,a8]
  have hsb:=b01 (w:=fun t:D3=>H2 c s f t.Text d.Id) (l:=ts) (fun t _=>hpt t) ts.length
  have hsb2:ts.length*1000000000≤100*1000000000:=Nat.mul_le_mul_right _ (by omega)
  rw [List.take_length] at hsb
  unfold c2y a24
  generalize (a5g (ts.zipIdx.map (a6J s f d.Id ts)) n).length=k
  generalize (ts.map fun t=>H2 c s f t.Text d.Id).sum=m at *
  by_cases hk:k<3
  ·rw [if_pos (by omega),if_pos hk]
   have:k*m≤3*m:=Nat.mul_le_mul_right _ (by omega)
   rw [show ((k:Nat):Int)*(m:Int)=((k*m:Nat):Int) by simp,C5 ⟨by omega,by omega⟩]
  ·rw [if_neg (by omega),if_neg hk]
   rw [show (3:Int)*(m:Int)=((3*m:Nat):Int) by simp,C5 ⟨by omega,by omega⟩]
theorem b7P (F:Nat)(c:u6)(s:A5)(f:r4)(ws:List r4)(n a b:Int)(ks:List q7)(id:Int)(ho:G9 c s=true)(hw: ∀w∈ws,D0 w=true)(hl:ws.length≤4)(hF:1000000000<F):
  a1q F c s ⟨a,f,ws,n,b,ks⟩ id=some ((a0X c s f ws n id:Nat):Int):=by
 obtain⟨h1,h2,h3⟩:=a0w ho
 have hj:=a5Z ws hw
 have hfew:=a2D ho
 unfold a1q a3Y
 dsimp only
 simp only [c0R F hw hl (show 10<F by omega),a8,a7x F c (X0 ws) h1 (show (X0 ws).length≤2000000 by omega) (show (X0 ws).length+30<F by omega)]
 have htl:=a4g c (X0 ws)
 have hta: ∀t∈G2 c (X0 ws),0≤t.At∧t.At≤(100:Nat):=fun t ht=>by have:=b4p ht;omega
 unfold a0X
 dsimp only
 generalize hts:G2 c (X0 ws)=ts at *
 have key:=fun g step fin=>I7 (σ:=(List (List Int))×Int) (τ:=List (List Int)) (f:=g) (Post:=fun t=>t=a24 s f id ts) (fun i st=>st=((ts.zipIdx.take i).map (a6J s f id ts),(i:Int))) ts.length step fin ts.length 0 (([]:List (List Int)),(0:Int)) F (by omega) (by omega) (by simp)
 generalize hg:(fun (s82:(List (List Int))×Int)=>_:(List (List Int))×Int→Option (((List (List Int))×Int)⊕(List (List Int))))=g
 obtain⟨t,ht,hp⟩:=key g (fun i st hi hs=>by
  subst hg;subst hs
  left
  refine⟨_,?_,rfl⟩
  have hsh:=b7D (B:=100) (by omega) (by omega) hta hi
  have har:=a9O ho f ts[i].Text id
  have hpl:=a7v s f id ts (ts[i],i)
  dsimp only at hpl
  have g0:v8 ts (0:Int)=some (ts[0]'(by omega)):=T5 (xs:=ts) (i:=0) (by omega)
  dsimp only
  rw [b8 (by omega),j4,T5 hi,a8,g0,a8,a8,b58 F s f ts[i].Text id hfew.1 (a4A ho f ts[i].Text).1 (by omega),a8,hsh.1]
  rw [a5W (xs:=atS s f ts[i].Text id) (a9A (a29 ts (ts[i],i))) 1000 F (by omega) (fun j x acc hx hB=>?_) (fun acc=>?_) [] (by rw [List.nil_append];unfold a6J at hpl;dsimp only at hpl;omega),List.nil_append,a8,a8]
  ·rw [H4 (by simp only [List.length_map,List.length_take,List.length_zipIdx,l8];omega),a8,b9O ts i hi,y5 (by omega),List.map_append]
   simp only [List.map_cons,List.map_nil,a6J]
  ·have hxr:=har.1 x (n5 hx)
   have hjl:=(i4.1 hx).1
   dsimp only
   rw [b8 (by omega),j4,n8,hx,a8,a8,C5 (n:=x-a29 ts (ts[i],i)) ⟨by omega,by omega⟩,y5 (by omega)]
   unfold a9A at hB ⊢
   by_cases hle:a29 ts (ts[i],i)≤x
   ·rw [b8 hle,j4,if_pos rfl]
    rw [b8 hle,if_pos rfl] at hB
    simp only [o0,l8] at hB
    rw [H4 (by simp only [l8];omega)];rfl
   ·rw [c6 hle,i6,if_neg (by simp),List.append_nil]
  ·dsimp only
   rw [c6 (by omega),i6]) (fun st hs=>by
  subst hg;subst hs
  refine⟨_,?_,rfl⟩
  dsimp only
  rw [c6 (by omega),i6,List.take_of_length_le (by simp)];rfl)
 rw [ht,hp,a8,a8]
 have hLl:(a24 s f id ts).length=ts.length:=by unfold a24;simp
 have hLe: ∀l∈a24 s f id ts,l.length≤1000:=fun l hl=>by
  unfold a24 at hl
  obtain⟨q,_,rfl⟩:=List.mem_map.1 hl
  have:=a7v s f id ts q
  have:=(a9O ho f q.1.Text id).2
  omega
 rw [a8,hLl]
 by_cases h0:ts.length=0
 ·rw [if_pos h0,beq_iff_eq.2 (by omega)];rfl
 ·rw [if_neg h0,beq_eq_false_iff_ne.2 (by omega),i6,b4N F (a24 s f id ts) n hLe (by omega) (by omega),a8]
  have hpt: ∀t:D3,H2 c s f t.Text id≤1000000000:=fun t=>a4b c s f t.Text id ho
  have hsb2:ts.length*1000000000≤100*1000000000:=Nat.mul_le_mul_right _ (by omega)
  have key2:=fun g step fin=>I7 (σ:=Int×Int) (τ:=Int) (f:=g) (Post:=fun t=>t=((c2y c s f id ts:Nat):Int)) (fun i st=>st=(((((ts.take i).map fun t=>H2 c s f t.Text id).sum:Nat):Int),(i:Int))) ts.length step fin ts.length 0 ((0:Int),(0:Int)) F (by omega) (by omega) (by simp)
  generalize hg2:(fun (s118:Int×Int)=>_:Int×Int→Option ((Int×Int)⊕Int))=g2
  obtain⟨t2,ht2,hp2⟩:=key2 g2 (fun i st hi hs=>by
   subst hg2;subst hs
   left
   refine⟨_,?_,rfl⟩
   have hsb:=b01 (w:=fun t:D3=>H2 c s f t.Text id) (l:=ts) (fun t _=>hpt t) i
   have hpi:=hpt ts[i]
   dsimp only
   rw [b8 (by omega),j4,T5 hi,a8,a8N F c s f ts[i].Text id ho hF,a8,b7X _ ts i hi,C5 ⟨by omega,by omega⟩,y5 (by omega)]
   rfl) (fun st hs=>by
   subst hg2;subst hs
   refine⟨_,?_,rfl⟩
   dsimp only
   rw [c6 (by omega),i6,List.take_length];rfl)
  rw [ht2,hp2]
  have hsb:=b01 (w:=fun t:D3=>H2 c s f t.Text id) (l:=ts) (fun t _=>hpt t) ts.length
  rw [List.take_length] at hsb
  unfold c2y
  generalize (a5g (a24 s f id ts) n).length=k
  generalize (ts.map fun t=>H2 c s f t.Text id).sum=m at *
  by_cases hk:k<3
  ·rw [c6 (by omega),i6,if_pos hk]
   simp only [a8]
   have:k*m≤3*m:=Nat.mul_le_mul_right _ (by omega)
   rw [show (m:Int)*((k:Nat):Int)=((k*m:Nat):Int) by rw [Nat.mul_comm];simp,C5 ⟨by omega,by omega⟩]
  ·rw [if_neg hk]
   by_cases hk3:k=3
   ·subst hk3
    rw [c6 (by omega),i6]
    simp only [a8]
    rw [show (m:Int)*((3:Nat):Int)=((3*m:Nat):Int) by rw [Nat.mul_comm];simp,C5 ⟨by omega,by omega⟩]
   ·rw [b8 (by omega),j4]
    simp only [a8]
    rw [show (m:Int)*(3:Int)=((3*m:Nat):Int) by rw [Nat.mul_comm];simp,C5 ⟨by omega,by omega⟩]
theorem b8u (c:u6)(s:A5)(f:r4)(ws:List r4)(n id:Int)(ho:G9 c s=true)(hw: ∀w∈ws,D0 w=true)(hl:ws.length≤4):a0X c s f ws n id≤300000000000:=by
 have hj:=a5Z ws hw
 have htl:=a4g c (X0 ws)
 unfold a0X
 dsimp only
 generalize G2 c (X0 ws)=ts at *
 split
 ·omega
 ·have hsb:=b01 (w:=fun t:D3=>H2 c s f t.Text id) (l:=ts) (fun t _=>a4b c s f t.Text id ho) ts.length
  have hsb2:ts.length*1000000000≤100*1000000000:=Nat.mul_le_mul_right _ (by omega)
  rw [List.take_length] at hsb
  unfold c2y
  generalize (ts.map fun t=>H2 c s f t.Text id).sum=m at *
  split
  ·rename_i hk
   have:=Nat.mul_le_mul_right m (Nat.le_of_lt hk)
   omega
  ·omega
end Go.Fk
set_option linter.unusedVariables false
namespace Go.Fk
open Go
theorem b1Y {α σ:Type}{xs:List α}(g:σ→α→σ){f:σ×Int→Option ((σ×Int)⊕σ)}(F:Nat)(hF:xs.length<F)(hl:xs.length<9000000000000000000)
  (h: ∀(i:Nat) x s,xs[i]? =some x→f (s,(i:Int))=some (.inl (g s x,((i+1:Nat):Int))))(h0: ∀s,f (s,(xs.length:Int))=some (.inr s))(s0:σ):y2 f F (s0,(0:Int))=some (xs.foldl g s0):=by
 obtain⟨t,ht,hp⟩:=I7 (σ:=σ×Int) (τ:=σ) (f:=f) (Post:=fun t=>t=xs.foldl g s0) (fun i st=>st=((xs.take i).foldl g s0,(i:Int))) xs.length (fun i st hi hs=>by
  subst hs
  refine .inl ⟨_,h i xs[i] _ (j8 hi),?_⟩
  rw [List.take_succ_eq_append_getElem hi,List.foldl_append];rfl) (fun st hs=>by
  subst hs
  exact⟨_,h0 _,by rw [List.take_length]⟩) xs.length 0 (s0,(0:Int)) F (by omega) hF (by simp)
 rw [ht,hp]
theorem b4U {σ:Type}(n:r4)(g:σ→r4→σ): ∀(es:List C0) (s:σ),es.foldl (fun s e=>if e.Field==n then g s e.Term else s) s=(es.flatMap (a9G n)).foldl g s
 | [],s=>rfl
 | e::es,s=>by
  rw [List.foldl_cons,List.flatMap_cons,List.foldl_append,b4U n g es]
  unfold a9G
  split<;>rfl
def b48 (c:u6)(s:A5)(f w:r4)(id:Int)(t:r4):Int:=(((H2 c s f t id:Nat):Int)*(3-b2p t w)).tdiv 3
def a3U (c:u6)(s:A5)(f w:r4)(n id:Int)(best:Int)(t:r4):Int:=if decide (b2p t w≤n) then (if best<b48 c s f w id t then b48 c s f w id t else best) else best
def a8p (c:u6)(s:A5)(f w:r4)(n id:Int):Int:=(a1D s f).foldl (a3U c s f w n id) 0
theorem b2W (t w:r4):0≤b2p t w∧b2p t w≤(t.length:Int)+w.length:=b2X t w t.length w.length
theorem b67 {p:Nat}{d:Int}(hp:p≤1000000000)(h0:0≤d)(h2:d≤2):a3s (z8 ((p:Int)*z8 (3-d))) 3=some (((p:Int)*(3-d)).tdiv 3):=by
 have e1:z8 (3-d)=3-d:=C5 ⟨by omega,by omega⟩
 have e2:z8 ((p:Int)*(3-d))=(p:Int)*(3-d):=by
  have:d=0∨d=1∨d=2:=by omega
  rcases this with rfl | rfl | rfl<;>exact C5 ⟨by omega,by omega⟩
 have e3:z8 (((p:Int)*(3-d)).tdiv 3)=((p:Int)*(3-d)).tdiv 3:=by
  have:d=0∨d=1∨d=2:=by omega
  rcases this with rfl | rfl | rfl<;>(rw [Int.tdiv_eq_ediv_of_nonneg (by omega)];exact C5 ⟨by omega,by omega⟩)
 rw [e1,e2,a3s,if_neg (by omega),e3]
theorem b8h (F:Nat)(c:u6)(s:A5)(f w:r4)(n id:Int)(ho:G9 c s=true)(hw:D0 w=true)(hn:1≤n∧n≤2)(hF:1000000000<F){g:Nat→Int→Option Int}
  (hg: ∀(i:Nat) (b:Int),g i b=(Option.bind (v8 (a1D s f) ((i:Nat):Int)) fun x140=>(Option.bind (v8 ([w]:List r4) (0:Int)) fun x150=>(Option.bind (a0h F x140 x150) fun r160=>(Option.bind (B3 F r160 (0:Int) n) fun r169=>(cond r169 (Option.bind (M7 F ⟨c,s⟩ f x140 id) fun r179=>(Option.bind (a3s (z8 (r179*(z8 ((3:Int)-r160)))) (3:Int)) fun x188=>(some (if x188>b then x188 else b)))) (some b))))))):
  a0C g (a1D s f).length 0 (0:Int)=some (a8p c s f w n id):=by
 unfold a8p
 rw [a81 (xs:=a1D s f) (a3U c s f w n id) (fun i x b hx=>?_)]
 have hxw:=a8R ho (n5 hx)
 have hfp:=b2W x w
 rw [hg,n8,hx,a8,show v8 [w] (0:Int)=some w from rfl,a8,b66 F x w hxw hw (by omega),a8,O8,a8,Q1 hfp.1,u5]
 unfold a3U
 by_cases hd:b2p x w≤n
 ·rw [b8 hd,j4,a8j F c s f x id ho hF,a8,b67 (a4b c s f x id ho) hfp.1 (by omega),a8,if_pos rfl]
  rfl
 ·rw [c6 hd,i6,if_neg (by simp)]
theorem b8I (F:Nat)(c:u6)(s:A5)(f w:r4)(n a b id:Int)(ks:List q7)(ho:G9 c s=true)(hw:D0 w=true)(hn:1≤n∧n≤2)(hF:1000000000<F):a2L F s ⟨a,f,[w],n,b,ks⟩ id=some (a8p c s f w n id):=by
 have hfew:=a2D ho
 have hwl:=O4 hw
 unfold a2L a8p a1D
 rw [←b4U]
 dsimp only
 rw [b1Y (xs:=s.Entries) (fun (b:Int) e=>if e.Field==f then a3U c s f w n id b e.Term else b) F (by omega) (by omega) (fun i e b hx=>?_) (fun b=>?_) (0:Int)]
 ·rfl
 ·have hi:=(i4.1 hx).1
  have hew:=O4 (a9R ho (n5 hx))
  have hfp:=b2W e.Term w
  dsimp only
  rw [b8 (by omega),j4,n8,hx,a8,show v8 [w] (0:Int)=some w from rfl,a8,c2q F e.Term w (by omega) (by omega) (by omega),a8,y5 (by omega)]
  cases e.Field==f
  ·rfl
  ·rw [l7,i6,a8,if_pos rfl]
   unfold a3U
   by_cases hd:b2p e.Term w≤n
   ·rw [c6 (by omega),i6,a8N F c s f e.Term id ho hF,a8,b67 (a4b c s f e.Term id ho) hfp.1 (by omega),a8,b8 hd,if_pos rfl]
    unfold b48
    by_cases hb:b<(((H2 c s f e.Term id:Nat):Int)*(3-b2p e.Term w)).tdiv 3
    ·rw [b8 hb,if_pos hb];rfl
    ·rw [c6 hb,if_neg hb];rfl
   ·rw [b8 (by omega),j4,c6 hd,if_neg (by simp)]
 ·dsimp only
  rw [c6 (by omega)];rfl
theorem b23 (c:u6)(s:A5)(f w:r4)(n id:Int)(ho:G9 c s=true): ∀(l:List r4) (b:Int),0≤b→b≤1000000000→0≤l.foldl (a3U c s f w n id) b∧l.foldl (a3U c s f w n id) b≤1000000000
 | [],b,h0,h1=>⟨h0,h1⟩
 | t::l,b,h0,h1=>by
  rw [List.foldl_cons]
  have hp:=a4b c s f t id ho
  have hf:=b2W t w
  have hv:b48 c s f w id t≤1000000000:=by
   unfold b48
   generalize H2 c s f t id=p at *
   generalize b2p t w=d at *
   have h3:(p:Int)*(3-d)≤(p:Int)*3:=Int.mul_le_mul_of_nonneg_left (by omega) (by omega)
   by_cases h:(p:Int)*(3-d)<0
   ·have:((p:Int)*(3-d)).tdiv 3≤0:=by
     have h4:=Int.neg_tdiv (-((p:Int)*(3-d))) 3
     rw [Int.neg_neg] at h4
     rw [h4,Int.tdiv_eq_ediv_of_nonneg (by omega)]
     omega
    omega
   ·rw [Int.tdiv_eq_ediv_of_nonneg (by omega)];omega
  unfold a3U
  split
  ·split
   ·exact b23 c s f w n id ho l _ (by omega) hv
   ·exact b23 c s f w n id ho l b h0 h1
  ·exact b23 c s f w n id ho l b h0 h1
def a6U (s:A5)(f p:r4)(id:Int)(t:r4):Bool:=a3S p t&&decide (0<(atS s f t id).length)
def b1Z (s:A5)(f p:r4)(id:Int):Bool:=(a1D s f).any (a6U s f p id)
theorem c0e (F:Nat)(p t:r4)(hp:a8c p=true)(ht:D0 t=true)(hF:100<F):a2G F p t=some (a3S p t):=by
 have h1:=O4 ht
 have h2:p.length≤12:=by
  simp only [a8c,q8,decide_eq_true_eq] at hp
  omega
 unfold a2G
 rw [a8g,a8,hp,j4,O0,a8,ht,j4,b4Y 50 p t F (by omega) (by omega)];rfl
theorem b8G (F:Nat)(c:u6)(s:A5)(f p:r4)(n a b id:Int)(ks:List q7)(ho:G9 c s=true)(hp:a8c p=true)(hF:1000000000<F):a2K F s ⟨a,f,[p],n,b,ks⟩ id=some (b1Z s f p id):=by
 have hfew:=a2D ho
 have h2:p.length≤12:=by
  simp only [a8c,q8,decide_eq_true_eq] at hp
  omega
 have hq:b1Z s f p id=s.Entries.any fun e=>e.Field==f&&a6U s f p id e.Term:=by
  unfold b1Z a1D
  rw [List.any_flatMap]
  congr 1
  funext e
  unfold a9G
  cases e.Field==f<;>simp
 rw [hq]
 unfold a2K
 dsimp only
 rw [a0u (xs:=s.Entries) (fun e=>e.Field==f&&a6U s f p id e.Term) (fun _=>(Sum.inr true:Unit⊕Bool)) (e:=Sum.inl ()) F (by omega) (fun i e hx=>?_) ?_]
 ·cases hf:s.Entries.find? fun e=>e.Field==f&&a6U s f p id e.Term with
  | none=>
   have:(s.Entries.any fun e=>e.Field==f&&a6U s f p id e.Term)=false:=by
    rw [List.any_eq_false]
    exact List.find?_eq_none.1 hf
   rw [this];rfl
  | some m=>
   have:(s.Entries.any fun e=>e.Field==f&&a6U s f p id e.Term)=true:=by
    rw [List.any_eq_true]
    exact⟨m,List.mem_of_find?_eq_some hf,List.find?_some (p:=fun e:C0=>e.Field==f&&a6U s f p id e.Term) hf⟩
   rw [this];rfl
 ·rw [c6 (by omega)];rfl
 ·have hi:=(i4.1 hx).1
  have hew:=O4 (a9R ho (n5 hx))
  rw [b8 (by omega),j4,n8,hx,a8,y5 (by omega)]
  cases e.Field==f
  ·rfl
  ·rw [j4,show v8 [p] (0:Int)=some p from rfl,a8,b5k 50 p e.Term F (by omega) (by omega),a8,u5]
   unfold a6U
   cases a3S p e.Term
   ·rfl
   ·rw [j4,b58 F s f e.Term id hfew.1 (a4A ho f e.Term).1 (by omega),a8,a8,u5]
    by_cases h0:0<(atS s f e.Term id).length
    ·rw [b8 (show (0:Int)<((atS s f e.Term id).length:Int) by omega),b8 h0];rfl
    ·rw [c6 (show ¬(0:Int)<((atS s f e.Term id).length:Int) by omega),c6 h0];rfl
def b0y (c:u6)(s:A5)(q:q7)(x:A1):Int:=
 if q.Kind=1 then 100
 else if q.Kind=2 then ((H2 c s q.Field (Y8 c (q.Words.headD [])) x.Id:Nat):Int)
 else if q.Kind=3 then ((a0X c s q.Field q.Words q.From x.Id:Nat):Int)
 else if q.Kind=4 then a8p c s q.Field (q.Words.headD []) q.From x.Id
 else if q.Kind=5 then (if b1Z s q.Field (q.Words.headD []) x.Id then 100 else 0)
 else (if decide (q.From≤b0C x q.Field)&&decide (b0C x q.Field≤q.To) then 100 else 0)
def a6O (and:Bool)(l:List Int):Int:=if and&&l.any (· ==0) then 0 else l.sum
def C2 (c:u6)(s:A5):Nat→q7→A1→Int
 | 0,_,_=>0
 | d+1,q,x=>
  if q.Kind≤6 then b0y c s q x
  else if q.Kind=10 then q.From*C2 c s d (q.Kids.headD q) x
  else if q.Kind=9 then (if 0<C2 c s d ((q.Kids[1]?).getD q) x then 0 else C2 c s d (q.Kids.headD q) x)
  else a6O (q.Kind==7) (q.Kids.map fun k=>C2 c s d k x)
def b4x:Nat→Int
 | 0=>1000000000000
 | d+1=>36*b4x d
theorem b8Z: ∀d,1000000000000≤b4x d
 | 0=>by unfold b4x;omega
 | d+1=>by have:=b8Z d;unfold b4x;omega
theorem c1Y (c:u6)(s:A5){q:q7}(h:a3D q)(x:A1)(ho:G9 c s=true):0≤b0y c s q x∧b0y c s q x≤1000000000000:=by
 cases h with
 | all=>
  show (0:Int)≤100∧(100:Int)≤_
  omega
 | @term f w hf hw=>
  have:=a4b c s f (Y8 c w) x.Id ho
  show 0≤((H2 c s f (Y8 c w) x.Id:Nat):Int)∧((H2 c s f (Y8 c w) x.Id:Nat):Int)≤_
  omega
 | @phrase f ws n hf h1 h2 hw h3 h4=>
  have:=b8u c s f ws n x.Id ho hw h2
  show 0≤((a0X c s f ws n x.Id:Nat):Int)∧((a0X c s f ws n x.Id:Nat):Int)≤_
  omega
 | @near f w n hf hw h1 h2=>
  have:=b23 c s f w n x.Id ho (a1D s f) 0 (by omega) (by omega)
  show 0≤a8p c s f w n x.Id∧a8p c s f w n x.Id≤_
  unfold a8p;omega
 | @glob f p hf hp hn=>
  show 0≤(if b1Z s f p x.Id then (100:Int) else 0)∧(if b1Z s f p x.Id then (100:Int) else 0)≤_
  split<;>omega
 | @range f a b hf h1 h2 h3 h4=>
  show 0≤(if decide (a≤b0C x f)&&decide (b0C x f≤b) then (100:Int) else 0)∧(if decide (a≤b0C x f)&&decide (b0C x f≤b) then (100:Int) else 0)≤_
  split<;>omega
theorem a7e {B:Int}: ∀{l:List Int},(∀x∈l,0≤x∧x≤B)→0≤l.sum∧l.sum≤(l.length:Int)*B
 | [],_=>by simp
 | x::l,h=>by
  have h1:=h x (.head _)
  have h2:=a7e (l:=l) fun y hy=>h y (.tail _ hy)
  rw [List.sum_cons,s6,show (((l.length+1:Nat):Int))*B=(l.length:Int)*B+B by rw [Int.natCast_add,Int.add_mul];simp]
  omega
theorem b8X {B:Int}{and:Bool}{l:List Int}(hB:0≤B)(hl:l.length≤4)(h: ∀x∈l,0≤x∧x≤B):0≤a6O and l∧a6O and l≤4*B:=by
 have h1:=a7e h
 have h2:(l.length:Int)*B≤4*B:=Int.mul_le_mul_of_nonneg_right (by omega) hB
 unfold a6O
 split<;>omega
theorem a85 {q:q7}(h:a3D q):q.Kind≤6:=by
 cases h with
 | all=>exact(by decide :(1:Int)≤6)
 | term=>exact(by decide :(2:Int)≤6)
 | phrase=>exact(by decide :(3:Int)≤6)
 | near=>exact(by decide :(4:Int)≤6)
 | glob=>exact(by decide :(5:Int)≤6)
 | range=>exact(by decide :(6:Int)≤6)
theorem a3u (c:u6)(s:A5)(x:A1)(ho:G9 c s=true): ∀{d:Nat} {q:q7},I3 d q→0≤C2 c s d q x∧C2 c s d q x≤b4x d
 | 0,q,h=>by cases h
 | d+1,q,h=>by
  have hb:=b8Z d
  have hbd:b4x (d+1)=36*b4x d:=rfl
  cases h with
  | leaf h=>
   have:=c1Y c s h x ho
   rw [C2,if_pos (a85 h)];omega
  | @and _ ks h1 h2 h3=>
   have:=b8X (and:=true) (l:=ks.map fun k=>C2 c s d k x) (B:=b4x d) (by omega) (by simpa using h2) fun y hy=>by
    obtain⟨k,hk,rfl⟩:=List.mem_map.1 hy
    exact a3u c s x ho (h3 k hk)
   show 0≤a6O true (ks.map fun k=>C2 c s d k x)∧a6O true (ks.map fun k=>C2 c s d k x)≤_
   omega
  | @or _ ks h1 h2 h3=>
   have:=b8X (and:=false) (l:=ks.map fun k=>C2 c s d k x) (B:=b4x d) (by omega) (by simpa using h2) fun y hy=>by
    obtain⟨k,hk,rfl⟩:=List.mem_map.1 hy
    exact a3u c s x ho (h3 k hk)
   show 0≤a6O false (ks.map fun k=>C2 c s d k x)∧a6O false (ks.map fun k=>C2 c s d k x)≤_
   omega
  | @less _ a b h1 h2=>
   have r1:=a3u c s x ho h1
   show 0≤(if 0<C2 c s d b x then 0 else C2 c s d a x)∧(if 0<C2 c s d b x then 0 else C2 c s d a x)≤_
   split<;>omega
  | @times _ n k h1 h2 h3=>
   have r1:=a3u c s x ho h3
   show 0≤n*C2 c s d k x∧n*C2 c s d k x≤_
   have h4:n*C2 c s d k x≤9*C2 c s d k x:=Int.mul_le_mul_of_nonneg_right h2 r1.1
   have h5:0≤n*C2 c s d k x:=Int.mul_nonneg (by omega) r1.1
   omega
end Go.Fk
set_option linter.unusedVariables false
namespace Go.Fk
open Go
theorem b8Y {d:Nat}(h:d≤3):b4x d≤1000000000000*46656:=by
 have:d=0∨d=1∨d=2∨d=3:=by omega
 rcases this with rfl | rfl | rfl | rfl<;>decide
theorem b75 {α:Type}{ks:List α}{v:α→Int}{g:Nat→Int→Option (Int⊕Int)}{and:Bool}{m:Int}(hv: ∀k∈ks,0≤v k)
  (h: ∀i x a,ks[i]? =some x→0≤a→a+v x≤m→g i a=some (if and&&v x==0 then .inr 0 else .inl (a+v x))):
  ∀k i a,i+k=ks.length→0≤a→a+((ks.drop i).map v).sum≤m→D1 g k i a=some (if and&&((ks.drop i).map v).any (· ==0) then .inr 0 else .inl (a+((ks.drop i).map v).sum))
 | 0,i,a,e,h0,hm=>by
  rw [List.drop_of_length_le (by omega)]
  cases and<;>simp [D1]
 | k+1,i,a,e,h0,hm=>by
  have hi:i<ks.length:=by omega
  have hx:=hv _ (List.getElem_mem hi)
  rw [List.drop_eq_getElem_cons hi,List.map_cons,List.sum_cons] at hm
  have hrest:0≤((ks.drop (i+1)).map v).sum:=by
   have: ∀l:List α,(∀x∈l,0≤v x)→0≤(l.map v).sum:=fun l hl=>by
    induction l with
    | nil=>simp
    | cons y l ih=>
     rw [List.map_cons,List.sum_cons]
     have:=hl y (.head _)
     have:=ih fun z hz=>hl z (.tail _ hz)
     omega
   exact this _ fun x hx=>hv x (List.mem_of_mem_drop hx)
  rw [D1,h i ks[i] a (j8 hi) h0 (by omega),List.drop_eq_getElem_cons hi,List.map_cons,List.sum_cons,List.any_cons]
  cases hz:and&&v ks[i]==0
  ·simp only [Bool.false_eq_true,if_false,a8,Sum.elim_inl]
   show D1 g k (i+1) (a+v ks[i])=_
   rw [b75 hv h k (i+1) (a+v ks[i]) (by omega) (by omega) (by omega)]
   cases and
   ·simp;omega
   ·simp only [u5] at hz ⊢
    rw [hz,Bool.false_or,Int.add_assoc]
  ·simp only [q8] at hz
   rw [hz.1,hz.2];rfl
theorem b76 {α:Type}{ks:List α}{v:α→Int}{g:Int×Int→Option ((Int×Int)⊕(Int⊕Int))}{and:Bool}{m:Int}(hl:ks.length≤1000000)(hv: ∀k∈ks,0≤v k)
  (h: ∀(i:Nat) x a,ks[i]? =some x→0≤a→a+v x≤m→g (a,(i:Int))=some (if and&&v x==0 then .inr (.inr 0) else .inl (a+v x,((i+1:Nat):Int))))(h1: ∀a,g (a,(ks.length:Int))=some (.inr (.inl a))):
  ∀k i a F,i+k=ks.length→k<F→0≤a→a+((ks.drop i).map v).sum≤m→y2 g F (a,(i:Int))=some (if and&&((ks.drop i).map v).any (· ==0) then .inr 0 else .inl (a+((ks.drop i).map v).sum))
 | 0,i,a,F,e,hF,h0,hm=>by
  obtain⟨F,rfl⟩: ∃G,F=G+1:=⟨F-1,by omega⟩
  rw [y2,show i=ks.length by omega,h1,List.drop_of_length_le (Nat.le_refl _)]
  cases and<;>simp
 | k+1,i,a,F,e,hF,h0,hm=>by
  obtain⟨F,rfl⟩: ∃G,F=G+1:=⟨F-1,by omega⟩
  have hi:i<ks.length:=by omega
  have hx:=hv _ (List.getElem_mem hi)
  rw [List.drop_eq_getElem_cons hi,List.map_cons,List.sum_cons] at hm
  have hrest:0≤((ks.drop (i+1)).map v).sum:=by
   have: ∀l:List α,(∀x∈l,0≤v x)→0≤(l.map v).sum:=fun l hl=>by
    induction l with
    | nil=>simp
    | cons y l ih=>
     rw [List.map_cons,List.sum_cons]
     have:=hl y (.head _)
     have:=ih fun z hz=>hl z (.tail _ hz)
     omega
   exact this _ fun x hx=>hv x (List.mem_of_mem_drop hx)
  rw [y2,h i ks[i] a (j8 hi) h0 (by omega),List.drop_eq_getElem_cons hi,List.map_cons,List.sum_cons,List.any_cons]
  cases hz:and&&v ks[i]==0
  ·simp only [Bool.false_eq_true,if_false,a8,Sum.elim_inl]
   show y2 g F (a+v ks[i],((i+1:Nat):Int))=_
   rw [b76 hl hv h h1 k (i+1) (a+v ks[i]) F (by omega) (by omega) (by omega) (by omega)]
   cases and
   ·simp;omega
   ·simp only [u5] at hz ⊢
    rw [hz,Bool.false_or,Int.add_assoc]
  ·simp only [q8] at hz
   rw [hz.1,hz.2];rfl
theorem c0i (F:Nat)(c:u6)(s:A5){q:q7}(h:a3D q)(x:A1)(ho:G9 c s=true)(hx:x∈s.Docs)(hF:1000000000<F):E4 (F+1) ⟨c,s⟩ q x=some (b0y c s q x):=by
 obtain⟨h1,h2,h3⟩:=a0w ho
 have hst:=(a7k h1).1
 have hfew:=a2D ho
 rw [E4]
 dsimp only
 cases h with
 | all=>rfl
 | @term f w hf hw=>
  simp only [Int.reduceBEq,i6,j4]
  rw [show v8 ([w]:List r4) (0:Int)=some w from rfl,a8,a7p F c w (by omega) (by omega),a8,a8j F c s f _ x.Id ho hF]
  rfl
 | @phrase f ws n hf g1 g2 hw g3 g4=>
  simp only [Int.reduceBEq,i6,j4]
  rw [b6T F c s f ws n 3 0 [] x ho hw g2 hF]
  rfl
 | @near f w n hf hw g1 g2=>
  simp only [Int.reduceBEq,i6,j4]
  rw [a8l F c s f hfew.1,a8,b8h F c s f w n x.Id ho hw ⟨g1,g2⟩ hF (fun i b=>rfl)]
  rfl
 | @glob f p hf hp hn=>
  simp only [Int.reduceBEq,i6,j4]
  rw [a8l F c s f hfew.1,a8,
   a4P (xs:=a1D s f) (a6U s f p x.Id) (fun _=>(100:Int)) (fun i t ht=>?_)]
  ·show _=some (if b1Z s f p x.Id then 100 else 0)
   unfold b1Z
   cases hf:(a1D s f).find? (a6U s f p x.Id) with
   | none=>
    have:(a1D s f).any (a6U s f p x.Id)=false:=by
     rw [List.any_eq_false]
     exact List.find?_eq_none.1 hf
    rw [this];rfl
   | some m=>
    have:(a1D s f).any (a6U s f p x.Id)=true:=by
     rw [List.any_eq_true]
     exact⟨m,List.mem_of_find?_eq_some hf,List.find?_some hf⟩
    rw [this];rfl
  ·have htw:=a8R ho (n5 ht)
   rw [n8,ht,a8,show v8 ([p]:List r4) (0:Int)=some p from rfl,a8,c0e F p t hp htw (by omega),a8]
   unfold a6U
   cases a3S p t
   ·rfl
   ·rw [j4,a8i,a8,a8,u5]
    by_cases h0:0<(atS s f t x.Id).length
    ·rw [b8 (show (0:Int)<((atS s f t x.Id).length:Int) by omega),b8 h0];rfl
    ·rw [c6 (show ¬(0:Int)<((atS s f t x.Id).length:Int) by omega),c6 h0];rfl
 | @range f a b hf g1 g2 g3 g4=>
  simp only [Int.reduceBEq,i6,j4]
  rw [c0j F x f (b1h h2 x hx),a8,O8,a8]
  show _=some (if decide (a≤b0C x f)&&decide (b0C x f≤b) then 100 else 0)
  cases decide (a≤b0C x f)&&decide (b0C x f≤b)<;>rfl
theorem a9W (c:u6)(s:A5)(x:A1)(ho:G9 c s=true)(hx:x∈s.Docs): ∀{d:Nat} {q:q7},I3 d q→d≤4→∀F,1000000000+d<F→E4 F ⟨c,s⟩ q x=some (C2 c s d q x)
 | 0,q,h,_,_,_=>by cases h
 | d+1,q,h,hd,F,hF=>by
  obtain⟨F,rfl⟩: ∃G,F=G+1:=⟨F-1,by omega⟩
  have ih: ∀k,I3 d k→E4 F ⟨c,s⟩ k x=some (C2 c s d k x):=fun k hk=>a9W c s x ho hx hk (by omega) F (by omega)
  have rng: ∀k,I3 d k→0≤C2 c s d k x∧C2 c s d k x≤1000000000000*46656:=fun k hk=>by
   have:=a3u c s x ho hk
   have:=b8Y (show d≤3 by omega)
   omega
  cases h with
  | leaf h=>rw [c0i F c s h x ho hx (by omega),C2,if_pos (a85 h)]
  | @and _ ks h1 h2 h3=>
   have hsum:=a7e (B:=1000000000000*46656) (l:=ks.map fun k=>C2 c s d k x) fun y hy=>by
    obtain⟨k,hk,rfl⟩:=List.mem_map.1 hy
    exact rng k (h3 k hk)
   rw [List.length_map] at hsum
   rw [E4]
   dsimp only
   simp only [Int.reduceBEq,i6]
   have hv: ∀k∈ks,0≤C2 c s d k x:=fun k hk=>(rng k (h3 k hk)).1
   have key:=fun g h=>b75 (g:=g) (and:=true) (m:=9000000000000000000) hv h ks.length 0 0 (by omega) (by omega) (by rw [List.drop_zero];omega)
   rw [key _ (fun i k a hk h0 hm=>?_),List.drop_zero]
   ·show _=some (a6O true (ks.map fun k=>C2 c s d k x))
    unfold a6O
    cases (true&&(ks.map fun k=>C2 c s d k x).any (· ==0))
    ·simp
    ·simp
   ·have hr:=rng k (h3 k (n5 hk))
    rw [n8,hk,a8,ih k (h3 k (n5 hk)),a8,u5,C5 ⟨by omega,by omega⟩]
    cases C2 c s d k x==0<;>rfl
  | @or _ ks h1 h2 h3=>
   have hsum:=a7e (B:=1000000000000*46656) (l:=ks.map fun k=>C2 c s d k x) fun y hy=>by
    obtain⟨k,hk,rfl⟩:=List.mem_map.1 hy
    exact rng k (h3 k hk)
   rw [List.length_map] at hsum
   rw [E4]
   dsimp only
   simp only [Int.reduceBEq,i6]
   have hv: ∀k∈ks,0≤C2 c s d k x:=fun k hk=>(rng k (h3 k hk)).1
   have key:=fun g h=>b75 (g:=g) (and:=false) (m:=9000000000000000000) hv h ks.length 0 0 (by omega) (by omega) (by rw [List.drop_zero];omega)
   rw [key _ (fun i k a hk h0 hm=>?_),List.drop_zero]
   ·show _=some (a6O false (ks.map fun k=>C2 c s d k x))
    unfold a6O
    simp
   ·have hr:=rng k (h3 k (n5 hk))
    rw [n8,hk,a8,ih k (h3 k (n5 hk)),a8,Bool.false_and,C5 ⟨by omega,by omega⟩]
    cases C2 c s d k x==0<;>rfl
  | @less _ a b h1 h2=>
   rw [E4]
   dsimp only
   simp only [Int.reduceBEq,i6,j4]
   rw [show v8 ([a,b]:List q7) (1:Int)=some b from rfl,a8,ih b h2,a8]
   show _=some (if 0<C2 c s d b x then 0 else C2 c s d a x)
   by_cases hb:0<C2 c s d b x
   ·rw [b8 hb,j4,if_pos hb]
   ·rw [c6 hb,i6,if_neg hb,show v8 ([a,b]:List q7) (0:Int)=some a from rfl,a8,ih a h1];rfl
  | @times _ n k h1 h2 h3=>
   have hr:=rng k h3
   rw [E4]
   dsimp only
   simp only [Int.reduceBEq,i6,j4]
   have h4:n*C2 c s d k x≤9*C2 c s d k x:=Int.mul_le_mul_of_nonneg_right h2 hr.1
   have h5:0≤n*C2 c s d k x:=Int.mul_nonneg (by omega) hr.1
   rw [show v8 ([k]:List q7) (0:Int)=some k from rfl,a8,ih k h3,a8,C5 ⟨by omega,by omega⟩]
   rfl
theorem b4g (F:Nat)(s:A5)(id:Int)(hl:s.Docs.length≤1000000)(hF:s.Docs.length<F):a2q F s id=some ((s.Docs.find? fun d=>d.Id==id).getD ⟨0,[],[]⟩):=by
 unfold a2q
 have key:=fun f step fin=>I7 (σ:=Int×A1) (τ:=A1⊕A1) (f:=f) (Post:=fun t=>t=(s.Docs.find? fun d=>d.Id==id).elim (.inl ⟨0,[],[]⟩) .inr) (fun i st=>st=((i:Int),⟨0,[],[]⟩)∧∀j,(h:j<s.Docs.length)→j<i→(s.Docs[j].Id==id)=false) s.Docs.length step fin s.Docs.length 0 ((0:Int),⟨0,[],[]⟩) F (by omega) hF ⟨rfl,fun j _ h=>by omega⟩
 generalize hf:(fun (s35:Int×A1)=>_:Int×A1→Option ((Int×A1)⊕(A1⊕A1)))=f
 obtain⟨t,ht,hp⟩:=key f (fun i st hi hI=>by
  obtain⟨rfl,hI⟩:=hI
  subst hf
  dsimp only
  rw [b8 (by omega),j4,T5 hi,a8]
  cases he:s.Docs[i].Id==id
  ·left
   refine⟨_,rfl,by rw [y5 (by omega)],fun j hj hji=>?_⟩
   rcases Nat.lt_or_ge j i with h | h
   ·exact hI j hj h
   ·obtain rfl:j=i:=by omega
    exact he
  ·right
   refine⟨_,rfl,?_⟩
   have:s.Docs.find? (fun d=>d.Id==id)=some s.Docs[i]:=List.find?_eq_some_iff_getElem.2 ⟨he,i,hi,rfl,fun j hj=>by rw [hI j (by omega) hj];rfl⟩
   rw [this];rfl) (fun st hI=>by
  obtain⟨rfl,hI⟩:=hI
  subst hf
  dsimp only
  rw [c6 (by omega),i6]
  refine⟨_,rfl,?_⟩
  have:s.Docs.find? (fun d=>d.Id==id)=none:=List.find?_eq_none.2 fun d hd=>by
   obtain⟨j,hj,rfl⟩:=List.mem_iff_getElem.1 hd
   rw [hI j hj hj];simp
  rw [this];rfl)
 rw [ht,hp]
 cases s.Docs.find? fun d=>d.Id==id<;>rfl
theorem b5n (F:Nat)(b:Bool):a1p F b=some (if b then 100 else 0):=by
 unfold a1p
 cases b<;>rfl
theorem a5V {c:u6}{s:A5}(ho:G9 c s=true){x:A1}(hx:x∈s.Docs):s.Docs.find? (fun d=>d.Id==x.Id)=some x:=by
 obtain⟨_,h2,_⟩:=a0w ho
 exact b0q (a0Q h2).2.2 hx
theorem c0S (F:Nat)(c:u6)(s:A5){q:q7}(h:a3D q)(x:A1)(ho:G9 c s=true)(hx:x∈s.Docs)(hc:a1K 100 c)(hn:x.Nums.length≤1000000)(hF:1000000000<F):G1 (F+1) c s q x.Id=some (b0y c s q x):=by
 obtain⟨h1,h2,h3⟩:=a0w ho
 have hfew:=a2D ho
 rw [G1]
 dsimp only
 cases h with
 | all=>rfl
 | @term f w hf hw=>
  simp only [Int.reduceBEq,i6,j4]
  rw [show v8 ([w]:List r4) (0:Int)=some w from rfl,a8,b8L F c w hc h1 hw (by omega),a8,a8N F c s f _ x.Id ho hF]
  rfl
 | @phrase f ws n hf g1 g2 hw g3 g4=>
  simp only [Int.reduceBEq,i6,j4]
  rw [b7P F c s f ws n 3 0 [] x.Id ho hw g2 hF]
  rfl
 | @near f w n hf hw g1 g2=>
  simp only [Int.reduceBEq,i6,j4]
  rw [b8I F c s f w n 4 0 x.Id [] ho hw ⟨g1,g2⟩ hF]
  rfl
 | @glob f p hf hp hn=>
  simp only [Int.reduceBEq,i6,j4]
  rw [b8G F c s f p 0 5 0 x.Id [] ho hp hF,a8,b5n]
  rfl
 | @range f a b hf g1 g2 g3 g4=>
  simp only [Int.reduceBEq,i6,j4]
  rw [b4g F s x.Id (by omega) (by omega),a5V ho hx,a8,Option.getD_some,c0U F x f (by omega) hn,a8,inS,a8,b5n]
  rfl
theorem a7w (c:u6)(s:A5)(x:A1)(ho:G9 c s=true)(hx:x∈s.Docs)(hc:a1K 100 c)(hn:x.Nums.length≤1000000): ∀{d:Nat} {q:q7},I3 d q→d≤4→∀F,1000000000+d<F→G1 F c s q x.Id=some (C2 c s d q x)
 | 0,q,h,_,_,_=>by cases h
 | d+1,q,h,hd,F,hF=>by
  obtain⟨F,rfl⟩: ∃G,F=G+1:=⟨F-1,by omega⟩
  have ih: ∀k,I3 d k→G1 F c s k x.Id=some (C2 c s d k x):=fun k hk=>a7w c s x ho hx hc hn hk (by omega) F (by omega)
  have rng: ∀k,I3 d k→0≤C2 c s d k x∧C2 c s d k x≤1000000000000*46656:=fun k hk=>by
   have:=a3u c s x ho hk
   have:=b8Y (show d≤3 by omega)
   omega
  cases h with
  | leaf h=>rw [c0S F c s h x ho hx hc hn (by omega),C2,if_pos (a85 h)]
  | @and _ ks h1 h2 h3=>
   have hsum:=a7e (B:=1000000000000*46656) (l:=ks.map fun k=>C2 c s d k x) fun y hy=>by
    obtain⟨k,hk,rfl⟩:=List.mem_map.1 hy
    exact rng k (h3 k hk)
   rw [List.length_map] at hsum
   rw [G1]
   dsimp only
   simp only [Int.reduceBEq,i6]
   have hv: ∀k∈ks,0≤C2 c s d k x:=fun k hk=>(rng k (h3 k hk)).1
   have key:=fun g h h1=>b76 (g:=g) (and:=true) (m:=9000000000000000000) (by omega) hv h h1 ks.length 0 0 F (by omega) (by omega) (by omega) (by rw [List.drop_zero];omega)
   rw [show ((0:Int),(0:Int))=((0:Int),((0:Nat):Int)) from rfl,key _ (fun i k a hk h0 hm=>?_) (fun a=>?_),List.drop_zero]
   ·show _=some (a6O true (ks.map fun k=>C2 c s d k x))
    unfold a6O
    cases (true&&(ks.map fun k=>C2 c s d k x).any (· ==0))
    ·simp
    ·simp
   ·have hi:=(i4.1 hk).1
    have hr:=rng k (h3 k (n5 hk))
    dsimp only
    rw [b8 (by omega),j4,n8,hk,a8,ih k (h3 k (n5 hk)),a8,u5,C5 (n:=a+C2 c s d k x) ⟨by omega,by omega⟩,y5 (by omega)]
    cases C2 c s d k x==0<;>rfl
   ·dsimp only
    rw [c6 (by omega)];rfl
  | @or _ ks h1 h2 h3=>
   have hsum:=a7e (B:=1000000000000*46656) (l:=ks.map fun k=>C2 c s d k x) fun y hy=>by
    obtain⟨k,hk,rfl⟩:=List.mem_map.1 hy
    exact rng k (h3 k hk)
   rw [List.length_map] at hsum
   rw [G1]
   dsimp only
   simp only [Int.reduceBEq,i6]
   have hv: ∀k∈ks,0≤C2 c s d k x:=fun k hk=>(rng k (h3 k hk)).1
   have key:=fun g h h1=>b76 (g:=g) (and:=false) (m:=9000000000000000000) (by omega) hv h h1 ks.length 0 0 F (by omega) (by omega) (by omega) (by rw [List.drop_zero];omega)
   rw [show ((0:Int),(0:Int))=((0:Int),((0:Nat):Int)) from rfl,key _ (fun i k a hk h0 hm=>?_) (fun a=>?_),List.drop_zero]
   ·show _=some (a6O false (ks.map fun k=>C2 c s d k x))
    unfold a6O
    simp
   ·have hi:=(i4.1 hk).1
    have hr:=rng k (h3 k (n5 hk))
    dsimp only
    rw [b8 (by omega),j4,n8,hk,a8,ih k (h3 k (n5 hk)),a8,Bool.false_and,C5 (n:=a+C2 c s d k x) ⟨by omega,by omega⟩,y5 (by omega)]
    cases C2 c s d k x==0<;>rfl
   ·dsimp only
    rw [c6 (by omega)];rfl
  | @less _ a b h1 h2=>
   rw [G1]
   dsimp only
   simp only [Int.reduceBEq,i6,j4]
   rw [show v8 ([a,b]:List q7) (1:Int)=some b from rfl,a8,ih b h2,a8]
   show _=some (if 0<C2 c s d b x then 0 else C2 c s d a x)
   by_cases hb:0<C2 c s d b x
   ·rw [b8 hb,j4,if_pos hb]
   ·rw [c6 hb,i6,if_neg hb,show v8 ([a,b]:List q7) (0:Int)=some a from rfl,a8,ih a h1];rfl
  | @times _ n k h1 h2 h3=>
   have hr:=rng k h3
   rw [G1]
   dsimp only
   simp only [Int.reduceBEq,i6,j4]
   have h4:n*C2 c s d k x≤9*C2 c s d k x:=Int.mul_le_mul_of_nonneg_right h2 hr.1
   have h5:0≤n*C2 c s d k x:=Int.mul_nonneg (by omega) hr.1
   rw [show v8 ([k]:List q7) (0:Int)=some k from rfl,a8,ih k h3,a8,C5 ⟨by omega,by omega⟩]
   rfl
end Go.Fk
