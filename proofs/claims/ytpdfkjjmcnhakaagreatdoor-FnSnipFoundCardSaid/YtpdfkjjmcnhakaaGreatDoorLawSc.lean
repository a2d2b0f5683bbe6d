import Derived.Test.YtpdfkjjmcnhakaaGreatDoorLawPts
import Derived.Test.YtpdfkjjmcnhakaaGreatDoorLawQs
import Derived.Test.YtpdfkjjmcnhakaaGreatDoorLawDrs
/-
  What a question's leaves are worth in a document: the program and the reference reckon alike. Of no program's steps.
-/
set_option linter.unusedVariables false
namespace Go.Fk
open Go
def a4C (c:o0)(w:l3):l3:=if A1 w&&I4 c then ((u2 c w)[0]?).elim [] (·.Text) else []
theorem b6G {b:UInt8}(h:Z8 b=true):a4D b=true:=by
 unfold Z8 at h
 unfold a4D
 simp only [Bool.or_eq_true,l5,decide_eq_true_iff,Bool.not_eq_true',Bool.or_eq_false_iff,decide_eq_false_iff_not,UInt8.le_iff_toNat_le,UInt8.lt_iff_toNat_lt] at h ⊢
 have e1:(97:UInt8).toNat=97:=rfl
 have e2:(122:UInt8).toNat=122:=rfl
 have e3:(48:UInt8).toNat=48:=rfl
 have e4:(57:UInt8).toNat=57:=rfl
 have e5:(32:UInt8).toNat=32:=rfl
 have e6:(126:UInt8).toNat=126:=rfl
 omega
theorem a9e {w:l3}(h:A1 w=true):w.all a4D=true:=by
 simp only [A1,l5,List.all_eq_true] at h
 exact List.all_eq_true.2 fun b hb=>b6G (h.1 b hb)
theorem b3e {w:l3}(h:A1 w=true):O9 w=true:=by
 have:=a0o h
 unfold O9
 rw [a9e h,b8 (by omega)];rfl
theorem a8q (F:Nat)(c:o0)(w:l3)(hc:c.Stops.length≤2000000)(hF:1000<F):N3 F c w=some (a4C c w):=by
 unfold N3 a4C
 rw [F3,a8]
 cases hw:A1 w with
 | false=>rfl
 | true=>
  have hl:=a0o hw
  rw [n5,i9,a2o F c w (by omega) hc (by omega),a8,b3e hw]
  cases I4 c with
  | false=>rfl
  | true=>
   simp only [Bool.and_self,if_true]
   cases ht:u2 c w with
   | nil=>rfl
   | cons x r=>
    rw [beq_eq_false_iff_ne.2 (by simp only [l9];omega),i9,show ((0:Int))=((0:Nat):Int) from rfl,l8];rfl
def a7n (d:u1)(name:l3):Int:=(d.Nums.find? fun a=>a.Name==name).elim (-1) (·.Num)
theorem b4A (F:Nat)(d:u1)(name:l3)(hd:a1Q d=true):a0s F d name=some (a7n d name):=by
 unfold a0s a7n
 rw [a8n,a8,hd,j6]
 rw [a1u (fun a=>a.Name==name) (fun a=>a.Num) (fun i x hx=>by
  rw [l8,hx,a8];cases x.Name==name<;>rfl)]
 cases List.find? (fun a=>a.Name==name) d.Nums<;>rfl
def a1o (ws:List l3):l3:=Lib.join ws [32]
theorem a8s (a b:l3)(r:List l3):a1o (a::b::r)=a++[32]++a1o (b::r):=by
 unfold a1o Lib.join List.intercalate
 rw [List.intersperse_cons_cons,List.flatten_cons,List.flatten_cons,List.append_assoc]
theorem join_one (a:l3):a1o [a]=a:=by
 unfold a1o Lib.join List.intercalate
 simp
theorem a4g: ∀(ws:List l3),(∀w∈ws,A1 w=true)→(a1o ws).length≤13*ws.length
 | [],_=>by unfold a1o Lib.join List.intercalate;simp
 | [a],h=>by have:=a0o (h a (.head _));rw [join_one,l6];omega
 | a::b::r,h=>by
  have h1:=a0o (h a (.head _))
  have h2:=a4g (b::r) fun w hw=>h w (.tail _ hw)
  rw [a8s]
  simp only [j8,l9,List.length_nil] at h2 ⊢
  omega
theorem b1E: ∀(ws:List l3),(∀w∈ws,A1 w=true)→(a1o ws).all a4D=true
 | [],_=>by unfold a1o Lib.join List.intercalate;simp
 | [a],h=>by rw [join_one];exact a9e (h a (.head _))
 | a::b::r,h=>by
  rw [a8s,List.all_append,List.all_append,a9e (h a (.head _)),b1E (b::r) fun w hw=>h w (.tail _ hw)]
  rfl
theorem b4H {ws:List l3}(h: ∀w∈ws,A1 w=true)(hl:ws.length≤4):O9 (a1o ws)=true:=by
 have:=a4g ws h
 unfold O9
 rw [b1E ws h,b8 (by omega)];rfl
theorem b4y {ws:List l3}(h: ∀w∈ws,A1 w=true)(hl:ws.length≤4):a8r [32] ws=some (a1o ws):=by
 have:=a4g ws h
 unfold a1o at this ⊢
 unfold a8r
 rw [if_pos ⟨by omega,by omega⟩]
theorem a6W: ∀(n:Nat) (s:l3) (o k:Nat),s.length≤n→∀w∈L7 s o k,(k:Int)≤w.At∧w.At≤k+s.length
 | n,[],o,k,_,w,hw=>by rw [P1] at hw;cases hw
 | 0,b::r,o,k,h,_,_=>by simp at h
 | n+1,b::r,o,k,h,w,hw=>by
  rw [L7] at hw
  by_cases hb:M9 b=true
  ·rw [if_pos hb] at hw
   have hpos:0<((b::r).takeWhile M9).length:=by rw [List.takeWhile_cons,if_pos hb];simp
   rcases List.mem_cons.1 hw with rfl | hw
   ·exact⟨Int.le_refl _,by simp only;omega⟩
   ·have ih:=a6W n ((b::r).drop ((b::r).takeWhile M9).length) _ (k+1) (by rw [List.length_drop];omega) w hw
    rw [List.length_drop] at ih
    simp only [l9] at ih hpos ⊢
    omega
  ·rw [if_neg hb] at hw
   have ih:=a6W n r (o+1) k (by rw [l9] at h;omega) w hw
   rw [l9]
   omega
theorem a7T {syns:List M2}{P:w8→Prop}(hy: ∀y∈syns,∀t,P t→P ⟨y.To,t.At⟩): ∀(n:Nat) (l:List w8),(∀t∈l,P t)→∀t∈a1g syns n l,P t
 | 0,l,_,t,ht=>by rw [a1g] at ht;cases ht
 | n+1,[],_,t,ht=>by rw [a1g] at ht;cases ht
 | n+1,x::r,h,t,ht=>by
  simp only [a1g] at ht
  cases hb:a2F syns (x::r) with
  | none=>
   rw [hb] at ht
   rcases List.mem_cons.1 ht with rfl | ht
   ·exact h _ (.head _)
   ·exact a7T hy n r (fun t ht=>h t (.tail _ ht)) t ht
  | some y=>
   rw [hb] at ht
   rcases List.mem_cons.1 ht with rfl | ht
   ·exact hy y (a1P hb) x (h x (.head _))
   ·exact a7T hy n _ (fun t ht=>h t (List.mem_of_mem_drop ht)) t ht
theorem a9X {c:o0}{s:l3}{t:w8}(h:t∈X3 c s): ∃w∈B1 s,t=⟨T1 w.Text,w.At⟩:=by
 obtain⟨w,hw,ht⟩:=List.mem_flatMap.1 h
 unfold S9 at ht
 split at ht
 ·simp only [List.mem_singleton] at ht
  exact⟨w,hw,ht⟩
 ·cases ht
theorem b2k {c:o0}{s:l3}{t:w8}(h:t∈u2 c s):0≤t.At∧t.At≤s.length:=by
 refine a7T (P:=fun t=>0≤t.At∧t.At≤s.length) (fun y _ t ht=>ht) _ _ (fun t ht=>?_) t h
 obtain⟨w,hw,rfl⟩:=a9X ht
 have:=a6W s.length s 0 0 (Nat.le_refl _) w hw
 simp only;omega
theorem a89 {c:o0}(hc:I4 c=true){s:l3}{t:w8}(h:t∈u2 c s):A1 t.Text=true:=by
 refine a7T (P:=fun t=>A1 t.Text=true) (fun y hy t _=>?_) _ _ (fun t ht=>?_) t h
 ·simp only [I4,l5,List.all_eq_true] at hc
  have:=hc.2 y hy
  simp only [a5j,l5] at this
  exact this.1.2.1
 ·obtain⟨w,hw,rfl⟩:=a9X ht
  exact b5m (a5G hw)
theorem b4o {d:u1}(h:a1Q d=true)(n:l3):(C3 d n).length≤160:=by
 have:=a3C h n
 simp only [O9,l5,decide_eq_true_eq] at this
 omega
theorem a6v {ds:List u1}(h:T3 ds=true): ∀d∈ds,a1Q d=true:=by
 simp only [T3,l5] at h
 exact(a2u h.1).1
theorem b5w {c:o0}{s:A2}(ho:P5 c s=true)(n t:l3)(id:Int):(∀x∈atS s n t id,0≤x∧x≤160)∧(atS s n t id).length≤160:=by
 obtain⟨_,h2,h3⟩:=a3K ho
 rw [h3]
 by_cases h0:(atS (X4 c s.Docs) n t id).length=0
 ·rw [List.length_eq_zero_iff.1 h0]
  exact And.intro (fun x hx=>by cases hx) (by simp)
 ·obtain⟨d,hd,_,he⟩:=b2x h0
  rw [he]
  have hds:=a6v h2 d hd
  have h160:=b4o hds n
  refine And.intro (fun x hx=>?_) ?_
  ·unfold T0 at hx
   obtain⟨y,hy,hx⟩:=List.mem_flatMap.1 hx
   split at hx
   ·simp only [List.mem_singleton] at hx
    subst hx
    have:=b2k hy
    omega
   ·cases hx
  ·have h1:=b3J (c:=c) (d:=d) n t
   have h2:=W6 c (C3 d n)
   omega
theorem b2C {c:o0}{s:A2}(ho:P5 c s=true){e:v8}(he:e∈s.Entries):A1 e.Term=true:=by
 obtain⟨h1,h2,h3⟩:=a3K ho
 rw [h3] at he
 have hp:=b1j he
 have hm:=b3A he
 rw [hm] at hp
 simp only [P6] at hp
 obtain⟨p,hp⟩:=List.exists_mem_of_length_pos hp
 obtain⟨d,hd,hpd⟩:=List.mem_flatMap.1 hp
 unfold I2 at hpd
 split at hpd
 ·rename_i hl
  simp only [decide_eq_true_eq] at hl
  obtain⟨a,ha⟩:=List.exists_mem_of_length_pos hl
  unfold T0 at ha
  obtain⟨y,hy,ha⟩:=List.mem_flatMap.1 ha
  split at ha
  ·rename_i hyt
   have:=a89 h1 hy
   rw [eq_of_beq hyt] at this
   exact this
  ·cases ha
 ·cases hpd
theorem a6i {c:o0}{s:A2}(ho:P5 c s=true):s.Entries.length≤10000∧s.Docs.length≤16:=by
 obtain⟨_,h2,h3⟩:=a3K ho
 have:=(b1V (c:=c) h2).1
 rw [←h3] at this
 exact⟨by omega,(a1S h2).1⟩
def a8J (n:l3)(e:v8):List l3:=if e.Field==n then [e.Term] else []
def a0O (s:A2)(n:l3):List l3:=s.Entries.flatMap (a8J n)
theorem b4Q (n:l3)(e:v8):(a8J n e).length≤1:=by unfold a8J;split<;>simp
theorem b29 {s:A2}{n:l3}:(a0O s n).length≤s.Entries.length:=by
 have:=U0 (g:=a8J n) (m:=1) s.Entries fun e _=>b4Q n e
 unfold a0O;omega
theorem a64 (F:Nat)(c:o0)(s:A2)(n:l3)(hl:s.Entries.length≤10000):E2 F ⟨c,s⟩ n=some (a0O s n):=by
 have hlen:=b29 (s:=s) (n:=n)
 unfold E2
 dsimp only
 rw [a4K (a8J n) 10000 (fun i e acc hx hB=>?_) [] (by rw [List.nil_append];unfold a0O at hlen;omega),List.nil_append]
 ·rfl
 ·rw [l8,hx,a8]
  unfold a8J at hB ⊢
  revert hB
  rw [M0]
  cases e.Field==n
  ·intro _;simp
  ·intro hB
   simp only [j6] at hB ⊢
   rw [F5 (by simp at hB ⊢;omega)];rfl
theorem a7g {c:o0}{s:A2}(ho:P5 c s=true){n t:l3}(h:t∈a0O s n):A1 t=true:=by
 obtain⟨e,he,ht⟩:=List.mem_flatMap.1 h
 unfold a8J at ht
 split at ht
 ·simp only [List.mem_singleton] at ht
  rw [ht];exact b2C ho he
 ·cases ht
end Go.Fk
set_option linter.unusedVariables false
namespace Go.Fk
open Go
def a12 (ts:List w8)(q:w8×Nat):Int:=q.1.At-(ts[0]?).elim 0 (·.At)-(q.2:Int)
def a9U (sh:Int)(p:Int):List Int:=if decide (sh≤p) then [p-sh] else []
def a5w (s:A2)(f:l3)(id:Int)(ts:List w8)(q:w8×Nat):List Int:=(atS s f q.1.Text id).flatMap (a9U (a12 ts q))
def a3F (s:A2)(f:l3)(id:Int)(ts:List w8):List (List Int):=ts.zipIdx.map (a5w s f id ts)
def b82 (c:o0)(s:A2)(f:l3)(id:Int)(ts:List w8):Nat:=(ts.map fun t=>L0 c s f t.Text id).sum
def a3J (c:o0)(s:A2)(f:l3)(ws:List l3)(n:Int)(id:Int):Nat:=
 let ts:=u2 c (a1o ws)
 if ts.length=0 then 0 else (if (a6c (a3F s f id ts) n).length<3 then (a6c (a3F s f id ts) n).length else 3)*b82 c s f id ts
theorem b4L (sh p:Int):(a9U sh p).length≤1:=by unfold a9U;split<;>simp
theorem a8K (s:A2)(f:l3)(id:Int)(ts:List w8)(q:w8×Nat):(a5w s f id ts q).length≤(atS s f q.1.Text id).length:=by
 have:=U0 (g:=a9U (a12 ts q)) (m:=1) (atS s f q.1.Text id) fun x _=>b4L _ x
 unfold a5w;omega
theorem b6D {α:Type}(w:α→Nat)(l:List α)(i:Nat)(hi:i<l.length):((l.take (i+1)).map w).sum=((l.take i).map w).sum+w l[i]:=by
 rw [List.take_succ_eq_append_getElem hi,List.map_append,List.sum_append];simp
theorem b0Y {α:Type}{w:α→Nat}{B:Nat}{l:List α}(h: ∀x∈l,w x≤B)(i:Nat):((l.take i).map w).sum≤l.length*B:=by
 have h1:=b0Z (w:=w) (l.take i) fun x hx=>h x (List.mem_of_mem_take hx)
 have h2:(l.take i).length*B≤l.length*B:=Nat.mul_le_mul_right _ (List.length_take_le' ..)
 omega
theorem b6r {ts:List w8}{B:Nat}(hB:B≤1000)(hl:ts.length≤B)(ht: ∀t∈ts,0≤t.At∧t.At≤B){i:Nat}(hi:i<ts.length):
  y8 (y8 (ts[i].At-(ts[0]'(by omega)).At)-(i:Int))=a12 ts (ts[i],i)∧ -(2000:Int)≤a12 ts (ts[i],i)∧a12 ts (ts[i],i)≤2000:=by
 have h1:=ht _ (List.getElem_mem hi)
 have h0:=ht _ (List.getElem_mem (show 0<ts.length by omega))
 have e:a12 ts (ts[i],i)=ts[i].At-(ts[0]'(by omega)).At-(i:Int):=by
  unfold a12
  rw [i6 (show 0<ts.length by omega)];rfl
 rw [e,B9 (n:=ts[i].At-(ts[0]'(by omega)).At) ⟨by omega,by omega⟩,B9 ⟨by omega,by omega⟩]
 exact⟨rfl,by omega,by omega⟩
theorem b7T {α:Type}(l:List α)(i:Nat)(hi:i<l.length):(l.zipIdx.take (i+1))=l.zipIdx.take i++[(l[i],i)]:=by
 rw [List.take_succ_eq_append_getElem (by simpa using hi)]
 simp
theorem b1z (F:Nat)(c:o0)(s:A2)(f:l3)(ws:List l3)(n a b:Int)(ks:List B5)(d:u1)(ho:P5 c s=true)(hw: ∀w∈ws,A1 w=true)(hl:ws.length≤4)(hF:1000000000<F):
  L4 F ⟨c,s⟩ ⟨a,f,ws,n,b,ks⟩ d=some ((a3J c s f ws n d.Id:Nat):Int):=by
 obtain⟨h1,h2,h3⟩:=a3K ho
 have hj:=a4g ws hw
 have hst:=a3x h1
 unfold L4
 dsimp only
 rw [b4y hw hl,a8,a2o F c _ (by omega) (by omega) (by omega),a8,h1,b4H hw hl]
 simp only [Bool.and_self,if_true]
 have htl:=W6 c (a1o ws)
 have hta: ∀t∈u2 c (a1o ws),0≤t.At∧t.At≤(100:Nat):=fun t ht=>by have:=b2k ht;omega
 unfold a3J
 dsimp only
 generalize hts:u2 c (a1o ws)=ts at *
 by_cases h0:ts.length=0
 ·rw [if_pos h0,beq_iff_eq.2 (by omega)];rfl
 ·rw [if_neg h0,beq_eq_false_iff_ne.2 (by omega),i9]
  have hpt: ∀t:w8,L0 c s f t.Text d.Id≤1000000000:=fun t=>a3h c s f t.Text d.Id ho
  have key:=fun g step=>a2g (σ:=(List (List Int))×Int) (f:=g) (fun i st=>st=((ts.zipIdx.take i).map (a5w s f d.Id ts),((((ts.take i).map fun t=>L0 c s f t.Text d.Id).sum:Nat):Int))) ts.length step ts.length 0 (([]:List (List Int)),(0:Int)) (by omega) (by simp)
  generalize hg:(fun (i95:Nat) (s91:(List (List Int))×Int)=>_:Nat→(List (List Int))×Int→Option ((List (List Int))×Int))=g
  obtain⟨t,ht,hp⟩:=key g (fun i st hi hs=>by
   subst hg;subst hs
   refine⟨_,?_,rfl⟩
   have hsh:=b6r (B:=100) (by omega) (by omega) hta hi
   have har:=b5w ho f ts[i].Text d.Id
   have hpl:=a8K s f d.Id ts (ts[i],i)
   dsimp only at hpl
   dsimp only
   rw [a03 hi,a8,a4c,a8,a4K (a9U (a12 ts (ts[i],i))) 1000 (fun j x acc hx hB=>?_) [] (by rw [List.nil_append];unfold a5w at hpl;dsimp only at hpl;omega),List.nil_append,a8,a8,a4e F c s f ts[i].Text d.Id ho hF]
   ·have hsb:=b0Y (w:=fun t:w8=>L0 c s f t.Text d.Id) (l:=ts) (fun t _=>hpt t) i
    have hsb2:ts.length*1000000000≤100*1000000000:=Nat.mul_le_mul_right _ (by omega)
    have hpi:=hpt ts[i]
    rw [F5 (by simp only [List.length_map,List.length_take,List.length_zipIdx,l6];omega),a8,a8,b7T ts i hi,b6D _ ts i hi,B9 ⟨by omega,by omega⟩,List.map_append]
    simp only [List.map_cons,List.map_nil,a5w]
    congr 2
   ·have hxr:=har.1 x (m8 hx)
    have g0:p8 ts (0:Int)=some (ts[0]'(by omega)):=a03 (xs:=ts) (i:=0) (by omega)
    rw [l8,hx,a8,g0,a8,hsh.1,B9 (n:=x-a12 ts (ts[i],i)) ⟨by omega,by omega⟩]
    unfold a9U at hB ⊢
    by_cases hle:a12 ts (ts[i],i)≤x
    ·rw [b8 (show (0:Int)≤x-a12 ts (ts[i],i) by omega),j6,b8 hle,if_pos rfl]
     rw [b8 hle,if_pos rfl] at hB
     simp only [j8,l6] at hB
     rw [F5 (by simp only [l6];omega)];rfl
    ·rw [c6 (show ¬(0:Int)≤x-a12 ts (ts[i],i) by omega),i9,c6 hle,if_neg (by simp),List.append_nil])
  rw [ht,hp,a8,a8]
  dsimp only
  rw [List.take_of_length_le (by simp),List.take_length]
  have hLl:(a3F s f d.Id ts).length=ts.length:=by unfold a3F;simp
  have hLe: ∀l∈a3F s f d.Id ts,l.length≤1000:=fun l hl=>by
   unfold a3F at hl
   obtain⟨q,_,rfl⟩:=List.mem_map.1 hl
   have:=a8K s f d.Id ts q
   have:=(b5w ho f q.1.Text d.Id).2
   omega
  have hph:=a9m F (a3F s f d.Id ts) n hLe (by omega) (by omega)
  unfold a3F at hph
  rw [hph,a8,a8]
  have hsb:=b0Y (w:=fun t:w8=>L0 c s f t.Text d.Id) (l:=ts) (fun t _=>hpt t) ts.length
  have hsb2:ts.length*1000000000≤100*1000000000:=Nat.mul_le_mul_right _ (by omega)
  rw [List.take_length] at hsb
  unfold b82 a3F
  generalize (a6c (ts.zipIdx.map (a5w s f d.Id ts)) n).length=k
  generalize (ts.map fun t=>L0 c s f t.Text d.Id).sum=m at *
  by_cases hk:k<3
  ·rw [if_pos (by omega),if_pos hk]
   have:k*m≤3*m:=Nat.mul_le_mul_right _ (by omega)
   rw [show ((k:Nat):Int)*(m:Int)=((k*m:Nat):Int) by simp,B9 ⟨by omega,by omega⟩]
  ·rw [if_neg (by omega),if_neg hk]
   rw [show (3:Int)*(m:Int)=((3*m:Nat):Int) by simp,B9 ⟨by omega,by omega⟩]
theorem b2T (c:o0)(s:A2)(f:l3)(ws:List l3)(n id:Int)(ho:P5 c s=true)(hw: ∀w∈ws,A1 w=true)(hl:ws.length≤4):a3J c s f ws n id≤300000000000:=by
 have hj:=a4g ws hw
 have htl:=W6 c (a1o ws)
 unfold a3J
 dsimp only
 generalize u2 c (a1o ws)=ts at *
 split
 ·omega
 ·have hsb:=b0Y (w:=fun t:w8=>L0 c s f t.Text id) (l:=ts) (fun t _=>a3h c s f t.Text id ho) ts.length
  have hsb2:ts.length*1000000000≤100*1000000000:=Nat.mul_le_mul_right _ (by omega)
  rw [List.take_length] at hsb
  unfold b82
  generalize (ts.map fun t=>L0 c s f t.Text id).sum=m at *
  split
  ·rename_i hk
   have:=Nat.mul_le_mul_right m (Nat.le_of_lt hk)
   omega
  ·omega
end Go.Fk
set_option linter.unusedVariables false
namespace Go.Fk
open Go
def b3C (c:o0)(s:A2)(f w:l3)(id:Int)(t:l3):Int:=(((L0 c s f t id:Nat):Int)*(3-b2D t w)).tdiv 3
def a3b (c:o0)(s:A2)(f w:l3)(n id:Int)(best:Int)(t:l3):Int:=if decide (b2D t w≤n) then (if best<b3C c s f w id t then b3C c s f w id t else best) else best
def a9W (c:o0)(s:A2)(f w:l3)(n id:Int):Int:=(a0O s f).foldl (a3b c s f w n id) 0
theorem b3q (t w:l3):0≤b2D t w∧b2D t w≤(t.length:Int)+w.length:=a7L t w t.length w.length
theorem b52 {p:Nat}{d:Int}(hp:p≤1000000000)(h0:0≤d)(h2:d≤2):a2w (y8 ((p:Int)*y8 (3-d))) 3=some (((p:Int)*(3-d)).tdiv 3):=by
 have e1:y8 (3-d)=3-d:=B9 ⟨by omega,by omega⟩
 have e2:y8 ((p:Int)*(3-d))=(p:Int)*(3-d):=by
  have:d=0∨d=1∨d=2:=by omega
  rcases this with rfl | rfl | rfl<;>exact B9 ⟨by omega,by omega⟩
 have e3:y8 (((p:Int)*(3-d)).tdiv 3)=((p:Int)*(3-d)).tdiv 3:=by
  have:d=0∨d=1∨d=2:=by omega
  rcases this with rfl | rfl | rfl<;>(rw [Int.tdiv_eq_ediv_of_nonneg (by omega)];exact B9 ⟨by omega,by omega⟩)
 rw [e1,e2,a2w,if_neg (by omega),e3]
theorem b2I (F:Nat)(c:o0)(s:A2)(f w:l3)(n id:Int)(ho:P5 c s=true)(hw:A1 w=true)(hn:1≤n∧n≤2)(hF:1000000000<F){g:Nat→Int→Option Int}
  (hg: ∀(i:Nat) (b:Int),g i b=(Option.bind (p8 (a0O s f) ((i:Nat):Int)) fun x140=>(Option.bind (p8 ([w]:List l3) (0:Int)) fun x150=>(Option.bind (R7 F x140 x150) fun r160=>(Option.bind (u5 F r160 (0:Int) n) fun r169=>(cond r169 (Option.bind (F1 F ⟨c,s⟩ f x140 id) fun r179=>(Option.bind (a2w (y8 (r179*(y8 ((3:Int)-r160)))) (3:Int)) fun x188=>(some (if x188>b then x188 else b)))) (some b))))))):
  O6 g (a0O s f).length 0 (0:Int)=some (a9W c s f w n id):=by
 unfold a9W
 rw [a4L (xs:=a0O s f) (a3b c s f w n id) (fun i x b hx=>?_)]
 have hxw:=a7g ho (m8 hx)
 have hfp:=b3q x w
 rw [hg,l8,hx,a8,show p8 [w] (0:Int)=some w from rfl,a8,b51 F x w hxw hw (by omega),a8,F9,a8,Z3 hfp.1,n8]
 unfold a3b
 by_cases hd:b2D x w≤n
 ·rw [b8 hd,j6,a4e F c s f x id ho hF,a8,b52 (a3h c s f x id ho) hfp.1 (by omega),a8,if_pos rfl]
  rfl
 ·rw [c6 hd,i9,if_neg (by simp)]
theorem a7P (c:o0)(s:A2)(f w:l3)(n id:Int)(ho:P5 c s=true): ∀(l:List l3) (b:Int),0≤b→b≤1000000000→0≤l.foldl (a3b c s f w n id) b∧l.foldl (a3b c s f w n id) b≤1000000000
 | [],b,h0,h1=>⟨h0,h1⟩
 | t::l,b,h0,h1=>by
  rw [List.foldl_cons]
  have hp:=a3h c s f t id ho
  have hf:=b3q t w
  have hv:b3C c s f w id t≤1000000000:=by
   unfold b3C
   generalize L0 c s f t id=p at *
   generalize b2D t w=d at *
   have h3:(p:Int)*(3-d)≤(p:Int)*3:=Int.mul_le_mul_of_nonneg_left (by omega) (by omega)
   by_cases h:(p:Int)*(3-d)<0
   ·have:((p:Int)*(3-d)).tdiv 3≤0:=by
     have h4:=Int.neg_tdiv (-((p:Int)*(3-d))) 3
     rw [Int.neg_neg] at h4
     rw [h4,Int.tdiv_eq_ediv_of_nonneg (by omega)]
     omega
    omega
   ·rw [Int.tdiv_eq_ediv_of_nonneg (by omega)];omega
  unfold a3b
  split
  ·split
   ·exact a7P c s f w n id ho l _ (by omega) hv
   ·exact a7P c s f w n id ho l b h0 h1
  ·exact a7P c s f w n id ho l b h0 h1
def a9I (s:A2)(f p:l3)(id:Int)(t:l3):Bool:=a2J p t&&decide (0<(atS s f t id).length)
def b1o (s:A2)(f p:l3)(id:Int):Bool:=(a0O s f).any (a9I s f p id)
theorem b4w (F:Nat)(p t:l3)(hp:b1n p=true)(ht:A1 t=true)(hF:100<F):Y2 F p t=some (a2J p t):=by
 have h1:=a0o ht
 have h2:p.length≤12:=by
  simp only [b1n,l5,decide_eq_true_eq] at hp
  omega
 unfold Y2
 rw [a38,a8,hp,j6,F3,a8,ht,j6,a9J 50 p t F (by omega) (by omega)];rfl
def b3w (c:o0)(s:A2)(q:B5)(x:u1):Int:=
 if q.Kind=1 then 100
 else if q.Kind=2 then ((L0 c s q.Field (a4C c (q.Words.headD [])) x.Id:Nat):Int)
 else if q.Kind=3 then ((a3J c s q.Field q.Words q.From x.Id:Nat):Int)
 else if q.Kind=4 then a9W c s q.Field (q.Words.headD []) q.From x.Id
 else if q.Kind=5 then (if b1o s q.Field (q.Words.headD []) x.Id then 100 else 0)
 else (if decide (q.From≤a7n x q.Field)&&decide (a7n x q.Field≤q.To) then 100 else 0)
def a7k (and:Bool)(l:List Int):Int:=if and&&l.any (· ==0) then 0 else l.sum
def D5 (c:o0)(s:A2):Nat→B5→u1→Int
 | 0,_,_=>0
 | d+1,q,x=>
  if q.Kind≤6 then b3w c s q x
  else if q.Kind=10 then q.From*D5 c s d (q.Kids.headD q) x
  else if q.Kind=9 then (if 0<D5 c s d ((q.Kids[1]?).getD q) x then 0 else D5 c s d (q.Kids.headD q) x)
  else a7k (q.Kind==7) (q.Kids.map fun k=>D5 c s d k x)
def a9i:Nat→Int
 | 0=>1000000000000
 | d+1=>36*a9i d
theorem b3k: ∀d,1000000000000≤a9i d
 | 0=>by unfold a9i;omega
 | d+1=>by have:=b3k d;unfold a9i;omega
theorem b5Y (c:o0)(s:A2){q:B5}(h:a3P q)(x:u1)(ho:P5 c s=true):0≤b3w c s q x∧b3w c s q x≤1000000000000:=by
 cases h with
 | all=>
  show (0:Int)≤100∧(100:Int)≤_
  omega
 | @term f w hf hw=>
  have:=a3h c s f (a4C c w) x.Id ho
  show 0≤((L0 c s f (a4C c w) x.Id:Nat):Int)∧((L0 c s f (a4C c w) x.Id:Nat):Int)≤_
  omega
 | @phrase f ws n hf h1 h2 hw h3 h4=>
  have:=b2T c s f ws n x.Id ho hw h2
  show 0≤((a3J c s f ws n x.Id:Nat):Int)∧((a3J c s f ws n x.Id:Nat):Int)≤_
  omega
 | @near f w n hf hw h1 h2=>
  have:=a7P c s f w n x.Id ho (a0O s f) 0 (by omega) (by omega)
  show 0≤a9W c s f w n x.Id∧a9W c s f w n x.Id≤_
  unfold a9W;omega
 | @glob f p hf hp hn=>
  show 0≤(if b1o s f p x.Id then (100:Int) else 0)∧(if b1o s f p x.Id then (100:Int) else 0)≤_
  split<;>omega
 | @range f a b hf h1 h2 h3 h4=>
  show 0≤(if decide (a≤a7n x f)&&decide (a7n x f≤b) then (100:Int) else 0)∧(if decide (a≤a7n x f)&&decide (a7n x f≤b) then (100:Int) else 0)≤_
  split<;>omega
theorem a6l {B:Int}: ∀{l:List Int},(∀x∈l,0≤x∧x≤B)→0≤l.sum∧l.sum≤(l.length:Int)*B
 | [],_=>by simp
 | x::l,h=>by
  have h1:=h x (.head _)
  have h2:=a6l (l:=l) fun y hy=>h y (.tail _ hy)
  rw [List.sum_cons,l9,show (((l.length+1:Nat):Int))*B=(l.length:Int)*B+B by rw [Int.natCast_add,Int.add_mul];simp]
  omega
theorem b3i {B:Int}{and:Bool}{l:List Int}(hB:0≤B)(hl:l.length≤4)(h: ∀x∈l,0≤x∧x≤B):0≤a7k and l∧a7k and l≤4*B:=by
 have h1:=a6l h
 have h2:(l.length:Int)*B≤4*B:=Int.mul_le_mul_of_nonneg_right (by omega) hB
 unfold a7k
 split<;>omega
theorem a9P {q:B5}(h:a3P q):q.Kind≤6:=by
 cases h with
 | all=>exact(by decide :(1:Int)≤6)
 | term=>exact(by decide :(2:Int)≤6)
 | phrase=>exact(by decide :(3:Int)≤6)
 | near=>exact(by decide :(4:Int)≤6)
 | glob=>exact(by decide :(5:Int)≤6)
 | range=>exact(by decide :(6:Int)≤6)
theorem a3m (c:o0)(s:A2)(x:u1)(ho:P5 c s=true): ∀{d:Nat} {q:B5},R2 d q→0≤D5 c s d q x∧D5 c s d q x≤a9i d
 | 0,q,h=>by cases h
 | d+1,q,h=>by
  have hb:=b3k d
  have hbd:a9i (d+1)=36*a9i d:=rfl
  cases h with
  | leaf h=>
   have:=b5Y c s h x ho
   rw [D5,if_pos (a9P h)];omega
  | @and _ ks h1 h2 h3=>
   have:=b3i (and:=true) (l:=ks.map fun k=>D5 c s d k x) (B:=a9i d) (by omega) (by simpa using h2) fun y hy=>by
    obtain⟨k,hk,rfl⟩:=List.mem_map.1 hy
    exact a3m c s x ho (h3 k hk)
   show 0≤a7k true (ks.map fun k=>D5 c s d k x)∧a7k true (ks.map fun k=>D5 c s d k x)≤_
   omega
  | @or _ ks h1 h2 h3=>
   have:=b3i (and:=false) (l:=ks.map fun k=>D5 c s d k x) (B:=a9i d) (by omega) (by simpa using h2) fun y hy=>by
    obtain⟨k,hk,rfl⟩:=List.mem_map.1 hy
    exact a3m c s x ho (h3 k hk)
   show 0≤a7k false (ks.map fun k=>D5 c s d k x)∧a7k false (ks.map fun k=>D5 c s d k x)≤_
   omega
  | @less _ a b h1 h2=>
   have r1:=a3m c s x ho h1
   show 0≤(if 0<D5 c s d b x then 0 else D5 c s d a x)∧(if 0<D5 c s d b x then 0 else D5 c s d a x)≤_
   split<;>omega
  | @times _ n k h1 h2 h3=>
   have r1:=a3m c s x ho h3
   show 0≤n*D5 c s d k x∧n*D5 c s d k x≤_
   have h4:n*D5 c s d k x≤9*D5 c s d k x:=Int.mul_le_mul_of_nonneg_right h2 r1.1
   have h5:0≤n*D5 c s d k x:=Int.mul_nonneg (by omega) r1.1
   omega
end Go.Fk
set_option linter.unusedVariables false
namespace Go.Fk
open Go
theorem b88 {d:Nat}(h:d≤3):a9i d≤1000000000000*46656:=by
 have:d=0∨d=1∨d=2∨d=3:=by omega
 rcases this with rfl | rfl | rfl | rfl<;>decide
theorem b2w {α:Type}{ks:List α}{v:α→Int}{g:Nat→Int→Option (Int⊕Int)}{and:Bool}{m:Int}(hv: ∀k∈ks,0≤v k)
  (h: ∀i x a,ks[i]? =some x→0≤a→a+v x≤m→g i a=some (if and&&v x==0 then .inr 0 else .inl (a+v x))):
  ∀k i a,i+k=ks.length→0≤a→a+((ks.drop i).map v).sum≤m→y6 g k i a=some (if and&&((ks.drop i).map v).any (· ==0) then .inr 0 else .inl (a+((ks.drop i).map v).sum))
 | 0,i,a,e,h0,hm=>by
  rw [List.drop_of_length_le (by omega)]
  cases and<;>simp [y6]
 | k+1,i,a,e,h0,hm=>by
  have hi:i<ks.length:=by omega
  have hx:=hv _ (List.getElem_mem hi)
  rw [List.drop_eq_getElem_cons hi,List.map_cons,List.sum_cons] at hm
  have hrest:0≤((ks.drop (i+1)).map v).sum:=by
   have: ∀l:List α,(∀x∈l,0≤v x)→0≤(l.map v).sum:=fun l hl=>by
    induction l with
    | nil=>simp
    | cons y l ih=>
     rw [List.map_cons,List.sum_cons]
     have:=hl y (.head _)
     have:=ih fun z hz=>hl z (.tail _ hz)
     omega
   exact this _ fun x hx=>hv x (List.mem_of_mem_drop hx)
  rw [y6,h i ks[i] a (i6 hi) h0 (by omega),List.drop_eq_getElem_cons hi,List.map_cons,List.sum_cons,List.any_cons]
  cases hz:and&&v ks[i]==0
  ·simp only [Bool.false_eq_true,if_false,a8,Sum.elim_inl]
   show y6 g k (i+1) (a+v ks[i])=_
   rw [b2w hv h k (i+1) (a+v ks[i]) (by omega) (by omega) (by omega)]
   cases and
   ·simp;omega
   ·simp only [n8] at hz ⊢
    rw [hz,Bool.false_or,Int.add_assoc]
  ·simp only [l5] at hz
   rw [hz.1,hz.2];rfl
theorem b4z (F:Nat)(c:o0)(s:A2){q:B5}(h:a3P q)(x:u1)(ho:P5 c s=true)(hx:x∈s.Docs)(hF:1000000000<F):A0 (F+1) ⟨c,s⟩ q x=some (b3w c s q x):=by
 obtain⟨h1,h2,h3⟩:=a3K ho
 have hst:=(a3x h1).1
 have hfew:=a6i ho
 rw [A0]
 dsimp only
 cases h with
 | all=>rfl
 | @term f w hf hw=>
  simp only [Int.reduceBEq,i9,j6]
  rw [show p8 ([w]:List l3) (0:Int)=some w from rfl,a8,a8q F c w (by omega) (by omega),a8,a4e F c s f _ x.Id ho hF]
  rfl
 | @phrase f ws n hf g1 g2 hw g3 g4=>
  simp only [Int.reduceBEq,i9,j6]
  rw [b1z F c s f ws n 3 0 [] x ho hw g2 hF]
  rfl
 | @near f w n hf hw g1 g2=>
  simp only [Int.reduceBEq,i9,j6]
  rw [a64 F c s f hfew.1,a8,b2I F c s f w n x.Id ho hw ⟨g1,g2⟩ hF (fun i b=>rfl)]
  rfl
 | @glob f p hf hp hn=>
  simp only [Int.reduceBEq,i9,j6]
  rw [a64 F c s f hfew.1,a8,
   a1u (xs:=a0O s f) (a9I s f p x.Id) (fun _=>(100:Int)) (fun i t ht=>?_)]
  ·show _=some (if b1o s f p x.Id then 100 else 0)
   unfold b1o
   cases hf:(a0O s f).find? (a9I s f p x.Id) with
   | none=>
    have:(a0O s f).any (a9I s f p x.Id)=false:=by
     rw [List.any_eq_false]
     exact List.find?_eq_none.1 hf
    rw [this];rfl
   | some m=>
    have:(a0O s f).any (a9I s f p x.Id)=true:=by
     rw [List.any_eq_true]
     exact⟨m,List.mem_of_find?_eq_some hf,List.find?_some hf⟩
    rw [this];rfl
  ·have htw:=a7g ho (m8 ht)
   rw [l8,ht,a8,show p8 ([p]:List l3) (0:Int)=some p from rfl,a8,b4w F p t hp htw (by omega),a8]
   unfold a9I
   cases a2J p t
   ·rfl
   ·rw [j6,a4c,a8,a8,n8]
    by_cases h0:0<(atS s f t x.Id).length
    ·rw [b8 (show (0:Int)<((atS s f t x.Id).length:Int) by omega),b8 h0];rfl
    ·rw [c6 (show ¬(0:Int)<((atS s f t x.Id).length:Int) by omega),c6 h0];rfl
 | @range f a b hf g1 g2 g3 g4=>
  simp only [Int.reduceBEq,i9,j6]
  rw [b4A F x f (a6v h2 x hx),a8,F9,a8]
  show _=some (if decide (a≤a7n x f)&&decide (a7n x f≤b) then 100 else 0)
  cases decide (a≤a7n x f)&&decide (a7n x f≤b)<;>rfl
theorem a8p (c:o0)(s:A2)(x:u1)(ho:P5 c s=true)(hx:x∈s.Docs): ∀{d:Nat} {q:B5},R2 d q→d≤4→∀F,1000000000+d<F→A0 F ⟨c,s⟩ q x=some (D5 c s d q x)
 | 0,q,h,_,_,_=>by cases h
 | d+1,q,h,hd,F,hF=>by
  obtain⟨F,rfl⟩: ∃G,F=G+1:=⟨F-1,by omega⟩
  have ih: ∀k,R2 d k→A0 F ⟨c,s⟩ k x=some (D5 c s d k x):=fun k hk=>a8p c s x ho hx hk (by omega) F (by omega)
  have rng: ∀k,R2 d k→0≤D5 c s d k x∧D5 c s d k x≤1000000000000*46656:=fun k hk=>by
   have:=a3m c s x ho hk
   have:=b88 (show d≤3 by omega)
   omega
  cases h with
  | leaf h=>rw [b4z F c s h x ho hx (by omega),D5,if_pos (a9P h)]
  | @and _ ks h1 h2 h3=>
   have hsum:=a6l (B:=1000000000000*46656) (l:=ks.map fun k=>D5 c s d k x) fun y hy=>by
    obtain⟨k,hk,rfl⟩:=List.mem_map.1 hy
    exact rng k (h3 k hk)
   rw [List.length_map] at hsum
   rw [A0]
   dsimp only
   simp only [Int.reduceBEq,i9]
   have hv: ∀k∈ks,0≤D5 c s d k x:=fun k hk=>(rng k (h3 k hk)).1
   have key:=fun g h=>b2w (g:=g) (and:=true) (m:=9000000000000000000) hv h ks.length 0 0 (by omega) (by omega) (by rw [List.drop_zero];omega)
   rw [key _ (fun i k a hk h0 hm=>?_),List.drop_zero]
   ·show _=some (a7k true (ks.map fun k=>D5 c s d k x))
    unfold a7k
    cases (true&&(ks.map fun k=>D5 c s d k x).any (· ==0))
    ·simp
    ·simp
   ·have hr:=rng k (h3 k (m8 hk))
    rw [l8,hk,a8,ih k (h3 k (m8 hk)),a8,n8,B9 ⟨by omega,by omega⟩]
    cases D5 c s d k x==0<;>rfl
  | @or _ ks h1 h2 h3=>
   have hsum:=a6l (B:=1000000000000*46656) (l:=ks.map fun k=>D5 c s d k x) fun y hy=>by
    obtain⟨k,hk,rfl⟩:=List.mem_map.1 hy
    exact rng k (h3 k hk)
   rw [List.length_map] at hsum
   rw [A0]
   dsimp only
   simp only [Int.reduceBEq,i9]
   have hv: ∀k∈ks,0≤D5 c s d k x:=fun k hk=>(rng k (h3 k hk)).1
   have key:=fun g h=>b2w (g:=g) (and:=false) (m:=9000000000000000000) hv h ks.length 0 0 (by omega) (by omega) (by rw [List.drop_zero];omega)
   rw [key _ (fun i k a hk h0 hm=>?_),List.drop_zero]
   ·show _=some (a7k false (ks.map fun k=>D5 c s d k x))
    unfold a7k
    simp
   ·have hr:=rng k (h3 k (m8 hk))
    rw [l8,hk,a8,ih k (h3 k (m8 hk)),a8,Bool.false_and,B9 ⟨by omega,by omega⟩]
    cases D5 c s d k x==0<;>rfl
  | @less _ a b h1 h2=>
   rw [A0]
   dsimp only
   simp only [Int.reduceBEq,i9,j6]
   rw [show p8 ([a,b]:List B5) (1:Int)=some b from rfl,a8,ih b h2,a8]
   show _=some (if 0<D5 c s d b x then 0 else D5 c s d a x)
   by_cases hb:0<D5 c s d b x
   ·rw [b8 hb,j6,if_pos hb]
   ·rw [c6 hb,i9,if_neg hb,show p8 ([a,b]:List B5) (0:Int)=some a from rfl,a8,ih a h1];rfl
  | @times _ n k h1 h2 h3=>
   have hr:=rng k h3
   rw [A0]
   dsimp only
   simp only [Int.reduceBEq,i9,j6]
   have h4:n*D5 c s d k x≤9*D5 c s d k x:=Int.mul_le_mul_of_nonneg_right h2 hr.1
   have h5:0≤n*D5 c s d k x:=Int.mul_nonneg (by omega) hr.1
   rw [show p8 ([k]:List B5) (0:Int)=some k from rfl,a8,ih k h3,a8,B9 ⟨by omega,by omega⟩]
   rfl
end Go.Fk
