/-
  The best of a few words, with bounds, is the best of the question. The law, on the models.
-/
import Derived.Test.YtnloenhmkdpgeaaGreatDoorModelLBoundTop
import Derived.Test.YtnloenhmkdpgeaaGreatDoorLawBnd
import Derived.Test.YtnloenhmkdpgeaaGreatDoorLawTopQ
set_option linter.unusedVariables false
namespace Go.Fk
open Go
theorem c8N {c:u6}{s:A5}(ho:G9 c s=true)(n t:r4)(id:Int):((H2 c s n t id:Nat):Int)≤a5e (blk (psS c s n t)) id:=by
 by_cases h0:(atS s n t id).length=0
 ·have h1:H2 c s n t id=0:=by
   unfold H2
   rw [if_pos h0]
  rw [h1]
  exact(c7o (c8j ho n t) id).1
 ·unfold atS at h0
  cases hf:(G3 s n t).find? fun p=>p.Doc==id with
  | none=>rw [hf] at h0;exact absurd rfl h0
  | some p=>
   have he:=eq_of_beq (List.find?_some (p:=fun p:F7=>p.Doc==id) hf)
   have hm:((id,H2 c s n t id):Int×Nat)∈psS c s n t:=List.mem_map.2 ⟨p,List.mem_of_find?_eq_some hf,by rw [he]⟩
   exact c72 (c89 ho n t) _ hm
theorem c8s {c:u6}{s:A5}(ho:G9 c s=true)(n:r4)(id:Int): ∀ts:List r4,b13 c s n ts id≤c7n c s n ts id
 | []=>Int.le_refl _
 | t::r=>by
  have h1:=c8N ho n t id
  have h2:=c8s ho n id r
  unfold b13 c7n at h2 ⊢
  rw [List.map_cons,List.sum_cons,List.map_cons,List.sum_cons]
  omega
def c7G (c:u6)(s:A5)(n:r4)(ts:List r4)(d:A1):List E3:=if 0<b13 c s n ts d.Id then [⟨d.Id,b13 c s n ts d.Id⟩] else []
theorem c76 {h:E3}: ∀{l:List E3},(∀a∈l,P1 a h=true)→a4E h l=l++[h]
 | [],_=>rfl
 | a::l,hl=>by
  show (if P1 a h then a::a4E h l else h::a::l)=a::(l++[h])
  rw [if_pos (hl a (.head _)),c76 fun b hb=>hl b (.tail _ hb)]
theorem c78 {l:List E3}(hs:a47 l){x:E3}(hx:l[l.length-1]? =some x): ∀a∈l,a=x∨P1 a x=true:=fun a ha=>by
 obtain⟨i,hi⟩:=List.mem_iff_getElem?.1 ha
 obtain⟨h1,h2⟩:=i4.1 hi
 obtain⟨h3,h4⟩:=i4.1 hx
 by_cases he:i=l.length-1
 ·subst he
  rw [h2] at h4
  exact .inl h4
 ·refine .inr ?_
  have:=List.pairwise_iff_getElem.1 hs i (l.length-1) h1 h3 (by omega)
  rw [h2,h4] at this
  exact this
theorem c7S {c:u6}{s:A5}{n:r4}{ts:List r4}{l:List A1}{h:E3}(hh:h∈l.flatMap (c7G c s n ts)): ∃d∈l,h=⟨d.Id,b13 c s n ts d.Id⟩:=by
 obtain⟨d,hd,hp⟩:=List.mem_flatMap.1 hh
 unfold c7G at hp
 split at hp
 ·exact⟨d,hd,List.mem_singleton.1 hp⟩
 ·cases hp
theorem c7H {c:u6}{s:A5}{n:r4}{ts:List r4}: ∀{l:List A1},(l.Pairwise fun a b=>a.Id<b.Id)→(l.flatMap (c7G c s n ts)).Nodup
 | [],_=>List.Pairwise.nil
 | x::r,h=>by
  obtain⟨h1,h2⟩:=List.pairwise_cons.1 h
  rw [List.flatMap_cons]
  have ih:=c7H (c:=c) (s:=s) (n:=n) (ts:=ts) h2
  unfold c7G
  split
  ·rw [List.singleton_append]
   refine List.nodup_cons.2 ⟨fun hm=>?_,ih⟩
   obtain⟨y,hy,he⟩:=c7S hm
   have e:x.Id=y.Id:=congrArg E3.Doc he
   have:=h1 y hy
   omega
  ·exact ih
theorem c8o {c:u6}{s:A5}(ho:G9 c s=true)(n:r4)(ts:List r4){m:Nat}(hm:1≤m): ∀i,i≤s.Docs.length→((s.Docs.take i).foldl (p7 c s n ts m) ([],0)).1=(I2 ((s.Docs.take i).flatMap (c7G c s n ts))).take m
 | 0,_=>by rw [List.take_zero];exact List.take_nil.symm
 | i+1,h=>by
  have hi:i<s.Docs.length:=by omega
  have ih:=c8o ho n ts hm i (by omega)
  have hids:=(a0Q (a0w ho).2.1).2.2
  rw [List.take_succ_eq_append_getElem hi,List.foldl_append,List.flatMap_append,List.flatMap_singleton]
  generalize hst:(s.Docs.take i).foldl (p7 c s n ts m) ([],0)=st at ih ⊢
  show (p7 c s n ts m st s.Docs[i]).1=_
  have hle:=c8s ho n s.Docs[i].Id ts
  have hbef: ∀a∈(s.Docs.take i).flatMap (c7G c s n ts),a.Doc<s.Docs[i].Id:=fun a ha=>by
   obtain⟨d,hd,rfl⟩:=c7S ha
   obtain⟨j,hj⟩:=List.mem_iff_getElem?.1 hd
   obtain⟨h1,h2⟩:=i4.1 hj
   rw [List.length_take] at h1
   rw [List.getElem_take] at h2
   have:=List.pairwise_iff_getElem.1 hids j i (by omega) hi (by omega)
   rw [h2] at this
   exact this
  have hnd:((s.Docs.take i).flatMap (c7G c s n ts)).Nodup:=c7H (hids.sublist (List.take_sublist _ _))
  have hsort:=a42 hnd
  generalize (s.Docs.take i).flatMap (c7G c s n ts)=L at *
  unfold p7 c7G
  by_cases h0:0<b13 c s n ts s.Docs[i].Id
  ·rw [if_pos h0,if_pos h0,b8B]
   split
   ·rename_i hsk
    unfold c7w at hsk
    rw [beq_eq_false_iff_ne.2 (by omega),Bool.false_or,q8,decide_eq_true_eq] at hsk
    obtain⟨hlen,hlast⟩:=hsk
    cases hx:st.1[m-1]? with
    | none=>rw [hx] at hlast;cases hlast
    | some x=>
     rw [hx] at hlast
     have hp:c7n c s n ts s.Docs[i].Id≤x.Points:=of_decide_eq_true hlast
     -- the new one is behind all that are kept
     have hkeep: ∀a∈(I2 L).take m,P1 a ⟨s.Docs[i].Id,b13 c s n ts s.Docs[i].Id⟩=true:=fun a ha=>by
      rw [←ih] at ha
      have hs2:a47 st.1:=by rw [ih];exact hsort.1.sublist (List.take_sublist _ _)
      have hd: ∀b∈st.1,b.Doc<s.Docs[i].Id:=fun b hb=>by
       rw [ih] at hb
       exact hbef b ((hsort.2.1 b).1 (List.mem_of_mem_take hb))
      rw [a1z]
      show b13 c s n ts s.Docs[i].Id<a.Points∨(a.Points=b13 c s n ts s.Docs[i].Id∧a.Doc<s.Docs[i].Id)
      have hda:=hd a ha
      rcases c78 hs2 (x:=x) (by rw [hlen];exact hx) a ha with rfl | hax
      ·omega
      ·rw [a1z] at hax
       omega
     rw [ih,←b5r,c76 hkeep,List.take_append_of_le_length (by rw [←ih];omega),List.take_take,Nat.min_self]
   ·show (a4E _ st.1).take m=_
    rw [ih,b5r]
  ·rw [if_neg h0,if_neg h0,List.append_nil]
   split
   ·exact ih
   ·exact ih
theorem c8P {c:u6}{s:A5}(ho:G9 c s=true)(n:r4)(ts:List r4){m:Nat}(hm:1≤m):(b16 c s n ts m).1=(I2 (s.Docs.flatMap (c7G c s n ts))).take m:=by
 have:=c8o ho n ts hm s.Docs.length (Nat.le_refl _)
 rw [List.take_length] at this
 exact this
def a2m (c:u6)(ks:List r4)(w:r4):List r4:=if !(Y8 c w==[])&& !(ks.map (Y8 c)).any (· ==Y8 c w) then ks++[w] else ks
theorem c8G (c:u6)(w:r4):b74 c w=Y8 c w:=rfl
theorem c7T (c:u6): ∀(ws ks:List r4),ws.foldl (c6Q c) (ks.map (Y8 c))=(ws.foldl (a2m c) ks).map (Y8 c)
 | [],ks=>rfl
 | w::r,ks=>by
  rw [List.foldl_cons,List.foldl_cons,←c7T c r]
  congr 1
  unfold c6Q a2m
  rw [c8G]
  split
  ·rw [List.map_append];rfl
  ·rfl
theorem c7K (c:u6): ∀(ws ks:List r4),(∀w∈ws.foldl (a2m c) ks,w∈ws∨w∈ks)∧(ws.foldl (a2m c) ks).length≤ks.length+ws.length
 | [],ks=>⟨fun w h=>.inr h,by simp⟩
 | w::r,ks=>by
  have ih:=c7K c r (a2m c ks w)
  have hl:(a2m c ks w).length≤ks.length+1:=by unfold a2m;split<;>simp
  rw [List.foldl_cons,s6]
  refine⟨fun x hx=>?_,by omega⟩
  rcases ih.1 x hx with h | h
  ·exact .inl (.tail _ h)
  ·unfold a2m at h
   split at h
   ·rcases List.mem_append.1 h with h | h
    ·exact .inr h
    ·rw [List.mem_singleton.1 h];exact .inl (.head _)
   ·exact .inr h
def c7m (n:r4)(w:r4):q7:=⟨2,n,[w],0,0,[]⟩
def c8c (n:r4)(ks:List r4):q7:=if 1<ks.length then ⟨8,[],[],0,0,ks.map (c7m n)⟩ else c7m n (ks.headD [])
theorem c8L {n:r4}(hn:D0 n=true){ks:List r4}(hk: ∀w∈ks,D0 w=true)(h1:1≤ks.length)(h4:ks.length≤4):I3 2 (c8c n ks):=by
 unfold c8c
 split
 ·refine .or (by rw [List.length_map];omega) (by rw [List.length_map];omega) fun k hk'=>?_
  obtain⟨w,hw,rfl⟩:=List.mem_map.1 hk'
  exact .leaf (.term hn (hk w hw))
 ·cases ks with
  | nil=>simp at h1
  | cons w r=>exact .leaf (.term hn (hk w (.head _)))
theorem c8v {c:u6}{s:A5}(n:r4){ks:List r4}(h1:1≤ks.length)(x:A1):C2 c s 2 (c8c n ks) x=b13 c s n (ks.map (Y8 c)) x.Id:=by
 unfold c8c
 split
 ·show a6O false ((ks.map (c7m n)).map fun k=>C2 c s 1 k x)=_
  unfold a6O b13
  rw [List.map_map,List.map_map]
  rfl
 ·rename_i h
  match ks,h1,h with
  | [w],_,_=>
   show ((H2 c s n (Y8 c w) x.Id:Nat):Int)=((H2 c s n (Y8 c w) x.Id:Nat):Int)+0
   rw [Int.add_zero]
  | a::b::r,_,h=>exact absurd (by simp) h
theorem c8Y {c:u6}{s:A5}(ho:G9 c s=true)(n:r4){ks:List r4}(h1:1≤ks.length){m:Nat}(hm:1≤m∧m≤16):a7h c s 2 (c8c n ks) (m:Int)=(b16 c s n (ks.map (Y8 c)) m).1:=by
 rw [c8P ho n _ hm.1]
 unfold a7h G6
 rw [if_pos ho,b8 (by omega),b8 (by omega),Int.toNat_natCast]
 show (I2 _).take m=_
 congr 2
 congr 1
 funext x
 unfold a3T c7G
 rw [c8v n h1 x]
 by_cases h0:0<b13 c s n (ks.map (Y8 c)) x.Id
 ·rw [b8 h0,if_pos rfl,if_pos h0]
 ·rw [c6 h0,if_neg (by decide),if_neg h0]
theorem c9e (F:Nat)(l:List r4)(t:r4)(hl:l.length≤1000)(hF:2000<F):a6M F l t=some (l.any (· ==t)):=by
 unfold a6M
 rw [a0u (xs:=l) (fun p=>p==t) (fun p=>(.inr true:Unit⊕Bool)) (e:=.inl ()) F (by omega) (fun i x hx=>?_) ?_]
 ·cases hf:l.find? (fun p=>p==t) with
  | none=>
   have:l.any (· ==t)=false:=by
    rw [List.any_eq_false]
    exact fun x hx=>by simpa using List.find?_eq_none.1 hf x hx
   rw [this];rfl
  | some x=>
   have:l.any (· ==t)=true:=List.any_eq_true.2 ⟨x,List.mem_of_find?_eq_some hf,List.find?_some (p:=fun p:r4=>p==t) hf⟩
   rw [this];rfl
 ·rw [c6 (by omega)];rfl
 ·have hi:=(i4.1 hx).1
  rw [b8 (by omega),j4,n8,hx,a8,y5 (by omega)]
  cases x==t<;>rfl
theorem c86 {ws:List r4}{i:Nat}(hi:i<ws.length):a1G ws (i:Int) ((i+1:Nat):Int)=some [ws[i]]:=by
 unfold a1G
 rw [if_pos ⟨by omega,by omega,by omega⟩]
 have e1:((i:Int)).toNat=i:=Int.toNat_natCast i
 have e2:(((i+1:Nat):Int)).toNat=i+1:=Int.toNat_natCast (i+1)
 congr 1
 simp only [e1,e2]
 rw [List.take_succ_eq_append_getElem hi,List.drop_append_of_le_length (by rw [List.length_take];omega),List.drop_eq_nil_of_le (by rw [List.length_take];omega),List.nil_append]
theorem c7Z (code:List UInt8): ∃F,a2s F code=some true:=by
 refine⟨2000000000,?_⟩
 generalize hF:2000000000=F
 unfold a2s
 cases decide ((1048576:Int)<(code.length:Int))
 case true=>rfl
 obtain⟨c,s,n,words,most,hw,hc,hd,hnl,hwl,hwa⟩:=c7x F code (by omega)
 have hl:=hd.few
 have hst:=hc.stops.1
 rw [i6,hw,a8]
 dsimp only
 have hlen:(a6v c s n words most).1.length≤1000:=by
  unfold a6v
  split
  ·rename_i hall
   simp only [q8,decide_eq_true_iff] at hall
   obtain⟨⟨ho,hwn,⟨hw1,hw2⟩,hm1,hm2⟩,hwa⟩:=hall
   have:=(c8O (c:=c) n (b8n c words) (a0w ho).2.1 (show 1≤most.toNat∧most.toNat≤16 by omega)).few
   show (b16 c s n (b8n c words) most.toNat).1.length≤1000
   omega
  ·simp
 have hfo:=c73 F _ hlen (by omega)
 rw [c7M F c s n words most hd hc (by omega) (by omega),a8,c7Q F c s n words most hd hc (by omega) (by omega) hwa (by omega),a8,beq_self_eq_true,l7,i6,hfo,a8,l7,i6,a8,j4,a8,a8]
 cases hneg:decide ((a6v c s n words most).2<0) with
 | true=>rfl
 | false=>
 rw [i6]
 have hneg:=of_decide_eq_false hneg
 unfold a6v at hneg hlen ⊢
 split at hneg
 case isFalse=>exact absurd (show (-1:Int)<0 by omega) hneg
 rename_i hall
 rw [if_pos hall] at hlen ⊢
 simp only [q8,decide_eq_true_iff] at hall
 obtain⟨⟨ho,hwn,⟨hw1,hw2⟩,hm1,hm2⟩,hall⟩:=hall
 obtain⟨m,rfl⟩: ∃m:Nat,most=(m:Int):=⟨most.toNat,by omega⟩
 rw [Int.toNat_natCast] at hlen ⊢
 dsimp only at hlen ⊢
 have huq:b8n c words=(words.foldl (a2m c) []).map (Y8 c):=c7T c words []
 have hword: ∀w∈words,D0 w=true:=fun w hw=>List.all_eq_true.1 hall w hw
 have hloop: ∀f:List r4×List q7×Int→Option ((List r4×List q7×Int)⊕List q7),
   (∀(i:Nat) (hi:i<words.length),f ((((words.take i).foldl (a2m c) []).map (Y8 c)),(((words.take i).foldl (a2m c) []).map (c7m n)),(i:Int))=some (.inl ((((words.take (i+1)).foldl (a2m c) []).map (Y8 c)),(((words.take (i+1)).foldl (a2m c) []).map (c7m n)),((i+1:Nat):Int))))→
   (∀a b,f (a,b,(words.length:Int))=some (.inr b))→y2 f F ([],[],0)=some ((words.foldl (a2m c) []).map (c7m n)):=fun f hf h0=>by
  refine c3i (I7 (Post:=fun r:List q7=>r=(words.foldl (a2m c) []).map (c7m n)) (fun i (st:List r4×List q7×Int)=>st=((((words.take i).foldl (a2m c) []).map (Y8 c)),(((words.take i).foldl (a2m c) []).map (c7m n)),(i:Int))) words.length (fun i st hi e=>?_) (fun st e=>?_) words.length 0 ([],[],0) F (by omega) (by omega) rfl)
  ·subst e
   exact .inl ⟨_,hf i hi,rfl⟩
  ·subst e
   refine⟨_,h0 _ _,?_⟩
   rw [List.take_length]
 rw [hloop _ (fun i hi=>?_) (fun a b=>?_),a8,a8]
 ·have hps:=c7K c words []
  rw [huq] at hlen ⊢
  have hkw: ∀w∈words.foldl (a2m c) [],D0 w=true:=fun w hw=>by
   rcases hps.1 w hw with h | h
   ·exact hword w h
   ·cases h
  have hkl:(words.foldl (a2m c) []).length≤4:=by have:=hps.2;simp only [List.length_nil] at this;omega
  generalize words.foldl (a2m c) []=ks at *
  rw [List.length_map]
  by_cases h0:ks.length=0
  ·have:ks=[]:=List.length_eq_zero_iff.1 h0
   subst this
   have hnil:b16 c s n [] m=([],0):=by
    unfold b16
    have: ∀l:List A1,l.foldl (p7 c s n [] m) ([],0)=([],0):=fun l=>by
     induction l with
     | nil=>rfl
     | cons d r ih=>exact ih
    exact this s.Docs
   show _=some true
   rw [List.map_nil,hnil]
   rfl
  ·rw [beq_eq_false_iff_ne.2 (by omega),i6]
   have hget:v8 (ks.map (c7m n)) 0=some (c7m n (ks.headD [])):=by
    cases ks with
    | nil=>exact absurd rfl h0
    | cons w r=>rfl
   have hask:((cond (decide (1<(ks.length:Int))) (some (q7.mk 8 [] [] 0 0 (ks.map (c7m n)))) (some (c7m n (ks.headD [])))):Option q7)=some (c8c n ks):=by
    unfold c8c
    by_cases h:1<ks.length
    ·rw [b8 (by omega),if_pos h];rfl
    ·rw [c6 (by omega),if_neg h];rfl
   rw [hget,a8,hask,a8,a4a F (m:Int) (c8L hwn hkw (by omega) hkl) (by omega) (by omega) (by omega) (by omega),a8,c8Y ho n (by omega) ⟨by omega,by omega⟩,a2r F _ hlen (by omega),a8]
 ·dsimp only
  have hps:=c7K c (words.take i) []
  have hkl:((words.take i).foldl (a2m c) []).length≤10:=by
   have:=hps.2
   rw [List.length_take] at this
   simp only [List.length_nil] at this
   omega
  rw [List.take_succ_eq_append_getElem hi,List.foldl_append]
  generalize (words.take i).foldl (a2m c) []=ks at *
  show _=(some (.inl ((a2m c ks words[i]).map (Y8 c),(a2m c ks words[i]).map (c7m n),((i+1:Nat):Int))):Option ((List r4×List q7×Int)⊕List q7))
  rw [b8 (by omega),j4,T5 hi,a8,a7p F c _ (by omega) (by omega),a8,c9e F _ _ (by rw [List.length_map];omega) (by omega),a8,y5 (by omega)]
  have hcnd:((cond (!(Y8 c words[i]==[])) (some (!(ks.map (Y8 c)).any (· ==Y8 c words[i]))) (some false)):Option Bool)=some (!(Y8 c words[i]==[])&& !(ks.map (Y8 c)).any (· ==Y8 c words[i])):=by
   cases !(Y8 c words[i]==[])<;>rfl
  rw [hcnd,a8]
  unfold a2m
  cases !(Y8 c words[i]==[])&& !(ks.map (Y8 c)).any (· ==Y8 c words[i]) with
  | true=>
   rw [j4,if_pos rfl,H4 (by rw [List.length_map,l8];omega),a8,c86 hi,a8,H4 (by rw [List.length_map,l8];omega),a8,List.map_append,List.map_append]
   rfl
  | false=>rfl
 ·dsimp only
  rw [c6 (by omega)];rfl
end Go.Fk
