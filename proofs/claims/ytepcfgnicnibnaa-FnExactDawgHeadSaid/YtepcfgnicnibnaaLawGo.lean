/-
  The reference goes along a text: the state behind it, and how many words are ahead. Of no program.
-/
import Derived.Test.YtepcfgnicnibnaaLawSpecAll
namespace Go.Fk
open Go
def lessA (c:UInt8)(a:GArc):Bool:=decide (a.Byte<c)
def isA (c:UInt8)(a:GArc):Bool:=a.Byte==c
def goS (d:Sts):Nat→Str→Option (Nat×Nat)
 | i,[]=>some (i,0)
 | i,c::s=>match d[i]? with
  | none=>none
  | some st=>match st.Arcs.find? (isA c) with
   | none=>none
   | some a=>(goS d a.To.toNat s).map fun r=>(r.1,(if st.Final then 1 else 0)+((st.Arcs.filter (lessA c)).flatMap (WA d)).length+r.2)
theorem hasPre_nil (w:Str):hasPre [] w=true:=by simp [hasPre]
theorem hasPre_cons (c b:UInt8)(s w:Str):hasPre (c::s) (b::w)=(b==c&&hasPre s w):=by
 unfold hasPre
 simp only [List.length_cons,List.take_succ_cons,List.cons_beq_cons,Nat.add_le_add_iff_right]
 cases decide (s.length≤w.length)<;>cases b==c<;>rfl
theorem hasPre_app: ∀s w:Str,hasPre s (s++w)=true
 | [],w=>hasPre_nil _
 | c::s,w=>by rw [List.cons_append,hasPre_cons,hasPre_app s w];simp
theorem find_cut {st:GState}{c:UInt8}{a:GArc}(hb:st.Arcs.Pairwise fun a b=>a.Byte<b.Byte)(h:st.Arcs.find? (isA c)=some a):
  ∃pre post,st.Arcs=pre++a::post∧a.Byte=c∧(∀x∈pre,x.Byte<c)∧(∀x∈post,c<x.Byte)∧st.Arcs.filter (lessA c)=pre:=by
 obtain⟨h1,pre,post,he,_⟩:=List.find?_eq_some_iff_append.1 h
 have ha:a.Byte=c:=by simpa [isA] using h1
 rw [he] at hb
 obtain⟨_,hb2,hb3⟩:=List.pairwise_append.1 hb
 have hp: ∀x∈pre,x.Byte<c:=fun x hx=>by rw [←ha];exact hb3 x hx a (by simp)
 have hq: ∀x∈post,c<x.Byte:=fun x hx=>by rw [←ha];exact(List.pairwise_cons.1 hb2).1 x hx
 refine⟨pre,post,he,ha,hp,hq,?_⟩
 rw [he,List.filter_append,List.filter_eq_self.2 (fun x hx=>by unfold lessA;exact decide_eq_true (hp x hx)),List.filter_eq_nil_iff.2 ?_,List.append_nil]
 intro x hx
 unfold lessA
 rw [decide_eq_true_iff]
 intro hlt
 rcases List.mem_cons.1 hx with rfl | hx
 ·rw [ha] at hlt;exact absurd hlt (by simp)
 ·have h1:=UInt8.lt_iff_toNat_lt.1 (hq x hx)
  have h2:=UInt8.lt_iff_toNat_lt.1 hlt
  omega
theorem pre_other {d:Sts}{c:UInt8}{s:Str}{l:List GArc}(h: ∀x∈l,x.Byte≠c): ∀w∈l.flatMap (WA d),hasPre (c::s) w=false:=fun w hw=>by
 obtain⟨x,hx,hw⟩:=List.mem_flatMap.1 hw
 obtain⟨v,_,rfl⟩:=List.mem_map.1 hw
 rw [hasPre_cons,beq_eq_false_iff_ne.2 (h x hx)];rfl
theorem go_none {d:Sts}(hg:Good d): ∀(s:Str) (i:Nat),i<d.length→goS d i s=none→∀w∈W d i,hasPre s w=false
 | [],i,_,h=>by simp [goS] at h
 | c::s,i,hi,h=>by
  intro w hw
  have hx:d[i]? =some d[i]:=List.getElem?_eq_getElem hi
  rw [W_at hg.down hx,stW] at hw
  unfold goS at h
  rw [hx] at h
  simp only at h
  rcases List.mem_append.1 hw with hw | hw
  ·cases hf:d[i].Final<;>rw [hf] at hw<;>simp at hw
   subst hw;rfl
  ·cases hfi:d[i].Arcs.find? (isA c) with
   | none=>
    rw [List.find?_eq_none] at hfi
    exact pre_other (fun x hx2 e=>by have:=hfi x hx2;simp [isA,e] at this) w hw
   | some a=>
    rw [hfi] at h
    simp only [Option.map_eq_none_iff] at h
    obtain⟨pre,post,he,ha,hp,hq,_⟩:=find_cut (hg.bytes i _ hx) hfi
    have hdn:=hg.down i _ hx a (by rw [he];simp)
    have ih:=go_none hg s a.To.toNat (by omega) h
    rw [he,List.flatMap_append,List.flatMap_cons] at hw
    rcases List.mem_append.1 hw with hw | hw
    ·exact pre_other (fun x hx2 e=>by have:=hp x hx2;rw [e] at this;exact absurd this (by simp)) w hw
    ·rcases List.mem_append.1 hw with hw | hw
     ·obtain⟨v,hv,rfl⟩:=List.mem_map.1 hw
      rw [hasPre_cons,ih v hv,Bool.and_false]
     ·exact pre_other (fun x hx2 e=>by have:=hq x hx2;rw [e] at this;exact absurd this (by simp)) w hw
theorem go_some {d:Sts}(hg:Good d): ∀(s:Str) (i x n:Nat),i<d.length→goS d i s=some (x,n)→
  x<d.length∧∃A B,W d i=A++(W d x).map (s++ ·)++B∧A.length=n∧(∀w∈A,hasPre s w=false)∧∀w∈B,hasPre s w=false
 | [],i,x,n,hi,h=>by
  simp only [goS,Option.some.injEq,Prod.mk.injEq] at h
  obtain⟨rfl,rfl⟩:=h
  exact⟨hi,[],[],by rw [map_nil_app];simp,rfl,by simp,by simp⟩
 | c::s,i,x,n,hi,h=>by
  have hx:d[i]? =some d[i]:=List.getElem?_eq_getElem hi
  unfold goS at h
  rw [hx] at h
  simp only at h
  cases hfi:d[i].Arcs.find? (isA c) with
  | none=>rw [hfi] at h;cases h
  | some a=>
   rw [hfi] at h
   simp only [Option.map_eq_some_iff] at h
   obtain⟨⟨x',n'⟩,hr,he2⟩:=h
   simp only [Prod.mk.injEq] at he2
   obtain⟨rfl,rfl⟩:=he2
   obtain⟨pre,post,he,ha,hp,hq,hfl⟩:=find_cut (hg.bytes i _ hx) hfi
   have hdn:=hg.down i _ hx a (by rw [he];simp)
   obtain⟨h1,A,B,h2,h3,h4,h5⟩:=go_some hg s a.To.toNat x' n' (by omega) hr
   refine⟨h1,(if d[i].Final then [[]] else [])++pre.flatMap (WA d)++A.map (c:: ·),B.map (c:: ·)++post.flatMap (WA d),?_,?_,?_,?_⟩
   ·rw [W_at hg.down hx,stW,he,List.flatMap_append,List.flatMap_cons]
    have:WA d a=A.map (c:: ·)++(W d x').map ((c::s)++ ·)++B.map (c:: ·):=by
     unfold WA
     rw [h2,ha,List.map_append,List.map_append,List.map_map]
     rfl
    rw [this]
    simp only [List.append_assoc]
   ·rw [hfl,←h3]
    cases d[i].Final<;>simp <;>omega
   ·intro w hw
    rcases List.mem_append.1 hw with hw | hw
    ·rcases List.mem_append.1 hw with hw | hw
     ·cases hf:d[i].Final<;>rw [hf] at hw<;>simp at hw
      subst hw;rfl
     ·exact pre_other (fun x hx2 e=>by have:=hp x hx2;rw [e] at this;exact absurd this (by simp)) w hw
    ·obtain⟨v,hv,rfl⟩:=List.mem_map.1 hw
     rw [hasPre_cons,h4 v hv,Bool.and_false]
   ·intro w hw
    rcases List.mem_append.1 hw with hw | hw
    ·obtain⟨v,hv,rfl⟩:=List.mem_map.1 hw
     rw [hasPre_cons,h5 v hv,Bool.and_false]
    ·exact pre_other (fun x hx2 e=>by have:=hq x hx2;rw [e] at this;exact absurd this (by simp)) w hw
theorem go_filter {d:Sts}(hg:Good d){s:Str}{i x n:Nat}(hi:i<d.length)(h:goS d i s=some (x,n)):(W d i).filter (hasPre s)=(W d x).map (s++ ·):=by
 obtain⟨_,A,B,h2,_,h4,h5⟩:=go_some hg s i x n hi h
 have fA:A.filter (hasPre s)=[]:=List.filter_eq_nil_iff.2 (fun w hw=>by rw [h4 w hw];simp)
 have fB:B.filter (hasPre s)=[]:=List.filter_eq_nil_iff.2 (fun w hw=>by rw [h5 w hw];simp)
 rw [h2,List.filter_append,List.filter_append,fA,fB,List.nil_append,List.append_nil,List.filter_eq_self]
 intro w hw
 obtain⟨v,_,rfl⟩:=List.mem_map.1 hw
 exact hasPre_app s v
theorem arcs_go {d:Sts}{st:GState}{c:UInt8}{a0:Int}{f:Int×Int×Int→Option ((Int×Int×Int)⊕(Int×Int))}(hb:st.Arcs.Pairwise fun a b=>a.Byte<b.Byte)(hT: ∀a∈st.Arcs,0≤a.To)
  (h0:0≤a0)(hbig:a0+((st.Arcs.flatMap (WA d)).length:Int)≤1000000)
  (h1: ∀(k:Nat) a ah,st.Arcs[k]? =some a→0≤ah→ah+((WA d a).length:Int)≤1000000→f (ah, -1,(k:Int))=some (.inl (if isA c a then (ah,a.To,((k+1:Nat):Int)) else if lessA c a then (ah+((WA d a).length:Int), -1,((k+1:Nat):Int)) else (ah, -1,((k+1:Nat):Int)))))
  (h2: ∀(k:Nat) ah t,k≤st.Arcs.length→0≤t→f (ah,t,(k:Int))=some (.inr (ah,t)))
  (h3: ∀ah,f (ah, -1,(st.Arcs.length:Int))=some (.inr (ah, -1)))(F:Nat)(hF:st.Arcs.length+1<F):
  whileM f F (a0, -1,0)=some (match st.Arcs.find? (isA c) with
   | some a=>(a0+(((st.Arcs.filter (lessA c)).flatMap (WA d)).length:Int),a.To)
   | none=>(a0+(((st.Arcs.filter (lessA c)).flatMap (WA d)).length:Int), -1)):=by
 have gen: ∀(rest done:List GArc) (F:Nat) (ah:Int),st.Arcs=done++rest→rest.length+1<F→(∀x∈done,isA c x=false)→ah=a0+(((done.filter (lessA c)).flatMap (WA d)).length:Int)→
   whileM f F (ah, -1,(done.length:Int))=some (match rest.find? (isA c) with
    | some a=>(a0+(((st.Arcs.filter (lessA c)).flatMap (WA d)).length:Int),a.To)
    | none=>(a0+(((st.Arcs.filter (lessA c)).flatMap (WA d)).length:Int), -1)):=by
  intro rest
  induction rest with
  | nil=>
   intro done F ah he hF _ hah
   obtain⟨F,rfl⟩: ∃G,F=G+1:=⟨F-1,by omega⟩
   rw [List.append_nil] at he
   rw [whileM,←he,h3,hah,←he]
   rfl
  | cons a rest ih=>
   intro done F ah he hF hn hah
   simp only [List.length_cons] at hF
   obtain⟨F,rfl⟩: ∃G,F=G+1:=⟨F-1,by omega⟩
   have hat:st.Arcs[done.length]? =some a:=by rw [he];simp
   have hlen:st.Arcs.length=done.length+(rest.length+1):=by rw [he];simp
   have hsub:(((done.filter (lessA c)).flatMap (WA d)).length:Int)+((WA d a).length:Int)≤((st.Arcs.flatMap (WA d)).length:Int):=by
    have h5:((done.filter (lessA c)).flatMap (WA d)).length≤(done.flatMap (WA d)).length:=by
     clear he hat hlen hn hah hF ih
     induction done with
     | nil=>simp
     | cons x done ih2=>
      rw [List.filter_cons,List.flatMap_cons]
      split
      ·rw [List.flatMap_cons];simp only [List.length_append];omega
      ·simp only [List.length_append];omega
    rw [he,List.flatMap_append,List.flatMap_cons]
    simp only [List.length_append];omega
   rw [whileM,h1 done.length a ah hat (by omega) (by omega)]
   simp only [Option.bind_some,Sum.elim_inl]
   cases hi:isA c a with
   | true=>
    simp only [if_true,List.find?_cons,hi]
    obtain⟨F,rfl⟩: ∃G,F=G+1:=⟨F-1,by omega⟩
    rw [whileM,h2 (done.length+1) ah a.To (by omega) (hT a (by rw [he];simp))]
    simp only [Option.bind_some,Sum.elim_inr]
    have hall:st.Arcs.filter (lessA c)=done.filter (lessA c):=by
     have fr:(a::rest).filter (lessA c)=[]:=List.filter_eq_nil_iff.2 ?_
     ·rw [he,List.filter_append,fr,List.append_nil]
     intro x hx
     have hac:a.Byte=c:=by simpa [isA] using hi
     unfold lessA
     rw [decide_eq_true_iff]
     intro hlt
     rcases List.mem_cons.1 hx with rfl | hx
     ·rw [hac] at hlt;exact absurd hlt (by simp)
     ·rw [he] at hb
      have h6:=(List.pairwise_cons.1 (List.pairwise_append.1 hb).2.1).1 x hx
      rw [hac] at h6
      have h7:=UInt8.lt_iff_toNat_lt.1 h6
      have h8:=UInt8.lt_iff_toNat_lt.1 hlt
      omega
    rw [hall,hah]
   | false=>
    simp only [Bool.false_eq_true,if_false,List.find?_cons,hi]
    have hd1:done.length+1=(done++[a]).length:=by simp
    have hn': ∀x∈done++[a],isA c x=false:=fun x hx=>by
     rcases List.mem_append.1 hx with h | h
     ·exact hn x h
     ·rw [List.mem_singleton.1 h];exact hi
    cases hl:lessA c a with
    | true=>
     simp only [if_true]
     rw [hd1,ih (done++[a]) F _ (by rw [he];simp) (by omega) hn' (by rw [hah,List.filter_append,List.flatMap_append,List.length_append];simp [hl];omega)]
    | false=>
     simp only [Bool.false_eq_true,if_false]
     rw [hd1,ih (done++[a]) F _ (by rw [he];simp) (by omega) hn' (by rw [hah,List.filter_append,List.flatMap_append,List.length_append];simp [hl])]
 exact gen st.Arcs [] F a0 rfl hF (by simp) (by simp)
theorem go_while {d:Sts}{s:Str}{f:Int×Int×Int→Option ((Int×Int×Int)⊕((Int×Int)⊕(Int×Int)))}(hg:Good d)
  (h1: ∀(at_ i:Nat) st c (ah:Int),d[at_]? =some st→s[i]? =some c→0≤ah→ah+((W d at_).length:Int)≤100000→f ((at_:Int),ah,(i:Int))=some (match st.Arcs.find? (isA c) with
   | some a=>.inl (a.To,ah+(if st.Final then 1 else 0)+(((st.Arcs.filter (lessA c)).flatMap (WA d)).length:Int),((i+1:Nat):Int))
   | none=>.inr (.inr (-1,0))))
  (h2: ∀(at_:Nat) (ah:Int),f ((at_:Int),ah,(s.length:Int))=some (.inr (.inl ((at_:Int),ah)))):
  ∀(rem:Str) (i at_:Nat) (ah:Int) (F:Nat),s.drop i=rem→i≤s.length→at_<d.length→0≤ah→ah+((W d at_).length:Int)≤100000→rem.length<F→
   whileM f F ((at_:Int),ah,(i:Int))=some (match goS d at_ rem with | some (x,n)=>.inl ((x:Int),ah+(n:Int)) | none=>.inr (-1,0))
 | [],i,at_,ah,F,hr,hi,hat,_,_,hF=>by
  obtain⟨F,rfl⟩: ∃G,F=G+1:=⟨F-1,by omega⟩
  have hl:s.length=i:=by have:=List.drop_eq_nil_iff.1 hr;omega
  rw [whileM,←hl,h2]
  simp [goS]
 | c::rem,i,at_,ah,F,hr,hi,hat,ha0,ha1,hF=>by
  simp only [List.length_cons] at hF
  obtain⟨F,rfl⟩: ∃G,F=G+1:=⟨F-1,by omega⟩
  obtain⟨hc,hr2,hlt⟩:=drop_head hr
  have hx:d[at_]? =some d[at_]:=List.getElem?_eq_getElem hat
  have hW:=W_at hg.down hx
  rw [whileM,h1 at_ i _ c ah hx hc ha0 ha1]
  unfold goS
  rw [hx]
  simp only
  cases hfi:d[at_].Arcs.find? (isA c) with
  | none=>rfl
  | some a=>
   simp only [Option.bind_some,Sum.elim_inl]
   obtain⟨pre,post,he,hac,hp,hq,hfl⟩:=find_cut (hg.bytes at_ _ hx) hfi
   have hdn:=hg.down at_ _ hx a (by rw [he];simp)
   have e:a.To=((a.To.toNat:Nat):Int):=by omega
   have hwl:(WA d a).length=(W d a.To.toNat).length:=by simp [WA]
   rw [hW,stW,he,List.flatMap_append,List.flatMap_cons] at ha1
   simp only [List.length_append] at ha1
   rw [hfl]
   have hfin:(((if d[at_].Final=true then ([[]]:List Str) else []).length:Int))=if d[at_].Final=true then 1 else 0:=by split<;>rfl
   have hfin0:(0:Int)≤if d[at_].Final=true then 1 else 0:=by split<;>omega
   have hfin1:((if d[at_].Final=true then 1 else 0:Nat):Int)=if d[at_].Final=true then 1 else 0:=by split<;>rfl
   generalize hfv:(if d[at_].Final=true then (1:Int) else 0)=fv at *
   rw [e,go_while hg h1 h2 rem (i+1) a.To.toNat _ F hr2 (by omega) (by omega) (by omega) (by omega) (by omega),Int.toNat_natCast]
   cases goS d a.To.toNat rem with
   | none=>rfl
   | some r=>
    simp only [Option.map_some]
    congr 2
    congr 1
    omega
theorem spec_go (F:Nat)(d:Sts)(ws:List Str)(s:Str)(h:IsDawg d ws)(hF:d.length+s.length+1000<F)(hl:d.length≤1048576)(hs:s.length≤1048576):
  M.spec_l4Go F d s=some (match goS d (d.length-1) s with | some (x,n)=>((x:Int),(n:Int)) | none=>(-1,0)):=by
 have h0:=h.pos
 have hg:=h.good
 unfold M.spec_l4Go
 rw [w64_pred (by omega) (by omega)]
 have hgo:=fun f h1 h2=>go_while (d:=d) (s:=s) (f:=f) hg h1 h2 s 0 (d.length-1) 0 F (by simp) (by omega) (by omega) (Int.le_refl 0) (by rw [h.words];have:=h.few;omega) (by omega)
 generalize hf:(fun (s16:Int×Int×Int)=>_:Int×Int×Int→Option ((Int×Int×Int)⊕((Int×Int)⊕(Int×Int))))=f
 have hrun:whileM f F (((d.length-1:Nat):Int),(0:Int),(0:Int))=_:=hgo f (fun at_ i st c ah hx hc ha0 ha1=>by
  subst hf
  dsimp only
  have hi:=(List.getElem?_eq_some_iff.1 hc).1
  have hW:=W_at hg.down hx
  have har:=h.arcs hx
  have hdn:=hg.down at_ st hx
  have hat:=(List.getElem?_eq_some_iff.1 hx).1
  have hfin:(cond st.Final (some (w64 (ah+(1:Int)))) (some ah):Option Int)=some (ah+if st.Final then 1 else 0):=by
   cases st.Final
   ·simp
   ·rw [cond_true,w64_of ⟨by omega,by omega⟩];rfl
  rw [decide_eq_true (by omega),cond_true,getI_n,hx,Option.bind_some,hfin,Option.bind_some]
  rw [hW,stW,List.length_append] at ha1
  have hfl:(((if st.Final=true then ([[]]:List Str) else []).length:Int))=if st.Final=true then 1 else 0:=by split<;>rfl
  have hf0:(0:Int)≤if st.Final=true then 1 else 0:=by split<;>omega
  generalize hfv:(if st.Final=true then (1:Int) else 0)=fv at *
  rw [arcs_go (d:=d) (st:=st) (c:=c) (a0:=ah+fv) (hg.bytes at_ st hx) (fun a ha=>(hdn a ha).1) (by omega) (by omega) ?_ ?_ ?_ F (by omega)]
  ·cases hfi:st.Arcs.find? (isA c) with
   | none=>simp only [Option.bind_some];rfl
   | some a=>
    have ha:=(hdn a (List.mem_of_find?_eq_some hfi)).1
    simp only [Option.bind_some]
    rw [decide_eq_false (by omega),cond_false,w64_succ' (by omega)]
  ·intro k a ah2 hk ha2 hb2
   have hk':=(List.getElem?_eq_some_iff.1 hk).1
   have hda:=hdn a (List.mem_of_getElem? hk)
   dsimp only
   rw [Option.bind_some,decide_eq_true (by omega),cond_true,decide_eq_true (by omega),Option.bind_some,cond_true,Option.bind_some,getI_n,hk,Option.bind_some,getI_n,hc,Option.bind_some,w64_succ' (by omega)]
   unfold isA lessA
   cases a.Byte==c with
   | true=>rfl
   | false=>
    rw [cond_false,Option.bind_some]
    cases decide (a.Byte<c) with
    | false=>rfl
    | true=>
     have hto:d[a.To.toNat]? =some (d[a.To.toNat]'(by omega)):=List.getElem?_eq_getElem (by omega)
     have hm:=hg.many _ _ hto
     have hwl:(WA d a).length=(W d a.To.toNat).length:=by simp [WA]
     rw [cond_true,getI_pos hda.1,hto,Option.bind_some,hm,←hwl,w64_of ⟨by omega,by omega⟩]
     rfl
  ·intro k ah2 t hk ht
   dsimp only
   rw [Option.bind_some]
   by_cases hk2:k<st.Arcs.length
   ·rw [decide_eq_true (by omega),cond_true,Option.bind_some,decide_eq_false (by omega)];rfl
   ·rw [decide_eq_false (by omega)];rfl
  ·intro ah2
   dsimp only
   rw [Option.bind_some,decide_eq_false (by omega)];rfl) (fun at_ ah=>by
  subst hf
  dsimp only
  rw [decide_eq_false (by omega)];rfl)
 rw [hrun]
 cases goS d (d.length-1) s with
 | none=>rfl
 | some r=>simp only [Option.bind_some,Sum.elim_inl,Int.zero_add]
end Go.Fk
