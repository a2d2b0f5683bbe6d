/-
  Indexes: sizes, copies, sameness. Of no program.
-/
import Derived.Test.YtpjefkdclnmlfaaGreatLawExactA
set_option linter.unusedVariables false
namespace Go.Fk
open Go
def LiveLen (l:GLive):Prop:=SegLen l.Seg∧l.Dead.length≤maxLen
def LiveBig (l:GLive):Prop:=SegBig l.Seg∧l.Dead.length≤1048576
def IndexLen (x:GIndex):Prop:=ConfLen x.Conf∧x.Segs.length≤maxLen∧∀l∈x.Segs,LiveLen l
def IndexBig (x:GIndex):Prop:=ConfBig x.Conf∧x.Segs.length≤1048576∧∀l∈x.Segs,LiveBig l
theorem index_lens {K:KMap}{a b e:Option Addr}{n c m d k f:Nat}{x:GIndex}(h1:SliceAt tStr K a n c x.Conf.Stops)(h2:SliceAt tGSyn K b m d x.Conf.Syns)(h3:SliceAt tGLive K e k f x.Segs):IndexLen x:=
 ⟨conf_lens h1 h2,h3.max,fun l hl=>by
  obtain⟨u,a1,n1,c1,a2,n2,c2,a3,n3,c3,_,k1,k2,k3⟩:=h3.all l hl
  exact⟨seg_lens k1 k2,k3.max⟩⟩
theorem szLive (F:Nat)(x:GLive)(left:Int)(h0:0≤left)(h1:left≤1048576)(hF:2000000<F)(hl:LiveLen x):Sz (LiveBig x) left (M.laws_szLive F x left):=by
 unfold M.laws_szLive
 exact sz_then (szSeg F x.Seg left h0 h1 hF hl.1) fun r r0 r1 _=>(sz_keep (sz_str (left:=r) r0 (by omega) hl.2)).le r1
theorem szLives (F:Nat)(xs:List GLive)(left:Int)(h0:0≤left)(h1:left≤1048576)(hF:2000000<F)(hl:xs.length≤maxLen∧∀s∈xs,LiveLen s):Sz (xs.length≤1048576∧∀s∈xs,LiveBig s) left (M.laws_szLiveS F xs left):=by
 unfold M.laws_szLiveS
 refine sz_gen LiveBig F (by omega) h0 h1 hl.1 (fun i x l hi hxl hx l0 l1=>?_) fun l=>?_
 ·rw [decide_eq_true (by omega),cond_true,getI_nat',hx,Option.bind_some,w64_succ' (by omega)]
  exact sz_elem (szLive F x l l0 l1 hF (hl.2 x (List.mem_of_getElem? hx)))
 ·rw [decide_eq_false (by omega)];rfl
theorem szIndex (F:Nat)(x:GIndex)(left:Int)(h0:0≤left)(h1:left≤1048576)(hF:2000000<F)(hl:IndexLen x):Sz (IndexBig x) left (M.laws_szIndex F x left):=by
 unfold M.laws_szIndex
 exact sz_then (szConf F x.Conf left h0 h1 hF hl.1) fun r r0 r1 _=>(sz_keep (szLives F x.Segs r r0 (by omega) hF hl.2)).le r1
theorem toLive (F:Nat)(x:GLive)(hF:2000000<F)(h:LiveBig x):M.laws_toLive F x=some x:=by
 unfold M.laws_toLive
 rw [toSeg F x.Seg hF h.1,Option.bind_some,toInts F x.Dead hF h.2];rfl
theorem toLives (F:Nat)(xs:List GLive)(hF:2000000<F)(hl:xs.length≤1048576∧∀s∈xs,LiveBig s):M.laws_toLiveS F xs=some xs:=by
 unfold M.laws_toLiveS
 refine to_gen F (by omega) (by omega) hl.1 (fun i x s hx hi=>?_) fun s=>?_
 ·have hix:=(List.getElem?_eq_some_iff.1 hx).1
  have hle:=hl.1
  rw [decide_eq_true (by omega),cond_true,getI_nat',hx,Option.bind_some,toLive F x hF (hl.2 x (List.mem_of_getElem? hx)),Option.bind_some,getI_nat',List.getElem?_eq_getElem hi,Option.bind_some,w64_succ' (by omega),Int.toNat_natCast]
 ·rw [decide_eq_false (by omega)];rfl
theorem toIndex (F:Nat)(x:GIndex)(hF:2000000<F)(h:IndexBig x):M.laws_toIndex F x=some x:=by
 unfold M.laws_toIndex
 rw [toConf F x.Conf hF h.1,Option.bind_some,toLives F x.Segs hF h.2];rfl
theorem eqLive (F:Nat)(x:GLive)(hF:2000000<F)(h:LiveBig x):M.laws_eqLive F x x=some true:=by
 unfold M.laws_eqLive
 rw [eqSeg F x.Seg hF h.1,Option.bind_some,eqInts F x.Dead hF h.2];rfl
theorem eqLives (F:Nat)(xs:List GLive)(hF:2000000<F)(hl:xs.length≤1048576∧∀s∈xs,LiveBig s):M.laws_eqLiveS F xs xs=some true:=by
 have hle:=hl.1
 unfold M.laws_eqLiveS
 rw [beq_self_eq_true,Bool.not_true,cond_false,clean0' (n:=xs.length) F (by omega) (fun i hi=>?_) ?_]
 ·rfl
 ·rw [decide_eq_false (by omega)];rfl
 ·rw [decide_eq_true (by omega),cond_true,getI_at hi,Option.bind_some,Option.bind_some,eqLive F _ hF (hl.2 _ (List.getElem_mem hi)),Option.bind_some,w64_succ' (by omega)]
  rfl
theorem eqIndex (F:Nat)(x:GIndex)(hF:2000000<F)(h:IndexBig x):M.laws_eqIndex F x x=some true:=by
 unfold M.laws_eqIndex
 rw [eqConf F x.Conf hF h.1,Option.bind_some,eqLives F x.Segs hF h.2];rfl
end Go.Fk
