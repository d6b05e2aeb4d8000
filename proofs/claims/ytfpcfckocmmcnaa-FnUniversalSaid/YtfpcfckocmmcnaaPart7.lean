/- Coset enumeration: the table filled while cosets are numbered. No program in sight. -/
import Derived.Test.YtfpcfckocmmcnaaPart6
import Derived.Maps.OwnSet
import Derived.Maps.Views
import Derived.Test.YtfpcfckocmmcnaaPart1
import Derived.Test.YtfpcfckocmmcnaaPart3
import Derived.Test.YtfpcfckocmmcnaaPart4
import Derived.Test.YtfpcfckocmmcnaaProg
set_option maxRecDepth 100000
set_option maxHeartbeats 6400000
namespace Go.Proofs.Ytfpcfckocmmcnaa
def gH (ng:Nat) (im:List (List Int)) (less:List Int) (s:jR) (i g:Nat):List (List Int):=(List.range ng).map fun g'=>(List.range (if g' < g then i + 1 else i)).map (iV im less s g')
def iQ (ng:Nat) (im:List (List Int)) (less:List Int) (s:jR) (i g:Nat):Prop:=∀k g',g' < ng→(k < i∨(k=i∧g' < g))→k < s.1.length∧0≤iV im less s g' k
section
variable {ng:Nat} {im:List (List Int)} {less:List Int} {s s':jR} {i g:Nat}
theorem Dm:(gH ng im less s i g).length=ng:=by simp [gH]
theorem Be:gH ng im less s 0 0=List.replicate ng []:=by
 refine List.ext_getElem (by simp [gH]) fun k h1 h2=> ?_
 simp [gH]
theorem CF (hg:g < ng):aT (gH ng im less s i g) g=(List.range i).map (iV im less s g):=by
 simp [gH,aT,hg]
theorem BU:gH ng im less s i ng=gH ng im less s (i + 1) 0:=by
 unfold gH
 refine List.map_congr_left fun g' hg'=> ?_
 rw [if_pos (List.mem_range.1 hg'),if_neg ab]
theorem tA (h:iR s s') {k g':Nat} (hk:k < s.1.length) (h0:0≤iV im less s g' k):iV im less s' g' k=iV im less s g' k:=by
 unfold iV at h0 ⊢
 rw [h.pre k hk,h.num _ h0]
theorem BL (h:iR s s') (hs:iQ ng im less s i g):gH ng im less s i g=gH ng im less s' i g:=by
 unfold gH
 refine List.map_congr_left fun g' hg'=> ?_
 refine List.map_congr_left fun k hk=> ?_
 have hg':=List.mem_range.1 hg'
 have hk:=List.mem_range.1 hk
 have:=hs k g' hg' (by
  split at hk
  ·rename_i e
   by_cases e2:k < i
   ·exact .inl e2
   ·exact .inr ⟨ab,e⟩
  ·exact .inl hk)
 exact (tA h this.1 this.2).symm
theorem CQ (hg:g < ng):(gH ng im less s i g).set g ((List.range i).map (iV im less s g) ++ [iV im less s g i])=gH ng im less s i (g + 1):=by
 refine List.ext_getElem (by simp [gH]) fun k h1 h2=> ?_
 simp only [gH,List.length_map,List.length_range] at h2
 rw [List.getElem_set]
 simp only [gH,List.getElem_map,List.getElem_range]
 by_cases e:g=k
 ·subst e
  rw [if_pos rfl,if_pos ab,List.range_succ,List.map_append];rfl
 ·rw [if_neg e]
  by_cases e2:k < g
  ·rw [if_pos e2,if_pos ab]
  ·rw [if_neg e2,if_neg ab]
theorem iQ.grow (h:iR s s') (hs:iQ ng im less s i g):iQ ng im less s' i g:=fun k g' hg' hk=>by
 obtain ⟨h1,h2⟩:=hs k g' hg' hk
 exact ⟨Nat.lt_of_lt_of_le h1 h.len,by rw [tA h h1 h2];exact h2⟩
theorem iQ.next (hs:iQ ng im less s i ng):iQ ng im less s (i + 1) 0:=fun k g' hg' hk=>hs k g' hg' ab
theorem iQ.zero:iQ ng im less s 0 0:=fun k g' _ hk=>by omega
theorem qE {d e:Nat} (hi:i < s.1.length) (hd:aD s.1 i=(d:Int)) (he:image im less d g=(e:Int)):iV im less (visit s e) g i=aD (visit s e).2 e:=by
 unfold iV
 rw [(jA s e).pre i hi,hd,Int.toNat_natCast,he,Int.toNat_natCast]
theorem iQ.visit {d e:Nat} (hF:p7 less.length less s) (hi:i < s.1.length) (hd:aD s.1 i=(d:Int)) (he:image im less d g=(e:Int)) (hel:e < less.length) (hs:iQ ng im less s i g):iQ ng im less (visit s e) i (g + 1):=fun k g' hg' hk=>by
 by_cases e1:k=i∧g'=g
 ·obtain ⟨rfl,rfl⟩:=e1
  exact ⟨Nat.lt_of_lt_of_le hi (jA s e).len,by rw [qE hi hd he];exact uw hF hel⟩
 ·exact hs.grow (jA s e) k g' hg' ab
theorem Cc (h:cq ng im less=s):gH ng im less s s.1.length 0=dv ng im less:=by
 subst h
 rw [r8]
 unfold gH
 refine List.map_congr_left fun g' _=> ?_
 rw [if_neg ab]
end
def fN (M:List Int) (z:Int):Option Int:=if 0≤z∧z < M.length∧0≤aD M z.toNat then some (aD M z.toNat) else none
theorem Dv {M:List Int} {e:Nat} {v:Int} (he:e < M.length) (hv:0≤v):(fun z=>if z=(e:Int) then some v else fN M z)=fN (M.set e v):=by
 funext z
 have h1:aD (M.set e v) e=v:=by rw [cO,if_pos ⟨rfl,he⟩]
 unfold fN
 rw [List.length_set]
 by_cases h:z=(e:Int)
 ·subst h
  rw [if_pos rfl,Int.toNat_natCast,h1,if_pos ⟨ab,ab,hv⟩]
 ·rw [if_neg h]
  by_cases h0:0≤z
  ·have h2:aD (M.set e v) z.toNat=aD M z.toNat:=by rw [cO,if_neg ab]
   rw [h2]
  ·rw [if_neg (fun hh=>h0 hh.1),if_neg (fun hh=>h0 hh.1)]
theorem FT (n:Nat):fN (List.replicate n (-1))=fun _=>none:=by
 funext z
 unfold fN
 rw [if_neg]
 rintro ⟨h1,h2,h3⟩
 rw [fl (by simp at h2;omega)] at h3
 omega
theorem DU {n:Nat} (h:0 < n):(fun z:Int=>if z=0 then some (0:Int) else none)=fN (ez n).2:=by
 show _=fN ((List.replicate n (-1)).set 0 0)
 rw [←Dv (by simpa using h) (Int.le_refl 0),FT]
 rfl
theorem EW {M:List Int} {e:Nat} (he:e < M.length):(fN M (e:Int)).isSome=decide (0≤aD M e)∧(0≤aD M e→(fN M (e:Int)).getD 0=aD M e):=by
 unfold fN
 rw [Int.toNat_natCast]
 by_cases h:0≤aD M e
 ·rw [if_pos ⟨ab,ab,h⟩];simp [h]
 ·rw [if_neg (fun hh=>h hh.2.2)];simp [h]
end Go.Proofs.Ytfpcfckocmmcnaa
namespace Go.Proofs.Ytfpcfckocmmcnaa
open Go.RowKit
section
variable {P:Program} {nt:Nat} {S S1 S2:St} {w0 w wB:World} {ω0:lI} {ω ωB:bW} {η:Env} {a:Act} {Q:Exit→Act→World→Prop} {ops:Array Oper} {rest:List Oper}
variable {t:Nat} {ty:TypeId} {ps:String} {af:Array Edge} {gd:Option (Nat×Bool)} {x y:Operand} {av:AV} {o:Oper}
theorem lQ.off {own:Bool} {ow:Nm×Option Nat} {h:Hd} {E:TypeId} {len:Nat} {cell cell':Nat→Value→Prop} {b:Nat} {w':World} (hb:∀o,w.cell? ⟨b,o,none⟩=none) (hn:ω b=none) (hs:∀b',b' < w.heap.size→b'≠b→w'.heap[b']? =w.heap[b']?) (hsz:w.heap.size≤w'.heap.size)
  (hc:∀j u,cell j u→cell' j u) (hv:lQ own ω w ow h E len cell):lQ own ω w' ow h E len cell':=by
 cases own with
 | true=>
  rcases hv with h0 | ⟨b0,o,cs,h1,h2,h3,h4,h5,h6,h7⟩
  ·exact .inl h0
  ·have hne:b0≠b:=fun e=>by rw [e,hn] at h2;cases h2
   refine .inr ⟨b0,o,cs,h1,h2,(hs b0 (ff h3) hne).trans h3,h4,h5,h6,fun j hj=> ?_⟩
   obtain ⟨u,hu,hcu⟩:=h7 j hj
   exact ⟨u,hu,hc j u hcu⟩
 | false=>
  refine ⟨hv.1,fun j hj=> ?_⟩
  obtain ⟨b0,o,u,h1,h2,h3,h4,h5⟩:=hv.2 j hj
  have hne:b0≠b:=fun e=>by rw [e,hb] at h4;cases h4
  exact ⟨b0,o,u,h1,h2,Nat.lt_of_lt_of_le h3 hsz,(World.cell?_of_block (hs b0 h3 hne)).trans h4,hc j u h5⟩
theorem Mem.off {b:Nat} {w':World} {ch:Nm→Option Ch} (hb:∀o,w.cell? ⟨b,o,none⟩=none) (hn:ω b=none) (hs:∀b',b' < w.heap.size→b'≠b→w'.heap[b']? =w.heap[b']?) (hsz:w.heap.size≤w'.heap.size) (hm:Mem η ω w ch):Mem η ω w' ch:=by
 refine ⟨fun x c hx=> ?_,hm.2⟩
 obtain ⟨h,h1,h2,h3⟩:=hm.1 x c hx
 refine ⟨h,h1,h2,h3.off hb hn hs hsz fun j u hu=> ?_⟩
 cases hd:c.d with
 | flat l=>rw [hd] at hu;exact hu
 | cz vs=>rw [hd] at hu;exact hu
 | rows E vss dL=>
  rw [hd] at hu
  exact ⟨hu.1,fun hj vs hvs=>have ⟨k1,k2,k3⟩:=hu.2 hj vs hvs;⟨k1,k2,k3.off hb hn hs hsz fun _ _ h=>h⟩⟩
 | mix cs=>rw [hd] at hu;exact ⟨hu.1,fun c hc=>(hu.2 c hc).move rfl fun _ _ _ _ _ h3=>h3.off hb hn hs hsz fun _ _ h=>h⟩
structure pJ (P:Program) (k e:TypeId) (b:Nat) (ω:bW) (w:World) (f:Int→Option Int) (n:Nat):Prop where
 free:ω b=none
 map:∃D:DataW Unit,w.ownsMap P k (plainElem P e) b n D∧Maps.IsMap D∧∀z,(Lit.int .i64 z).wf=true→Maps.has D (.int .i64 z)=(f z).isSome∧D.atKey (.int .i64 z) (.lit (.int .i64 0))= .lit (.int .i64 ((f z).getD 0))
theorem pJ.lt {k e b n:Nat} {f:Int→Option Int} (h:pJ P k e b ω w f n):b < w.heap.size:=by
 obtain ⟨D,hD,_⟩:=h.map
 exact hD.lt
theorem pJ.no {k e b n:Nat} {f:Int→Option Int} (h:pJ P k e b ω w f n) (o:Nat):w.cell? ⟨b,o,none⟩=none:=by
 obtain ⟨D,⟨es,clock,hb,_⟩,_⟩:=h.map
 simp [World.cell?,hb]
theorem pJ.fr {k e b n:Nat} {f:Int→Option Int} (h:pJ P k e b ωB wB f n) (hf:Fr ωB wB ω w):pJ P k e b ω w f n:=by
 have hb:=hf.block b h.lt h.free
 obtain ⟨D,⟨es,clock,h1,h2⟩,h3⟩:=h.map
 exact ⟨hb.2,D,⟨es,clock,hb.1.trans h1,h2⟩,h3⟩
structure MB (P:Program) (k e:TypeId) (w0:World) (ω0:bW) (b:Nat) (f:Int→Option Int) (n:Nat) (wB:World) (ωB:bW):Prop where
 fr:Fr ω0 w0 ωB wB
 new:w0.heap.size≤b
 at_:pJ P k e b ωB wB f n
theorem Cw {e:Exit} (hf:Fr ω0.own w0 ωB wB) (h:Fin w0 ω0 nt S e Q):Fin wB ⟨ωB,ω0.ph⟩ nt S e Q:=
 ⟨fun a w ⟨η,ω,hs⟩=>h.go a w ⟨η,ω, { dfr:=hs.dfr,tsz:=hs.tsz,slots:=hs.slots,phs:=hs.phs,mem:=hs.mem,fr:=hf.trans hs.fr }⟩⟩
theorem run_makeMap {T k e:Nat} (hg:o.guard=none) (ho:o=⟨some t, .makeMap T none,ty,ps,af,gd⟩) (ht:Nat.blt t nt=true) (K:P.underlying k=some (.int .i64)) (hT:P.underlying T=some (.map k e))
  (h:∀b wB ωB,MB P k e w0 ω0.own b (fun _=>none) 0 wB ωB→pR P wB ⟨ωB,ω0.ph⟩ nt ops Q (S.put t (vv (.map (some b)))) rest):pR P w0 ω0 nt ops Q S (o :: rest):=by
 subst ho
 refine ⟨fun a w ⟨η,ω,hs⟩=>wpList_plain hg fun K' hK'=> ?_⟩
 have hrun:=Go.RowKit.run_makeMap (P:=P) T w
 unfold Oper.wp
 have hex:(execOp a.eval ⟨some t, .makeMap T none,ty,ps,af,gd⟩).run P w= .ok (.value (.map (some w.heap.size))) (w.alloc (.map #[] 0)):=by simp [execOp,hrun]
 rw [hex]
 refine hK' _ _ ?_
 let ω':bW:=fun b=>if b=w.heap.size then none else ω b
 have hheap:∀b,b < w.heap.size→(w.alloc (.map #[] 0)).heap[b]? =w.heap[b]? :=fun b hb=>Below.heap_alloc w _ b hb
 have hsame:∀p:Option (Nm×Option Nat)→Prop,Same ω w ω' (w.alloc (.map #[] 0)) p:=fun p=>⟨by simp,fun b hb _=>⟨hheap b hb,if_neg (Nat.ne_of_lt hb)⟩⟩
 have hmem:Mem η ω' (w.alloc (.map #[] 0)) S.ch:=⟨fun x c hx=>by
  obtain ⟨hd,h1,h2⟩:=hs.mem.1 x c hx
  exact ⟨hd,h1,h2.same (hsame fun _=>True) trivial (fun _=>trivial) (fun _=>rfl) fun l _ a _ y _=> .inr ⟨rfl,fun _=>rfl⟩⟩,hs.mem.2⟩
 have hfr:Fr ω0.own w0 ω' (w.alloc (.map #[] 0)):=hs.fr.trans ⟨rfl,rfl,rfl,by simp,fun b hb hn=>⟨hheap b hb,(if_neg (Nat.ne_of_lt hb)).trans hn⟩⟩
 refine (h w.heap.size (w.alloc (.map #[] 0)) ω' ⟨hfr,hs.fr.size,if_pos rfl, .map [],World.ownsMap_made w P k _,⟨_,rfl⟩,fun z _=>⟨rfl,rfl⟩⟩).go _ _ ⟨η,ω', ?_⟩
 exact dV.iP (w0:=w.alloc (.map #[] 0)) (ω0:=⟨ω',ω0.ph⟩) { dfr:=hs.dfr,tsz:=hs.tsz,slots:=hs.slots,phs:=hs.phs,mem:=hmem,fr:=Fr.refl _ _ } (by simpa using ht) rfl
theorem rN {T k e b n:Nat} {m v:Operand} {z r:Int} {f:Int→Option Int} {w00:World} {ω00:bW} {ph:List Value} (hg:o.guard=none) (ho:o.op= .mapUpdate T m x v∨o.op= .insert T m x v) (hd:o.dst=none) (K:P.underlying k=some (.int .i64)) (he:P.underlying e=some (.int .i64)) (hT:P.underlying T=some (.map k e))
  (hB:MB P k e w00 ω00 b f n wB ωB) (hm:S.op m=some (vv (.map (some b)))) (hx:S.op x=some (vv (I6 z))) (hv:S.op v=some (vv (I6 r))) (hz:(Lit.int .i64 z).wf=true) (hr:(Lit.int .i64 r).wf=true) (hn:n≤1000000000)
  (h:∀wB' ωB',MB P k e w00 ω00 b (fun z'=>if z'=z then some r else f z') (n + 1) wB' ωB'→pR P wB' ⟨ωB',ph⟩ nt ops Q S rest):pR P wB ⟨ωB,ph⟩ nt ops Q S (o :: rest):=by
 refine ⟨fun a w ⟨η,ω,hs⟩=>wpList_plain hg fun K' hK'=> ?_⟩
 have hA:=hB.at_.fr hs.fr
 obtain ⟨D,hD,hI,hf⟩:=hA.map
 obtain ⟨w',hrun,r1,r2⟩:=hD.update (d:= .lit (.int .i64 r)) (ps:= []) (Maps.int_keyed K) hT (by simp [maxLen];omega) (Maps.keyOf_int_mk K hz) (plainElem_int he hr)
 unfold Oper.wp
 have hex:(execOp a.eval o).run P w= .ok .skip w':=by
  rcases ho with ho | ho<;>simp [execOp,ho,hs.nY hm,hs.nY hx,hs.nY hv,hrun]
 rw [hex]
 refine hK' _ _ ?_
 rw [hd]
 have hs':∀b',b' < w.heap.size→b'≠b→w'.heap[b']? =w.heap[b']? :=fun b' h1 hb'=>r2.block b' h1 (by simpa using hb')
 have hmem:=hs.mem.off hA.no hA.free hs' r2.size
 have hfr:Fr ω00 w00 ω w':=⟨r2.os.trans (hB.fr.trans hs.fr).os,r2.tape.trans (hB.fr.trans hs.fr).tape,r2.output.trans (hB.fr.trans hs.fr).output,Nat.le_trans (hB.fr.trans hs.fr).size r2.size,fun b' hb' hn'=>by
  have h1:=(hB.fr.trans hs.fr).block b' hb' hn'
  have hne:b'≠b:=fun e=>by have:=hB.new;omega
  exact ⟨(hs' b' (Nat.lt_of_lt_of_le hb' (hB.fr.trans hs.fr).size) hne).trans h1.1,h1.2⟩⟩
 refine (h w' ω ⟨hfr,hB.new,hA.free,_,r1,Maps.IsMap.put hI _ _,fun z' hz'=> ?_⟩).go _ _ ⟨η,ω, { dfr:=hs.dfr,tsz:=hs.tsz,slots:=hs.slots,phs:=hs.phs,mem:=hmem,fr:=Fr.refl _ _ }⟩
 by_cases e:z'=z
 ·subst e
  rw [Maps.has_put_same hI (k:= .int .i64 z') trivial,Maps.atKey_put_same hI (k:= .int .i64 z') trivial]
  simp
 ·have hne:Lit.int .i64 z'≠Lit.int .i64 z:=fun h=>by injection h with _ h;exact e h
  rw [Maps.has_put_other hne,Maps.atKey_put_other hne,if_neg e]
  exact hf z' hz'
theorem zn {T k e b n:Nat} {m:Operand} {z:Int} {f:Int→Option Int} {w00:World} {ω00:bW} {ph:List Value} (hg:o.guard=none) (ho:o.op= .lookup T m x true) (hd:o.dst=some t) (ht:Nat.blt t nt=true) (K:P.underlying k=some (.int .i64)) (he:P.underlying e=some (.int .i64)) (hT:P.underlying T=some (.map k e)) (hz0:(P.info? e).bind (·.zero)=some (I6 0))
  (hB:MB P k e w00 ω00 b f n wB ωB) (hm:S.op m=some (vv (.map (some b)))) (hx:S.op x=some (vv (I6 z))) (hz:(Lit.int .i64 z).wf=true)
  (h:pR P wB ⟨ωB,ph⟩ nt ops Q (S.put t (.tup [.one (.val (I6 ((f z).getD 0))), .one (.val (.bool (f z).isSome))])) rest):pR P wB ⟨ωB,ph⟩ nt ops Q S (o :: rest):=by
 refine ⟨fun a w ⟨η,ω,hs⟩=>wpList_plain hg fun K' hK'=> ?_⟩
 have hA:=hB.at_.fr hs.fr
 obtain ⟨D,hD,hI,hf⟩:=hA.map
 have hzero:(zeroValue e).run P w= .ok (I6 0) w:=by
  obtain ⟨i,hi,hz⟩:=Option.bind_eq_some_iff.1 hz0
  simp [zeroValue,typeInfo,hi,hz]
 obtain ⟨v,ps,hrun,hv⟩:=hD.look_ok (Maps.int_keyed K) hT hzero (plainElem_int he (by decide)) (Maps.keyOf_int_mk K hz)
 obtain ⟨h1,h2⟩:=hf z hz
 rw [h2] at hv
 obtain ⟨c,rfl,hc,_⟩:=plainElem_int_inv he hv
 simp only [Prod.mk.injEq,DataW.lit.injEq,Lit.int.injEq,true_and] at hc
 rw [h1,←hc.1] at hrun
 unfold Oper.wp
 have hex:(execOp a.eval o).run P w= .ok (.value (.tuple #[I6 ((f z).getD 0), .bool (f z).isSome])) w:=by
  simp [execOp,ho,hs.nY hm,hs.nY hx,hrun]
 rw [hex]
 refine hK' _ _ (h.go _ _ ⟨η,ω, ?_⟩)
 rw [hd]
 refine hs.iP (by simpa using ht) ⟨_,rfl,rfl,fun j b hj=> ?_⟩
 match j,hj with
 | 0,hj=>simp at hj;subst hj;exact ⟨_,by simp,rfl⟩
 | 1,hj=>simp at hj;subst hj;exact ⟨_,by simp,rfl⟩
def tQ {ι:Type} (ph:List Value) (nt:Nat) (I:ι→St) (p:ι→World→bW→Prop) (μ:ι→Nat) (i:ι) (a:Act) (w:World):Prop:=∃j wB ωB,p j wB ωB∧μ j < μ i∧Sat wB ⟨ωB,ph⟩ nt (I j) a w
open Classical in
theorem qR {ι:Type} {ph:List Value} (I:ι→St) (p:ι→World→bW→Prop) (μ:ι→Nat) (i0:ι) {c:Code} (hp:p i0 wB ωB) (h0:Wk S (I i0)) (hr:∀i wB ωB,p i wB ωB→fZ P wB ⟨ωB,ph⟩ nt (I i) c (Exit.then (tQ ph nt I p μ i) Q)):fZ P wB ⟨ωB,ph⟩ nt S (.loop c) Q:=by
 refine ⟨fun a w hs=> ?_⟩
 let R:Act→World→ι→Prop:=fun a w i=>∃wB ωB,p i wB ωB∧Sat wB ⟨ωB,ph⟩ nt (I i) a w
 have ex:∀a w,(∃i,R a w i)→∃n i,R a w i∧μ i=n:=fun a w ⟨i,hi⟩=>⟨μ i,i,hi,rfl⟩
 refine wp_loop (fun a w=>∃i,R a w i) (fun a w=>if h:∃i,R a w i then Classical.choose (least (ex a w h)) else 0) ⟨i0,wB,ωB,hp,h0.go _ _ _ a w hs⟩ fun a w hI=> ?_
 obtain ⟨⟨i,⟨wB',ωB',hi1,hi2⟩,hm⟩,_⟩:=Classical.choose_spec (least (ex a w hI))
 refine Code.wp_mono (fun e a' w' hq=> ?_) ((hr i wB' ωB' hi1).go a w hi2)
 cases e with
 | normal=>
  obtain ⟨j,wB2,ωB2,hpj,hj,hsj⟩:=hq
  have hR:R a' w' j:=⟨wB2,ωB2,hpj,hsj⟩
  refine ⟨⟨j,hR⟩, ?_⟩
  simp only [dif_pos hI,dif_pos (⟨j,hR⟩:∃i,R a' w' i)]
  refine Nat.lt_of_le_of_lt ((Classical.choose_spec (least (ex a' w' ⟨j,hR⟩))).2 _ ⟨j,hR,rfl⟩) ?_
  rw [←hm];exact hj
 | _=>exact hq
theorem qN {ι:Type} {ph:List Value} {I:ι→St} {p:ι→World→bW→Prop} {μ:ι→Nat} {i:ι} (j:ι) (hp:p j wB ωB) (hm:μ j < μ i) (h:Wk S (I j)):Fin wB ⟨ωB,ph⟩ nt S .normal (Exit.then (tQ ph nt I p μ i) Q):=
 ⟨fun a w hs=>⟨j,wB,ωB,hp,hm,h.go _ _ _ a w hs⟩⟩
theorem yz {ph:List Value} (S':St) (p:World→bW→Prop) {c:Operand} {x y:Code} {b:Bool} (hc:S.op c=some (vv (.bool b)))
  (ht:b=true→fZ P wB ⟨ωB,ph⟩ nt S x (fun e a w=>e= .normal∧∃wB ωB,p wB ωB∧Sat wB ⟨ωB,ph⟩ nt S' a w)) (hf:b=false→fZ P wB ⟨ωB,ph⟩ nt S y (fun e a w=>e= .normal∧∃wB ωB,p wB ωB∧Sat wB ⟨ωB,ph⟩ nt S' a w))
  (k:∀wB ωB,p wB ωB→Fin wB ⟨ωB,ph⟩ nt S' .normal Q):fZ P wB ⟨ωB,ph⟩ nt S (.cond c x y) Q:=
 bf hc (fun h=>⟨fun a w hs=>Code.wp_mono (fun e a w he=>by obtain ⟨rfl,wB',ωB',h1,h2⟩:=he;exact (k wB' ωB' h1).go a w h2) ((ht h).go a w hs)⟩)
  (fun h=>⟨fun a w hs=>Code.wp_mono (fun e a w he=>by obtain ⟨rfl,wB',ωB',h1,h2⟩:=he;exact (k wB' ωB' h1).go a w h2) ((hf h).go a w hs)⟩)
theorem tH {ph:List Value} {S':St} {p:World→bW→Prop} (hp:p wB ωB) (h:Wk S1 S'):Fin wB ⟨ωB,ph⟩ nt S1 .normal (fun e a w=>e= .normal∧∃wB ωB,p wB ωB∧Sat wB ⟨ωB,ph⟩ nt S' a w):=⟨fun a w hs=>⟨rfl,wB,ωB,hp,h.go _ _ _ a w hs⟩⟩
end
end Go.Proofs.Ytfpcfckocmmcnaa
namespace Go.Proofs.Ytfpcfckocmmcnaa
open Go.RowKit
abbrev cE (m n:Nat) (b:Bool):Ch:=⟨true,89,3, .flat [.sl 25 0 m, .sl 26 0 n, .val (.bool b)]⟩
abbrev pE (ng R:Nat):Ch:=⟨true,34,2, .flat [.val (I6 ng), .sl 1003 0 R]⟩
theorem xg {z:Int} (h0:0≤z) (h:z≤1000000000):(Lit.int .i64 z).wf=true:=by
 simp [Lit.wf,IntKind.min,IntKind.max,IntKind.signed,IntKind.bits];omega
theorem mH (ng:Nat) (rels words:List (List Int)) (R m:Nat) (hR:rels.length=R) (hm:words.length=m) (hr:∀w∈rels,bA ng w) (hw:∀w∈words,bA ng w) (hng0:0 < ng) (hng:ng≤1000) (hrl:∀w∈rels,w.length≤1000000000) (hwl:∀w∈words,w.length≤1000000000) (hR2:R≤1000000000) (hm2:m≤1000000000) (X:dR) (hX:BR ng rels words=X):
  FC Try.prog 38 [(1002,bh words),(1003,bh rels)] [.s (.agg [.val (I6 ng), .sl 1003 0 R]),o1 (.sl 1002 0 m)] (if X.2.2=true then [] else [(131,cS (dv ng X.1 X.2.1))])
   (if X.2.2=true then .tup [.one (.val (.slice none 0 0)), .one (.val (.bool false))] else .tup [.one (.sl 131 0 ng), .one (.val (.bool true))]) []:=by
 have hRp:FC Try.prog 53 [(21,⟨false,2,1, .cz (aV [-1])⟩)] [o1 (.sl 21 0 1),vv (I6 ng)] [(24,⟨true,2,1, .cz (aV (List.replicate ng (-1)))⟩)] (o1 (.sl 24 0 ng)) []:=mJ 21 24 ng (-1) ab hng0
 have hrep:(aV (List.replicate ng (-1))).length=ng:=by rw [bD];simp
 refine cu (nt:=179) Try.func38 rfl rfl (by simp) fun w0 ω0=> ?_
 (refine au (ah (aa rfl (du rfl rfl rfl rfl) (aa rfl (ay rfl rfl) (aa rfl (ay rfl rfl) (aA (ax (au (ah ?_))))))));apply aa rfl;(exact cN (E:=2) rfl ae rfl);apply aa rfl;(exact aB (d:=0) rfl rfl rfl ae);apply aa rfl;exact aN rfl ae rfl rfl rfl rfl;apply aa rfl;(first | (apply aI 53;exact dK hRp ae rfl rfl ⟨rfl,rfl,aq⟩ ⟨⟨_,rfl, .inr rfl⟩,aq⟩ rfl rfl rfl) | exact oY (t:=25) (E:=24) (F:=2) rfl ae rfl rfl hrep rfl | exact lT (T:=89) (vs:= [.bool false]) rfl rfl rfl rfl rfl (by as_aux_lemma=>(intros;kernel_rfl)));apply aa rfl;(first | (apply aI 53;exact dK hRp ae rfl rfl ⟨rfl,rfl,aq⟩ ⟨⟨_,rfl, .inr rfl⟩,aq⟩ rfl rfl rfl) | exact oY (t:=25) (E:=24) (F:=2) rfl ae rfl rfl hrep rfl | exact lT (T:=89) (vs:= [.bool false]) rfl rfl rfl rfl rfl (by as_aux_lemma=>(intros;kernel_rfl)));apply aa rfl;(exact cN (E:=2) rfl ae rfl);apply aa rfl;(first | (apply aI 53;exact dK hRp ae rfl rfl ⟨rfl,rfl,aq⟩ ⟨⟨_,rfl, .inr rfl⟩,aq⟩ rfl rfl rfl) | exact oY (t:=25) (E:=24) (F:=2) rfl ae rfl rfl hrep rfl | exact lT (T:=89) (vs:= [.bool false]) rfl rfl rfl rfl rfl (by as_aux_lemma=>(intros;kernel_rfl)));refine aa rfl (du rfl rfl rfl rfl) (aa rfl (ay rfl rfl) (aA (ax (au (au (ah (aa rfl (an rfl rfl) (aa rfl (bF rfl rfl rfl ae) ?_))))))));refine aa rfl (an rfl rfl) (aA (ax (aQ ?_))))
 refine bR (fun j:Nat×dR=>St.of [(2,o1 (.ptr 2 0)),(6,o1 (.ptr 28 0)),(29,o1 (.sl 1002 0 m)),(30,vv (I6 m)),(31,vv (I6 j.1))] [(28,cE j.2.2.1.length j.2.2.1.length j.2.2.2),(25,cS j.2.1),(26,cD j.2.2.1),(1002,bh words),(1003,bh rels),(2,pE ng R)])
  (fun j=>j.1≤m∧(words.take j.1).foldl (kV ng) (dH ng)=j.2∧yk ng 1 j.2) (fun j=>m - j.1) (0,dH ng) ⟨Nat.zero_le _,rfl,yA ng⟩ (Wk.of ⟨rfl,rfl,rfl,rfl,rfl,aq⟩ ⟨rfl,rfl,rfl,rfl,rfl,rfl,aq⟩ trivial) ?_
 rintro ⟨j,M,N,b⟩ ⟨hj,hfo,hok⟩
 dsimp only at hj hfo ⊢
 (refine au (ah (aa rfl (bd rfl rfl rfl rfl) (aA (ax (au ?_))))))
 refine bY rfl (fun hlt=> ?_) (fun hlt=> ?_)
 ·have hjw:j < words.length:=by omega
  obtain ⟨W,hW⟩:∃W,aT words j=W:=⟨_,rfl⟩
  have hWm:W∈words:=by rw [←hW];exact fA hjw
  obtain ⟨C,hC⟩:∃C,gO ng M N b 0 (W.map Int.toNat)=C:=⟨_,rfl⟩
  have hN0:0 < N.length:=hok.ok.lo
  have hcl:FC Try.prog 72 [(28,cE N.length N.length b),(25,cS M),(26,cD N),(1002,bh words)] [o1 (.ptr 28 0),o1 (.esl 1002 j 0 W.length),vv (I6 (0:Nat))] [(28,cE C.2.1.length C.2.1.length C.2.2),(25,cS C.1),(26,cD C.2.1)] (.tup []) [(0,o1 (.ptr 28 0))]:=
   (pH ng N.length M N b 0 words j W.length W rfl hok.ok.wf hok.full hN0 hok.ok.hi hng hjw hW rfl (hwl W hWm) (hw W hWm) C hC).nm [(1010,28),(1000,25),(1001,26),(1002,1002)] (by kernel_rfl)
  have hfo':(words.take (j + 1)).foldl (kV ng) (dH ng)=C:=by
   rw [fM hjw,List.foldl_append,hfo,hW];exact hC
  have hok':yk ng 1 C:=by rw [←hC];exact A3 (w:=W) hok ab (hw W hWm)
  have hrow:(bU words)[j]? =some (aV W):=by rw [←hW];exact bV hjw
  (refine aU (ax (au (aQ (au (ah ?_)))));apply aa rfl;exact aP rfl rfl rfl rfl rfl ae aY aC aZ;apply aa rfl;exact aM rfl ae rfl rfl rfl aK df;refine aa rfl (ay rfl rfl) (aA (ax (ah (aa rfl (an rfl rfl) (aa rfl (an rfl rfl) ?_)))));apply aa rfl;(apply aI 72;exact cX [(0,28)] hcl ae rfl rfl ⟨rfl,rfl,rfl,aq⟩ ⟨⟨_,rfl, .inl rfl⟩,⟨_,rfl, .inl rfl⟩,⟨_,rfl, .inl rfl⟩,⟨_,rfl, .inl rfl⟩,aq⟩ ⟨rfl,rfl,rfl,aq⟩ rfl rfl);refine aA (bp (ax (ah ?_)));apply aa rfl;exact bG rfl rfl rfl bL;refine aa rfl (an rfl rfl) (aA ?_))
  exact bu (j + 1,C) ⟨by show j + 1≤m;omega,hfo',hok'⟩ (by show m - (j + 1) < m - j;omega) (Wk.of ⟨rfl,rfl,rfl,rfl,rfl,aq⟩ ⟨rfl,rfl,rfl,rfl,rfl,rfl,aq⟩ trivial)
 ·obtain rfl:j=m:=by omega
  have hX0:outer ng rels 2001 0 (M,N,b)=X:=by rw [←hfo,←hm,List.take_length];exact hX
  clear hfo hlt hj
  (refine bI (aF (aF (bt (ax (au (au (ah (aa rfl (ay rfl rfl) (aA (ax (aQ ?_))))))))))))
  refine bR (fun c:Nat×dR=>St.of [(2,o1 (.ptr 2 0)),(6,o1 (.ptr 28 0)),(9,vv (I6 c.1))] [(28,cE c.2.2.1.length c.2.2.1.length c.2.2.2),(25,cS c.2.1),(26,cD c.2.2.1),(1002,bh words),(1003,bh rels),(2,pE ng R)])
   (fun c=>outer ng rels (2001 - c.1) c.1 c.2=X∧c.1≤c.2.2.1.length∧yk ng 1 c.2) (fun c=>2001 - c.1) (0,(M,N,b)) ⟨hX0,Nat.zero_le _,hok⟩ (Wk.of ⟨rfl,rfl,rfl,aq⟩ ⟨rfl,rfl,rfl,rfl,rfl,rfl,aq⟩ trivial) ?_
  clear hX0 hok
  clear M N b
  rintro ⟨c,M,N,b⟩ ⟨hout,hcl,hok⟩
  dsimp only at hout hcl ⊢
  have hNl:N.length≤2000:=hok.ok.hi
  have hMN:M.length=N.length:=hok.ok.wf.len
  have hS:=nN 25 N.length
  repeat refine au ?_
  refine jx (St.of [(2,o1 (.ptr 2 0)),(6,o1 (.ptr 28 0)),(9,vv (I6 c)),(52,vv (.bool (decide ((c:Int) < N.length) && !b)))] [(28,cE N.length N.length b),(25,cS M),(26,cD N),(1002,bh words),(1003,bh rels),(2,pE ng R)]) ?_ ?_
  ·(refine ah (aa rfl (an rfl rfl) (aa rfl (an rfl rfl) (aa rfl (bH rfl rfl rfl) ?_)));apply aa rfl;(exact aB (d:=0) rfl rfl rfl ae);apply aa rfl;exact aN rfl ae rfl rfl rfl rfl;apply aa rfl;(apply aI 73;exact aL hS ae rfl rfl ⟨rfl,aq⟩ trivial rfl rfl);refine aa rfl (bd rfl rfl rfl rfl) (aa rfl (an rfl rfl) ?_))
   refine dA 46 rfl (fun h=> ?_) (fun h=> ?_)
   ·(apply aO rfl rfl rfl;exact an rfl rfl;apply aO rfl rfl rfl;exact bH rfl rfl rfl;apply aO rfl rfl rfl;(exact aB (d:=2) rfl rfl rfl ae);apply aO rfl rfl rfl;exact aN rfl ae rfl rfl rfl rfl;apply aO rfl rfl rfl;exact cP rfl rfl;refine aa rfl (cF rfl rfl rfl) (aA ?_))
    exact bB (Wk.of ⟨rfl,rfl,rfl,by rw [h];rfl,aq⟩ ⟨rfl,rfl,rfl,rfl,rfl,rfl,aq⟩ trivial)
   ·(apply aR rfl rfl rfl rfl rfl;apply aR rfl rfl rfl rfl rfl;apply aR rfl rfl rfl rfl rfl;apply aR rfl rfl rfl rfl rfl;apply aR rfl rfl rfl rfl rfl;refine aa rfl (cj rfl rfl rfl) (aA ?_))
    exact bB (Wk.of ⟨rfl,rfl,rfl,by rw [h];rfl,aq⟩ ⟨rfl,rfl,rfl,rfl,rfl,rfl,aq⟩ trivial)
  (refine ax ?_)
  refine bf rfl (fun hc=> ?_) (fun hc=> ?_)
  ·obtain ⟨hlt,rfl⟩:c < N.length∧b=false:=by
    simp at hc;exact ⟨ab,hc.2⟩
   obtain ⟨s0,hs0⟩:∃s0:dR,s0=(M,N,false):=⟨_,rfl⟩
   have hok0:yk ng N.length s0:=by subst hs0;exact ⟨⟨hok.ok.wf,Nat.le_refl _,hok.ok.hi⟩,fun e=>by cases e⟩
   have houts:outer ng rels (2000 - c) (c + 1) (eh ng rels c s0)=X:=by
    rw [←hout,show 2001 - c=(2000 - c) + 1 by omega,outer,if_pos ⟨hlt,rfl⟩,hs0]
   (refine aU (ax (au (aQ (au (au (ah ?_))))));apply aa rfl;(exact aB (d:=1) rfl rfl rfl ae);apply aa rfl;exact aN rfl ae rfl rfl rfl rfl;apply aa rfl;exact bF rfl rfl rfl ae;refine aa rfl (an rfl rfl) (aA (ax (aQ ?_))))
   refine bR (fun j:Nat×dR=>St.of [(2,o1 (.ptr 2 0)),(6,o1 (.ptr 28 0)),(9,vv (I6 c)),(56,o1 (.sl 1003 0 R)),(57,vv (I6 R)),(58,vv (I6 j.1))] [(28,cE j.2.2.1.length j.2.2.1.length j.2.2.2),(25,cS j.2.1),(26,cD j.2.2.1),(1002,bh words),(1003,bh rels),(2,pE ng R)])
    (fun j=>j.1≤R∧(rels.take j.1).foldl (cT ng c) s0=j.2∧yk ng N.length j.2) (fun j=>R - j.1) (0,s0) ⟨Nat.zero_le _,rfl,hok0⟩ (Wk.of (by rw [hs0];exact ⟨rfl,rfl,rfl,rfl,rfl,rfl,aq⟩) (by rw [hs0];exact ⟨rfl,rfl,rfl,rfl,rfl,rfl,aq⟩) trivial) ?_
   generalize hn0:N.length=n0 at *
   have hn02:n0≤2000:=hNl
   clear hout hok hc hs0 hS hMN
   clear hn0
   rintro ⟨j,M,N,b⟩ ⟨hj,hfo,hok⟩
   dsimp only at hj hfo ⊢
   have hNl:N.length≤2000:=hok.ok.hi
   have hNn:n0≤N.length:=hok.ok.lo
   have hcN:c < N.length:=by omega
   (refine au (ah (aa rfl (bd rfl rfl rfl rfl) (aA (ax (au ?_))))))
   refine bY rfl (fun hjr=> ?_) (fun hjr=> ?_)
   ·have hjw:j < rels.length:=by omega
    obtain ⟨W,hW⟩:∃W,aT rels j=W:=⟨_,rfl⟩
    have hWm:W∈rels:=by rw [←hW];exact fA hjw
    have hrow:(bU rels)[j]? =some (aV W):=by rw [←hW];exact bV hjw
    have hfo':(rels.take (j + 1)).foldl (cT ng c) s0=cT ng c (M,N,b) W:=by rw [fM hjw,List.foldl_append,hfo,hW];rfl
    have hok':=yO hok hlt (hr W hWm)
    (refine aU (ax (au (aQ (au (ah ?_)))));apply aa rfl;exact aP rfl rfl rfl rfl rfl ae aY aC aZ;apply aa rfl;exact aM rfl ae rfl rfl rfl aK df;refine aa rfl (ay rfl rfl) (aA (ax (au (ah (aa rfl (an rfl rfl) (aa rfl (bH rfl rfl rfl) ?_))))));apply aa rfl;(exact aB (d:=1) rfl rfl rfl ae);apply aa rfl;exact aN rfl ae rfl rfl rfl rfl;apply aa rfl;exact an rfl rfl;apply aa rfl;exact aP rfl rfl rfl rfl rfl ae aY aC aZ;apply aa rfl;exact bO rfl ae rfl rfl rfl aK;refine aa rfl (an rfl rfl) (aa rfl (bd rfl rfl rfl rfl) (aa rfl (an rfl rfl) ?_)))
    refine dA 71 rfl (fun h=> ?_) (fun h=> ?_)
    ·have hlv:aD N c=(c:Int):=by simpa using h
     (apply aO rfl rfl rfl;exact an rfl rfl;apply aO rfl rfl rfl;exact bH rfl rfl rfl;apply aO rfl rfl rfl;(exact aB (d:=2) rfl rfl rfl ae);apply aO rfl rfl rfl;exact aN rfl ae rfl rfl rfl rfl;apply aO rfl rfl rfl;exact cP rfl rfl;refine aa rfl (cF rfl rfl rfl) (aA (ax ?_)))
     refine bf rfl (fun hb=> ?_) (fun hb=> ?_)
     ·obtain rfl:b=false:=by simpa using hb
      obtain ⟨C,hC⟩:∃C,gO ng M N false c (W.map Int.toNat)=C:=⟨_,rfl⟩
      have hliv:eQ (M,N,false) c=true:=by show (decide (aD N c=(c:Int)) && !false)=true;simp [hlv]
      have hst:cT ng c (M,N,false) W=C:=by unfold cT;rw [if_pos hliv];rw [←hC];unfold gO;rw [if_neg (by simp)]
      rw [hst] at hfo' hok'
      have hcl:FC Try.prog 72 [(28,cE N.length N.length false),(25,cS M),(26,cD N),(1003,bh rels)] [o1 (.ptr 28 0),o1 (.esl 1003 j 0 W.length),vv (I6 c)] [(28,cE C.2.1.length C.2.1.length C.2.2),(25,cS C.1),(26,cD C.2.1)] (.tup []) [(0,o1 (.ptr 28 0))]:=
       (pH ng N.length M N false c rels j W.length W rfl hok.ok.wf (fun e=>by cases e) hcN hok.ok.hi hng hjw hW rfl (hrl W hWm) (hr W hWm) C hC).nm [(1010,28),(1000,25),(1001,26),(1002,1003)] (by kernel_rfl)
      (refine ah (aa rfl (an rfl rfl) (aa rfl (an rfl rfl) (aa rfl (an rfl rfl) ?_)));apply aa rfl;(apply aI 72;exact cX [(0,28)] hcl ae rfl rfl ⟨rfl,rfl,rfl,aq⟩ ⟨⟨_,rfl, .inl rfl⟩,⟨_,rfl, .inl rfl⟩,⟨_,rfl, .inl rfl⟩,⟨_,rfl, .inl rfl⟩,aq⟩ ⟨rfl,rfl,rfl,aq⟩ rfl rfl);refine aA (bp (ax (ah ?_)));apply aa rfl;exact bG rfl rfl rfl bL;refine aa rfl (an rfl rfl) (aA ?_))
      exact bu (j + 1,C) ⟨by show j + 1≤R;omega,hfo',hok'⟩ (by show R - (j + 1) < R - j;omega) (Wk.of ⟨rfl,rfl,rfl,rfl,rfl,rfl,aq⟩ ⟨rfl,rfl,rfl,rfl,rfl,rfl,aq⟩ trivial)
     ·obtain rfl:b=true:=by simpa using hb
      have hst:cT ng c (M,N,true) W=(M,N,true):=iH (by unfold eQ;simp) W
      rw [hst] at hfo' hok'
      (refine aU (bp (ax (ah ?_)));apply aa rfl;exact bG rfl rfl rfl bL;refine aa rfl (an rfl rfl) (aA ?_))
      exact bu (j + 1,(M,N,true)) ⟨by show j + 1≤R;omega,hfo',hok'⟩ (by show R - (j + 1) < R - j;omega) (Wk.of ⟨rfl,rfl,rfl,rfl,rfl,rfl,aq⟩ ⟨rfl,rfl,rfl,rfl,rfl,rfl,aq⟩ trivial)
    ·have hlv:¬aD N c=(c:Int):=by simpa using h
     have hst:cT ng c (M,N,b) W=(M,N,b):=iH (by unfold eQ;simp [hlv]) W
     rw [hst] at hfo' hok'
     (apply aR rfl rfl rfl rfl rfl;apply aR rfl rfl rfl rfl rfl;apply aR rfl rfl rfl rfl rfl;apply aR rfl rfl rfl rfl rfl;apply aR rfl rfl rfl rfl rfl;refine aa rfl (cj rfl rfl rfl) (aA (ax ?_)))
     refine bf rfl (fun e=>by cases e) (fun _=> ?_)
     (refine aU (bp (ax (ah ?_)));apply aa rfl;exact bG rfl rfl rfl bL;refine aa rfl (an rfl rfl) (aA ?_))
     exact bu (j + 1,(M,N,b)) ⟨by show j + 1≤R;omega,hfo',hok'⟩ (by show R - (j + 1) < R - j;omega) (Wk.of ⟨rfl,rfl,rfl,rfl,rfl,rfl,aq⟩ ⟨rfl,rfl,rfl,rfl,rfl,rfl,aq⟩ trivial)
   ·obtain rfl:j=R:=by omega
    have hfull:rels.foldl (cT ng c) s0=(M,N,b):=by rw [←hfo,←hR,List.take_length]
    obtain ⟨s1,hs1⟩:∃s1:dR,s1=(M,N,b):=⟨_,rfl⟩
    have hok1:yk ng n0 s1:=by rw [hs1];exact hok
    have hcos:(List.range ng).foldl (dk ng c) s1=eh ng rels c s0:=by unfold eh;rw [hfull,hs1]
    (refine bI (aF (aF (bt (ax (au (ah ?_))))));apply aa rfl;(exact aB (d:=0) rfl rfl rfl ae);apply aa rfl;exact aN rfl ae rfl rfl rfl rfl;refine aa rfl (an rfl rfl) (aA (ax (aQ ?_))))
    refine bR (fun g:Nat×dR=>St.of [(2,o1 (.ptr 2 0)),(6,o1 (.ptr 28 0)),(9,vv (I6 c)),(84,vv (I6 ng)),(85,vv (I6 g.1))] [(28,cE g.2.2.1.length g.2.2.1.length g.2.2.2),(25,cS g.2.1),(26,cD g.2.2.1),(1002,bh words),(1003,bh rels),(2,pE ng j)])
     (fun g=>g.1≤ng∧(List.range g.1).foldl (dk ng c) s1=g.2∧yk ng n0 g.2) (fun g=>ng - g.1) (0,s1) ⟨Nat.zero_le _,rfl,hok1⟩ (Wk.of (by rw [hs1];exact ⟨rfl,rfl,rfl,rfl,rfl,aq⟩) (by rw [hs1];exact ⟨rfl,rfl,rfl,rfl,rfl,rfl,aq⟩) trivial) ?_
    clear hok hs1 hfull hfo hcN hNl hNn
    rintro ⟨g,M,N,b⟩ ⟨hg,hfo,hok⟩
    dsimp only at hg hfo ⊢
    have hNl:N.length≤2000:=hok.ok.hi
    have hNn:n0≤N.length:=hok.ok.lo
    have hcN:c < N.length:=by omega
    have hMN:M.length=N.length:=hok.ok.wf.len
    have hrc:(aT M c).length=ng:=(show WF ng M N from hok.ok.wf).row c ab
    (refine au (ah (aa rfl (bd rfl rfl rfl rfl) (aA (ax (au ?_))))))
    refine bY rfl (fun hgl=> ?_) (fun hgl=> ?_)
    ·have hgn:g < ng:=by omega
     have hfo':(List.range (g + 1)).foldl (dk ng c) s1=dk ng c (M,N,b) g:=by rw [List.range_succ,List.foldl_append,hfo];rfl
     have hok':=AN (g:=g) hok hlt hgn
     (refine aU (ax (au (aQ (au (ah (aa rfl (an rfl rfl) (aa rfl (ay rfl rfl) (aA (ax (au (ah ?_)))))))))));refine aa rfl (an rfl rfl) (aa rfl (bH rfl rfl rfl) ?_);apply aa rfl;(exact aB (d:=1) rfl rfl rfl ae);apply aa rfl;exact aN rfl ae rfl rfl rfl rfl;apply aa rfl;exact an rfl rfl;apply aa rfl;exact aP rfl rfl rfl rfl rfl ae aY aC aZ;apply aa rfl;exact bO rfl ae rfl rfl rfl aK;refine aa rfl (an rfl rfl) (aa rfl (bd rfl rfl rfl rfl) (aa rfl (an rfl rfl) ?_)))
     refine dA 97 rfl (fun h=> ?_) (fun h=> ?_)
     ·have hlv:aD N c=(c:Int):=by simpa using h
      (apply aO rfl rfl rfl;exact an rfl rfl;apply aO rfl rfl rfl;exact bH rfl rfl rfl;apply aO rfl rfl rfl;(exact aB (d:=2) rfl rfl rfl ae);apply aO rfl rfl rfl;exact aN rfl ae rfl rfl rfl rfl;apply aO rfl rfl rfl;exact cP rfl rfl;refine aa rfl (cF rfl rfl rfl) (aa rfl (an rfl rfl) ?_))
      refine dA 104 rfl (fun hb=> ?_) (fun hb=> ?_)
      ·obtain rfl:b=false:=by simpa using hb
       have hliv:eQ (M,N,false) c=true:=by show (decide (aD N c=(c:Int)) && !false)=true;simp [hlv]
       have hst:dk ng c (M,N,false) g=((bZ ng M N c g).1,(bZ ng M N c g).2.1,(bZ ng M N c g).2.2.1):=by unfold dk;rw [if_pos hliv]
       rw [hst] at hfo' hok'
       (apply aO rfl rfl rfl;exact an rfl rfl;apply aO rfl rfl rfl;exact bH rfl rfl rfl;apply aO rfl rfl rfl;(exact aB (d:=0) rfl rfl rfl ae);apply aO rfl rfl rfl;exact aN rfl ae rfl rfl rfl rfl;apply aO rfl rfl rfl;exact an rfl rfl;apply aO rfl rfl rfl;exact aP rfl rfl rfl rfl rfl ae aY aC aZ;apply aO rfl rfl rfl;exact aM rfl ae rfl rfl rfl aK df;apply aO rfl rfl rfl;exact an rfl rfl;apply aO rfl rfl rfl;exact bn rfl rfl rfl rfl rfl ae aK aY aC aZ;apply aO rfl rfl rfl;exact br rfl ae rfl rfl rfl aK aK;apply aO rfl rfl rfl;exact bd rfl rfl rfl rfl;refine aa rfl (cF rfl rfl rfl) (aA (ax ?_)))
       refine bY rfl (fun he=> ?_) (fun he=> ?_)
       ·have he:bT M c g < 0:=he
        by_cases hfull:N.length=2000
        ·have hnx:bZ ng M N c g=(M,N,true,0):=by unfold bZ;rw [if_neg ab,if_pos hfull]
         rw [hnx] at hfo' hok'
         have hD:FC Try.prog 74 [(28,cE N.length N.length false),(25,cS M),(26,cD N)] [o1 (.ptr 28 0),vv (I6 c),vv (I6 g)] [(28,cE N.length N.length true),(25,cS M),(26,cD N)] (vv (I6 c)) [(0,o1 (.ptr 28 0))]:=(ox M N N.length N.length c g false hMN ab).nm [(1010,28),(1000,25),(1001,26)] (by kernel_rfl)
         (refine ah (aa rfl (an rfl rfl) (aa rfl (an rfl rfl) (aa rfl (an rfl rfl) ?_)));apply aa rfl;(apply aI 74;exact cX [(0,28)] hD ae rfl rfl ⟨rfl,rfl,rfl,aq⟩ ⟨⟨_,rfl, .inl rfl⟩,⟨_,rfl, .inl rfl⟩,⟨_,rfl, .inl rfl⟩,aq⟩ ⟨rfl,rfl,rfl,aq⟩ rfl rfl);refine aA (bp (ax (ah ?_)));apply aa rfl;exact bG rfl rfl rfl bL;refine aa rfl (an rfl rfl) (aA ?_))
         exact bu (g + 1,(M,N,true)) ⟨hgn,hfo',hok'⟩ (by show ng - (g + 1) < ng - g;omega) (Wk.of ⟨rfl,rfl,rfl,rfl,rfl,aq⟩ ⟨rfl,rfl,rfl,rfl,rfl,rfl,aq⟩ trivial)
        ·have hnx:bZ ng M N c g=(mQ ng M N.length c g,N ++ [(N.length:Int)],false,N.length):=by unfold bZ;rw [if_neg ab,if_neg hfull]
         rw [hnx] at hfo' hok'
         have hsn:(N ++ [(N.length:Int)]).length=N.length + 1:=by simp
         have hD:FC Try.prog 74 [(28,cE N.length N.length false),(25,cS M),(26,cD N)] [o1 (.ptr 28 0),vv (I6 c),vv (I6 g)] [(28,cE (N.length + 1) (N.length + 1) false),(25,cS (mQ ng M N.length c g)),(26,cD (N ++ [(N.length:Int)]))] (vv (I6 N.length)) [(0,o1 (.ptr 28 0))]:=
          (rG ng M N N.length N.length c g false hMN rfl ab hok.ok.wf hcN hgn hng).nm [(1010,28),(1000,25),(1001,26)] (by kernel_rfl)
         (refine ah (aa rfl (an rfl rfl) (aa rfl (an rfl rfl) (aa rfl (an rfl rfl) ?_)));apply aa rfl;(apply aI 74;exact cX [(0,28)] hD ae rfl rfl ⟨rfl,rfl,rfl,aq⟩ ⟨⟨_,rfl, .inl rfl⟩,⟨_,rfl, .inl rfl⟩,⟨_,rfl, .inl rfl⟩,aq⟩ ⟨rfl,rfl,rfl,aq⟩ rfl rfl);refine aA (bp (ax (ah ?_)));apply aa rfl;exact bG rfl rfl rfl bL;refine aa rfl (an rfl rfl) (aA ?_))
         exact bu (g + 1,(mQ ng M N.length c g,N ++ [(N.length:Int)],false)) ⟨hgn,hfo',hok'⟩ (by show ng - (g + 1) < ng - g;omega) (Wk.of ⟨rfl,rfl,rfl,rfl,rfl,aq⟩ ⟨by dsimp only;rw [hsn];rfl,rfl,rfl,rfl,rfl,rfl,aq⟩ trivial)
       ·have he:¬bT M c g < 0:=he
        have hnx:bZ ng M N c g=(M,N,false,root N (bT M c g).toNat):=by unfold bZ;rw [if_pos ab]
        rw [hnx] at hfo' hok'
        (refine aU (bp (ax (ah ?_)));apply aa rfl;exact bG rfl rfl rfl bL;refine aa rfl (an rfl rfl) (aA ?_))
        exact bu (g + 1,(M,N,false)) ⟨hgn,hfo',hok'⟩ (by show ng - (g + 1) < ng - g;omega) (Wk.of ⟨rfl,rfl,rfl,rfl,rfl,aq⟩ ⟨rfl,rfl,rfl,rfl,rfl,rfl,aq⟩ trivial)
      ·obtain rfl:b=true:=by simpa using hb
       have hst:dk ng c (M,N,true) g=(M,N,true):=jk (by unfold eQ;simp) g
       rw [hst] at hfo' hok'
       (apply aR rfl rfl rfl rfl rfl;apply aR rfl rfl rfl rfl rfl;apply aR rfl rfl rfl rfl rfl;apply aR rfl rfl rfl rfl rfl;apply aR rfl rfl rfl rfl rfl;apply aR rfl rfl rfl rfl rfl;apply aR rfl rfl rfl rfl rfl;apply aR rfl rfl rfl rfl rfl;apply aR rfl rfl rfl rfl rfl;apply aR rfl rfl rfl rfl rfl;apply aR rfl rfl rfl rfl rfl;refine aa rfl (cj rfl rfl rfl) (aA (ax ?_)))
       refine bf rfl (fun e=>by cases e) (fun _=> ?_)
       (refine aU (bp (ax (ah ?_)));apply aa rfl;exact bG rfl rfl rfl bL;refine aa rfl (an rfl rfl) (aA ?_))
       exact bu (g + 1,(M,N,true)) ⟨hgn,hfo',hok'⟩ (by show ng - (g + 1) < ng - g;omega) (Wk.of ⟨rfl,rfl,rfl,rfl,rfl,aq⟩ ⟨rfl,rfl,rfl,rfl,rfl,rfl,aq⟩ trivial)
     ·have hlv:¬aD N c=(c:Int):=by simpa using h
      have hst:dk ng c (M,N,b) g=(M,N,b):=jk (by unfold eQ;simp [hlv]) g
      rw [hst] at hfo' hok'
      (apply aR rfl rfl rfl rfl rfl;apply aR rfl rfl rfl rfl rfl;apply aR rfl rfl rfl rfl rfl;apply aR rfl rfl rfl rfl rfl;apply aR rfl rfl rfl rfl rfl;refine aa rfl (cj rfl rfl rfl) (aa rfl (an rfl rfl) ?_);apply aR rfl rfl rfl rfl rfl;apply aR rfl rfl rfl rfl rfl;apply aR rfl rfl rfl rfl rfl;apply aR rfl rfl rfl rfl rfl;apply aR rfl rfl rfl rfl rfl;apply aR rfl rfl rfl rfl rfl;apply aR rfl rfl rfl rfl rfl;apply aR rfl rfl rfl rfl rfl;apply aR rfl rfl rfl rfl rfl;apply aR rfl rfl rfl rfl rfl;apply aR rfl rfl rfl rfl rfl;refine aa rfl (cj rfl rfl rfl) (aA (ax ?_)))
      refine bf rfl (fun e=>by cases e) (fun _=> ?_)
      (refine aU (bp (ax (ah ?_)));apply aa rfl;exact bG rfl rfl rfl bL;refine aa rfl (an rfl rfl) (aA ?_))
      exact bu (g + 1,(M,N,b)) ⟨hgn,hfo',hok'⟩ (by show ng - (g + 1) < ng - g;omega) (Wk.of ⟨rfl,rfl,rfl,rfl,rfl,aq⟩ ⟨rfl,rfl,rfl,rfl,rfl,rfl,aq⟩ trivial)
    ·obtain rfl:g=ng:=by omega
     have hfg:eh g rels c s0=(M,N,b):=by rw [←hcos,←hfo]
     (refine bI (aF (aF (bt (bp (ax (ah (aa rfl (an rfl rfl) ?_)))))));apply aa rfl;exact bG rfl rfl rfl bL;refine aa rfl (ay rfl rfl) (aA ?_))
     exact bu (c + 1,(M,N,b)) ⟨by show outer g rels (2001 - (c + 1)) (c + 1) (M,N,b)=X;rw [show 2001 - (c + 1)=2000 - c by omega,←hfg];exact houts,by show c + 1≤N.length;omega,⟨hok.ok.le ab,hok.full⟩⟩ (by show 2001 - (c + 1) < 2001 - c;omega) (Wk.of ⟨rfl,rfl,rfl,aq⟩ ⟨rfl,rfl,rfl,rfl,rfl,rfl,aq⟩ trivial)
  ·have hXs:(M,N,b)=X:=by
    rw [←hout]
    cases hk:2001 - c with
    | zero=>omega
    | succ f=>
     rw [outer,if_neg]
     rintro ⟨h1,h2⟩
     have h1:c < N.length:=h1
     have h2:b=false:=h2
     rw [decide_eq_true (show (c:Int) < N.length by omega),h2] at hc
     cases hc
   clear hout hc hS hcl
   (refine bI (aF (aF (bt (ax (au (au (ah (aa rfl (an rfl rfl) (aa rfl (bH rfl rfl rfl) ?_)))))))));apply aa rfl;(exact aB (d:=2) rfl rfl rfl ae);apply aa rfl;exact aN rfl ae rfl rfl rfl rfl;refine aA (ax ?_))
   refine bf rfl (fun hb=> ?_) (fun hb=> ?_)
   ·subst hb
    subst hXs
    (refine au (ah (aa rfl (ay rfl rfl) (aa rfl (ay rfl rfl) (aA (ax (bw (aJ ?_))))))))
    exact dJ (.inl rfl) rfl (.tmp rfl) (.tmp rfl) trivial trivial
   ·subst hb
    have hsame:dq ng rels words=X:=by
     rcases pf ng rels words with h | ⟨_,h⟩
     ·exact h.trans hX
     ·rw [hX,←hXs] at h;cases h
    have hF:=lF hr hw (show (dq ng rels words).2.2=false by rw [hsame,←hXs])
    rw [hsame] at hF
    subst hXs
    clear hsame
    dsimp only at hF
    have hn0:=hF.pos
    have hts:=ix hF
    clear hX
    (refine aU (ax (au (ah ?_)));apply aa rfl;(exact cN (E:=2) rfl ae rfl);refine aa rfl (ay rfl rfl) (aA (ax (au (ah ?_)))))
    refine run_makeMap (k:=2) (e:=2) rfl rfl rfl Try.underlying2 ae fun b wB ωB hMB=> ?_
    refine rN rfl (.inr rfl) rfl Try.underlying2 Try.underlying2 ae hMB rfl rfl rfl (by decide) (by decide) ab fun wB ωB hMB=> ?_
    (refine aa rfl (an rfl rfl) (aa rfl (ay rfl rfl) (aA (ax (au (ah ?_)))));apply aa rfl;(exact aB (d:=0) rfl rfl rfl ae);apply aa rfl;exact aN rfl ae rfl rfl rfl rfl;apply aa rfl;(exact AU (E:=24) (F:=2) rfl ae ae ae rfl rfl rfl rfl ab);refine aa rfl (ay rfl rfl) (aA (ax (au (au (ah (aa rfl (ay rfl rfl) (aA (ax (aQ ?_))))))))))
    have hf0:=DU hn0
    have htz:=Be (ng:=ng) (im:=M) (less:=N) (s:=ez N.length)
    refine qR (fun q:Nat×jR=>St.of [(2,o1 (.ptr 2 0)),(6,o1 (.ptr 28 0)),(13,o1 (.sl 126 0 q.2.1.length)),(14,vv (.map (some b))),(15,o1 (.sl 131 0 ng)),(16,vv (I6 q.1))] [(28,cE N.length N.length false),(25,cS M),(26,cD N),(2,pE ng R),(126,cD q.2.1),(131,cS (gH ng M N q.2 q.1 0))])
     (fun q wB ωB=>q.1≤q.2.1.length∧p7 N.length N q.2∧iQ ng M N q.2 q.1 0∧dw ng M N (N.length + 1 - q.1) q.1 q.2=cq ng M N∧MB Try.prog 2 2 w0 ω0.own b (fN q.2.2) q.2.1.length wB ωB) (fun q=>N.length + 1 - q.1) (0,ez N.length) ⟨Nat.zero_le _,hts,iQ.zero,rfl,by rw [←hf0];exact hMB⟩ (Wk.of ⟨rfl,rfl,rfl,rfl,rfl,rfl,aq⟩ ⟨rfl,rfl,rfl,rfl,rfl,by dsimp only;rw [htz];rfl,aq⟩ trivial) ?_
    clear hMB hf0 htz
    clear wB ωB
    rintro ⟨i,O,T⟩ wB ωB ⟨hi,htok,hseen,hnum,hMB⟩
    dsimp only at hi hnum hMB ⊢
    have hOl:O.length≤N.length:=htok.le
    (refine au (au (ah (aa rfl (an rfl rfl) (aa rfl (an rfl rfl) (aa rfl (bF rfl rfl rfl ae) ?_)))));refine aa rfl (bd rfl rfl rfl rfl) (aA (ax ?_)))
    refine bY rfl (fun hlt=> ?_) (fun hlt=> ?_)
    ·have hlt':i < O.length:=by omega
     have hnum':dw ng M N (N.length - i) (i + 1) (l4 ng M N i (O,T))=cq ng M N:=by
      rw [←hnum,show N.length + 1 - i=(N.length - i) + 1 by omega]
      exact (oh hlt').symm
     obtain ⟨s0,hs0⟩:∃s0:jR,s0=(O,T):=⟨_,rfl⟩
     obtain ⟨d,hd1,hd2,hd3, -⟩:=htok.live i hlt'
     dsimp only at hd1
     have hrow:∀n,n≤ng→p7 N.length N ((List.range n).foldl (dz M N i) s0)∧iR s0 ((List.range n).foldl (dz M N i) s0):=fun n hn=>
      have:=fI hF (i:=i) (s:=s0) (by rw [hs0];exact htok) (by rw [hs0];exact hlt') n hn
      ⟨this.1,this.2.1⟩
     have hfin:dw ng M N (N.length - i) (i + 1) ((List.range ng).foldl (dz M N i) s0)=cq ng M N:=by rw [hs0];exact hnum'
     have hO0:s0.1.length=O.length:=by rw [hs0]
     have hd0:aD s0.1 i=(d:Int):=by rw [hs0];exact hd1
     (refine aU (ax (au (aQ (au (ah ?_)))));apply aa rfl;(exact aB (d:=0) rfl rfl rfl ae);apply aa rfl;exact aN rfl ae rfl rfl rfl rfl;refine aa rfl (an rfl rfl) (aA (ax (aQ ?_))))
     refine qR (fun q:Nat×jR=>St.of [(2,o1 (.ptr 2 0)),(6,o1 (.ptr 28 0)),(13,o1 (.sl 126 0 q.2.1.length)),(14,vv (.map (some b))),(15,o1 (.sl 131 0 ng)),(16,vv (I6 i)),(139,vv (I6 ng)),(140,vv (I6 q.1))] [(28,cE N.length N.length false),(25,cS M),(26,cD N),(2,pE ng R),(126,cD q.2.1),(131,cS (gH ng M N q.2 i q.1))])
      (fun q wB ωB=>q.1≤ng∧(List.range q.1).foldl (dz M N i) s0=q.2∧iQ ng M N q.2 i q.1∧MB Try.prog 2 2 w0 ω0.own b (fN q.2.2) q.2.1.length wB ωB) (fun q=>ng - q.1) (0,(O,T)) ⟨Nat.zero_le _,hs0,hseen,hMB⟩ (Wk.of ⟨rfl,rfl,rfl,rfl,rfl,rfl,rfl,rfl,aq⟩ ⟨rfl,rfl,rfl,rfl,rfl,rfl,aq⟩ trivial) ?_
     clear hnum hnum' htok hs0 hd1 hMB hseen
     generalize O.length=on at *
     clear wB ωB
     rintro ⟨g,O,T⟩ wB ωB ⟨hg,hfo,hseen,hMB⟩
     dsimp only at hg hfo hMB ⊢
     obtain ⟨tok,grw⟩:=hrow g hg
     rw [hfo] at tok grw
     have hiO:i < O.length:=Nat.lt_of_lt_of_le ab grw.len
     have hOl':O.length≤N.length:=tok.le
     have hTl:T.length=N.length:=tok.len
     have hdO:aD O i=(d:Int):=(grw.pre i ab).trans hd0
     have hget:(aV O)[i]? =some (I6 (d:Int)):=by rw [ck hiO,hdO]
     (refine au (ah (aa rfl (bd rfl rfl rfl rfl) (aA (ax (au ?_))))))
     refine bY rfl (fun h2=> ?_) (fun h2=> ?_)
     ·have hgn:g < ng:=by omega
      obtain ⟨e,he1,he2,_⟩:=hF.image hd2 hd3 hgn
      have hI:FC Try.prog 75 [(28,⟨false,89,3, .flat [.sl 25 0 N.length, .sl 26 0 N.length, .val (.bool false)]⟩),(25,AY M),(26,zk N)] [o1 (.ptr 28 0),vv (I6 d),vv (I6 g)] [] (vv (I6 e)) []:=by
       have:=(mi M N N.length N.length d g false hMN rfl hF.wf.down ab (by rw [hF.wf.row d ab];exact hgn) (hF.wf.bT d g ab hgn)).nm [(1010,28),(1000,25),(1001,26)] (by kernel_rfl)
       rw [he1] at this
       exact this
      have hSz:=Da 126 O.length
      obtain ⟨V,hV⟩:∃V:jR,visit (O,T) e=V:=⟨_,rfl⟩
      have hst:(List.range (g + 1)).foldl (dz M N i) s0=V:=by
       rw [List.range_succ,List.foldl_append,hfo,←hV]
       show visit (O,T) (image M N (aD O i).toNat g).toNat=_
       rw [hdO,Int.toNat_natCast,he1,Int.toNat_natCast]
      have hseen':iQ ng M N V i (g + 1):=by rw [←hV];exact hseen.visit tok hiO hdO he1 he2
      have hgr:gH ng M N (O,T) i g=gH ng M N V i g:=by rw [←hV];exact BL (jA _ _) hseen
      have htc:iV M N V g i=aD V.2 e:=by rw [←hV];exact qE hiO hdO he1
      have hset:=CQ (im:=M) (less:=N) (s:=V) (i:=i) hgn
      rw [htc] at hset
      have hfs:=EW (M:=T) (e:=e) ab
      have hwe:(Lit.int .i64 (e:Int)).wf=true:=xg ab ab
      (refine aU (ax (au (aQ (au (ah (aa rfl (an rfl rfl) (aa rfl (ay rfl rfl) (aA (ax (au (ah ?_)))))))))));refine aa rfl (an rfl rfl) (aa rfl (an rfl rfl) (aa rfl (an rfl rfl) ?_));apply aa rfl;exact aP rfl rfl rfl rfl rfl ae aY aC aZ;apply aa rfl;exact bO rfl ae rfl rfl rfl aK;apply aa rfl;exact an rfl rfl;apply aa rfl;(apply aI 75;exact aL hI ae rfl rfl ⟨rfl,rfl,rfl,aq⟩ ⟨⟨_,rfl, .inr rfl⟩,⟨_,rfl, .inr rfl⟩,⟨_,rfl, .inr rfl⟩,aq⟩ rfl rfl);refine aa rfl (ay rfl rfl) (aA (ax (au (ah (aa rfl (an rfl rfl) (aa rfl (an rfl rfl) ?_)))))))
      refine zn (t:=153) rfl rfl rfl rfl Try.underlying2 Try.underlying2 ae ae hMB rfl rfl hwe ?_
      (refine aa rfl (an rfl rfl) (aa rfl (aW rfl rfl rfl) (aa rfl (aW rfl rfl rfl) (aa rfl (ay rfl rfl) (aa rfl (ay rfl rfl) (aA (ax (au (au (ah (aa rfl (an rfl rfl) (aa rfl (cP rfl rfl) ?_)))))))))));refine aA (ax ?_))
      refine yz (St.of [(2,o1 (.ptr 2 0)),(6,o1 (.ptr 28 0)),(13,o1 (.sl 126 0 V.1.length)),(14,vv (.map (some b))),(15,o1 (.sl 131 0 ng)),(16,vv (I6 i)),(17,vv (I6 g)),(19,vv (I6 (aD V.2 e))),(139,vv (I6 ng)),(140,vv (I6 g))] [(28,cE N.length N.length false),(25,cS M),(26,cD N),(2,pE ng R),(126,cD V.1),(131,cS (gH ng M N V i g))])
       (fun wB ωB=>MB Try.prog 2 2 w0 ω0.own b (fN V.2) V.1.length wB ωB) rfl (fun hc=> ?_) (fun hc=> ?_) ?_
      ·have hneg:aD T e < 0:=by
        rw [hfs.1] at hc;simp at hc;omega
       obtain rfl:V=(O ++ [(e:Int)],T.set e (O.length:Int)):=by rw [←hV];exact if_pos hneg
       have hnum0:aD (T.set e (O.length:Int)) e=(O.length:Int):=by rw [cO,if_pos ⟨rfl,ab⟩]
       have hfset:=Dv (M:=T) (e:=e) (v:=(O.length:Int)) ab ab
       (refine au (ah (aa rfl (an rfl rfl) ?_));apply aa rfl;(apply aI 39;exact aL hSz ae rfl rfl ⟨rfl,aq⟩ trivial rfl rfl);refine aa rfl (ay rfl rfl) (aA (ax (au (ah (aa rfl (an rfl rfl) (aa rfl (an rfl rfl) (aa rfl (an rfl rfl) ?_))))))))
       refine rN rfl (.inl rfl) rfl Try.underlying2 Try.underlying2 ae hMB rfl rfl rfl hwe (xg ab ab) ab fun wB ωB hMB=> ?_
       (refine aA (ax (ah (aa rfl (an rfl rfl) (aa rfl (an rfl rfl) ?_))));apply aa rfl;(exact cN (E:=2) rfl ae rfl);apply aa rfl;(exact fo rfl ae rfl rfl rfl (by first | rfl | assumption | (simp;done)) rfl rfl ab);refine aa rfl (ay rfl rfl) (aA ?_))
       exact tH (by dsimp only;rw [←hfset,List.length_append];exact hMB) (Wk.of ⟨rfl,rfl,by simp;rfl,rfl,rfl,rfl,rfl,by rw [hnum0];rfl,rfl,rfl,aq⟩ ⟨rfl,rfl,rfl,rfl,rfl,by rw [←hgr];rfl,aq⟩ trivial)
      ·have hneg:0≤aD T e:=by
        rw [hfs.1] at hc;simpa using hc
       obtain rfl:V=(O,T):=by rw [←hV];exact if_neg (by show ¬aD T e < 0;omega)
       (refine aU ?_)
       exact tH hMB (Wk.of ⟨rfl,rfl,rfl,rfl,rfl,rfl,rfl,by rw [←hfs.2 hneg];rfl,rfl,rfl,aq⟩ ⟨rfl,rfl,rfl,rfl,rfl,rfl,aq⟩ trivial)
      clear hMB
      clear wB ωB
      intro wB ωB hMB
      have hrw0:aT (gH ng M N V i g) g=(List.range i).map (iV M N V g):=CF hgn
      have htl:(gH ng M N V i g).length=ng:=Dm
      obtain ⟨row,hrow1⟩:∃row,(List.range i).map (iV M N V g)=row:=⟨_,rfl⟩
      have hrl1:row.length=i:=by rw [←hrow1];simp
      rw [hrow1] at hrw0 hset
      have hset2:(bU (gH ng M N V i g)).set g (aV (row ++ [aD V.2 e]))=bU (gH ng M N V i (g + 1)):=by rw [tj,hset]
      have hrg:(bU (gH ng M N V i g))[g]? =some (aV row):=by rw [bV ab,hrw0]
      (refine ax (ah (aa rfl (an rfl rfl) (aa rfl (an rfl rfl) (aa rfl (an rfl rfl) (aa rfl (an rfl rfl) ?_)))));apply aa rfl;exact aP rfl rfl rfl rfl rfl ae aY aC aZ;apply aa rfl;exact aM rfl ae rfl rfl rfl aK df;apply aa rfl;exact an rfl rfl;apply aa rfl;(exact cN (E:=2) rfl ae rfl))
      refine zv (zp (n:=131) (z:=172) (s:=172) rfl rfl hrg (bD row) rfl) ?_
      (apply aa rfl;(exact fo rfl ae rfl rfl rfl (by first | rfl | assumption | (simp;done)) rfl rfl ab);apply aa rfl;exact aP rfl rfl rfl rfl rfl ae aY aC aZ;apply aa rfl;(exact vp (n:=131) (z:=172) (i:=g) rfl rfl (by simp) rfl rfl (by rw [bD];simp) rfl (by rw [cB];omega) ae);refine aA (bp (ax (ah ?_)));apply aa rfl;exact bG rfl rfl rfl bL;refine aa rfl (an rfl rfl) (aA ?_))
      exact qN (g + 1,V) ⟨hgn,hst,hseen',hMB⟩ (by show ng - (g + 1) < ng - g;omega) (Wk.of ⟨rfl,rfl,rfl,rfl,rfl,rfl,rfl,rfl,aq⟩ ⟨rfl,rfl,rfl,rfl,rfl,congrArg (fun l=>some (⟨true,24,1, .rows 2 l []⟩:Ch)) hset2,aq⟩ trivial)
     ·obtain rfl:g=ng:=by omega
      (refine bI (aF (aF (bt (bp (ax (ah (aa rfl (an rfl rfl) ?_)))))));apply aa rfl;exact bG rfl rfl rfl bL;refine aa rfl (ay rfl rfl) (aA ?_))
      exact qN (i + 1,(O,T)) ⟨hiO,tok,hseen.next,by rw [←hfin,hfo];show dw _ _ _ (N.length + 1 - (i + 1)) _ _=_;rw [show N.length + 1 - (i + 1)=N.length - i by omega],hMB⟩ (by show N.length + 1 - (i + 1) < N.length + 1 - i;omega) (Wk.of ⟨rfl,rfl,rfl,rfl,rfl,rfl,aq⟩ ⟨rfl,rfl,rfl,rfl,rfl,by dsimp only;rw [←BU];rfl,aq⟩ trivial)
    ·have hio:i=O.length:=by omega
     have hOM:cq ng M N=(O,T):=by
      rw [←hnum,show N.length + 1 - i=(N.length - i) + 1 by omega,dw,if_neg (by show ¬i < O.length;omega)]
     have htd:=Cc hOM
     subst hio
     rw [htd]
     (refine bI (aF (aF (bt (ax (au (ah (aa rfl (an rfl rfl) (aa rfl (ay rfl rfl) (aa rfl (ay rfl rfl) (aA (ax ?_)))))))))));refine bw ?_)
     refine Cw hMB.fr ?_
     exact dJ (.inl rfl) rfl (.tmp rfl) (.tmp rfl) ⟨rfl,aq⟩ trivial
end Go.Proofs.Ytfpcfckocmmcnaa
namespace Go.Proofs.Ytfpcfckocmmcnaa
open Go.RowKit
def cY (hi:Int) (zs:List Int):Bool:=decide (zs.length≤64) && zs.all (fun z=>kB z 0 hi)
def dN (d:di):Bool:=kB d.1 1 5 && decide (d.2.length≤24) && d.2.all (fun zs=>cY (d.1 - 1) zs && decide (1≤zs.length))
theorem jw (g:Int) (ao:Option Addr) (n c:Nat) (zs:List Int) (w:World) (h:cW w ao n zs) (hg0:0≤g) (hg1:g≤1000):
  Calls Try.prog 98 #[.int .i64 g, .slice ao n c] w fun e w'=>e= .returned (.bool (cY (g - 1) zs))∧w'=w:=by
 have hn:=h.2.1
 have hl:=h.1
 have HL:=Lib.hid hl
 clear hl
 go_enter Try.func98,Try.ntmps98
 go_wp2
 go_loop [5] (fun i=>∃k:Nat,k≤n∧i= .int .i64 k∧(zs.take k).all (fun z=>kB z 0 (g - 1))=true) (fun i=>n - (intOf i).toNat)
 case atStart=>exact ⟨0,Nat.zero_le _,rfl,by simp⟩
 case round=>
  obtain ⟨k,hk,rfl,hpre⟩:=hrel
  have HP:=Lib.hid hpre
  clear hpre
  by_cases hlt:k < n
  ·obtain ⟨b,off,rfl,hc⟩:=h.at_ hlt
   have HH:=Lib.hid h
   clear h
   cases hp:kB (aD zs k) 0 (g - 1) with
   | true=>
    have HX:=Lib.hid hp
    clear hp
    go_wp2_with (go_at_call 61;refine (fa _ _ _ _).mono ?_;rintro e w' ⟨rfl,rfl⟩;rw [HX.out])
    go_round
    case rel=>exact ⟨k + 1,ab,by go_num,by rw [j0 (by rw [HL.out];exact hlt),HP.out,HX.out];rfl⟩
    case measure=>simp [intOf];omega
   | false=>
    have HX:=Lib.hid hp
    clear hp
    go_wp2_with (go_at_call 61;refine (fa _ _ _ _).mono ?_;rintro e w' ⟨rfl,rfl⟩;rw [HX.out])
    go_ret
    exact ⟨cx (by unfold cY;rw [nx (by rw [HL.out];exact hlt) HX.out];simp),rfl⟩
  ·obtain rfl:k=n:=by omega
   go_wp2
   go_ret
   exact ⟨cx (by have:=HP.out;rw [List.take_of_length_le (Nat.le_of_eq HL.out)] at this;unfold cY;rw [this,HL.out];simp;omega),rfl⟩
theorem s7 {zss:List (List Int)} {p:List Int→Bool} {k:Nat} (h:k < zss.length):(zss.take (k + 1)).all p=((zss.take k).all p && p (aT zss k)):=by
 rw [fM h,List.all_append];simp
theorem sL {zss:List (List Int)} {p:List Int→Bool} {k:Nat} (h:k < zss.length):(zss.take (k + 1)).any p=((zss.take k).any p || p (aT zss k)):=by
 rw [fM h,List.any_append];simp
theorem lB {zss:List (List Int)} {p:List Int→Bool} {k:Nat} (h:k < zss.length) (hp:p (aT zss k)=false):zss.all p=false:=by
 rw [List.all_eq_false];exact ⟨_,fA h,by simp [hp]⟩
def dT (g:Int) (least:Nat) (zss:List (List Int)):Bool:=decide (zss.length≤24) && zss.all (fun zs=>cY (g - 1) zs && decide (least≤zs.length))
theorem iO (g:Int) (least:Nat) (ao:Option Addr) (n c:Nat) (zss:List (List Int)) (w:World) (h:ep w ao n zss) (hg0:0≤g) (hg1:g≤1000):
  Calls Try.prog 88 #[.int .i64 g, .slice ao n c, .int .i64 (least:Int)] w fun e w'=>e= .returned (.bool (dT g least zss))∧w'=w:=by
 have hn:=h.2.1
 have hl:=h.1
 have HL:=Lib.hid hl
 clear hl
 go_enter Try.func88,Try.ntmps88
 go_wp2
 go_loop [7] (fun i=>∃k:Nat,k≤n∧i= .int .i64 k∧(zss.take k).all (fun zs=>cY (g - 1) zs && decide (least≤zs.length))=true) (fun i=>n - (intOf i).toNat)
 case atStart=>exact ⟨0,Nat.zero_le _,rfl,by simp⟩
 case round=>
  obtain ⟨k,hk,rfl,hpre⟩:=hrel
  have HP:=Lib.hid hpre
  clear hpre
  by_cases hlt:k < n
  ·obtain ⟨b,off,a1,n1,c1,rfl,hc,hin⟩:=h.at_ hlt
   have hn1:=hin.2.1
   have HN:=Lib.hid hin.1
   have HH:=Lib.hid h
   clear h
   cases hp:cY (g - 1) (aT zss k) with
   | true=>
    have HX:=Lib.hid hp
    clear hp
    by_cases hz:least≤n1
    ·have hd:decide ((n1:Int) < least)=false:=by simp;omega
     go_wp2_with (go_at_call 98;refine (jw g a1 n1 c1 _ _ hin hg0 hg1).mono ?_;rintro e w' ⟨rfl,rfl⟩;rw [HX.out])
     go_round
     case rel=>exact ⟨k + 1,ab,by go_num,by rw [s7 (by rw [HL.out];exact hlt),HP.out,HX.out,HN.out];simp [hz]⟩
     case measure=>simp [intOf];omega
    ·have hd:decide ((n1:Int) < least)=true:=by simp;omega
     go_wp2_with (go_at_call 98;refine (jw g a1 n1 c1 _ _ hin hg0 hg1).mono ?_;rintro e w' ⟨rfl,rfl⟩;rw [HX.out])
     go_ret
     exact ⟨cx (by unfold dT;rw [lB (k:=k) (by rw [HL.out];exact hlt) (by rw [HX.out,HN.out];simp;omega)];simp),rfl⟩
   | false=>
    have HX:=Lib.hid hp
    clear hp
    go_wp2_with (go_at_call 98;refine (jw g a1 n1 c1 _ _ hin hg0 hg1).mono ?_;rintro e w' ⟨rfl,rfl⟩;rw [HX.out])
    go_ret
    exact ⟨cx (by unfold dT;rw [lB (k:=k) (by rw [HL.out];exact hlt) (by rw [HX.out];rfl)];simp),rfl⟩
  ·obtain rfl:k=n:=by omega
   go_wp2
   go_ret
   exact ⟨cx (by have:=HP.out;rw [List.take_of_length_le (Nat.le_of_eq HL.out)] at this;unfold dT;rw [this,HL.out];simp;omega),rfl⟩
theorem mY {d:di} (h:kB d.1 1 5=false):dN d=false:=by unfold dN;rw [h];rfl
theorem pg {d:di} (h:kB d.1 1 5=true):dN d=dT d.1 1 d.2:=by unfold dN dT;rw [h];simp
theorem nG {v:Value} {d:di} (w:World) (h:wZ w v d):
  Calls Try.prog 87 #[v] w fun e w'=>e= .returned (.bool (dN d))∧Below w.heap.size w w':=by
 obtain ⟨ao,n,c,rfl,hi⟩:=h
 have hb:=below_alloc1 w (.cells #[.int .i64 d.1, .slice ao n c] 34)
 cases hg:kB d.1 1 5 with
 | true=>
  have HX:=Lib.hid hg
  have hg':=dY.1 hg
  clear hg
  go_enter Try.func87,Try.ntmps87
  go_wp2_with (go_at_call 61;refine (fa _ _ _ _).mono ?_;rintro e w' ⟨rfl,rfl⟩;rw [HX.out])
  refine (iO d.1 1 ao n c d.2 _ (hi.below hb) ab ab).mono ?_
  rintro e w1 ⟨rfl,rfl⟩
  go_wp2
  go_ret
  exact ⟨cx (pg HX.out).symm,hb⟩
 | false=>
  have HX:=Lib.hid hg
  clear hg
  go_enter Try.func87,Try.ntmps87
  go_wp2_with (go_at_call 61;refine (fa _ _ _ _).mono ?_;rintro e w' ⟨rfl,rfl⟩;rw [HX.out])
  go_ret
  exact ⟨cx (mY HX.out).symm,hb⟩
end Go.Proofs.Ytfpcfckocmmcnaa
namespace Go.Proofs.Ytfpcfckocmmcnaa
open Go.RowKit
theorem pY (z lo hi:Int) (b1 b2:Nat) (w:World) (h1:w.cell? ⟨b1,0,none⟩=some (.int .i64 lo)) (h2:w.cell? ⟨b2,0,none⟩=some (.int .i64 hi)):
  Calls Try.prog 97 #[.int .i64 z, .pointer (some ⟨b1,0,none⟩), .pointer (some ⟨b2,0,none⟩)] w fun e w'=>e= .returned (.bool (!kB z lo hi))∧w'=w:=by
 go_enter Try.func97,Try.ntmps97
 go_wp2_with (go_at_call 52;refine (eK _ _ _ _).mono ?_;rintro e w' ⟨rfl,rfl⟩)
 go_ret
 exact ⟨rfl,rfl⟩
theorem sY (ao:Option Addr) (n c:Nat) (zs:List Int) (lo hi:Int) (w:World) (h:cW w ao n zs):
  Calls Try.prog 84 #[.slice ao n c, .int .i64 lo, .int .i64 hi] w fun e w'=>e= .returned (.bool (zs.all (fun z=>kB z lo hi)))∧Below w.heap.size w w':=by
 have hmf:∀(fn:Fn) (first cap:Array Value) (w:World),(Instr.makeFunc fn first cap).run Try.prog w= .ok (.func fn first cap) w:=fun _ _ _ _=>rfl
 have hany:zs.any (fun z=> !kB z lo hi)= !(zs.all (fun z=>kB z lo hi)):=by rw [List.any_eq_not_all_not];simp
 have HA:=Lib.hid hany
 clear hany
 have hb:=below_alloc2 w (.cells #[.int .i64 lo] 2) (.cells #[.int .i64 hi] 2)
 have k1:dQ ((w.alloc (.cells #[.int .i64 lo] 2)).alloc (.cells #[.int .i64 hi] 2)) w.heap.size 2 #[.int .i64 lo]:=(bS rfl).alloc _
 have k2:dQ ((w.alloc (.cells #[.int .i64 lo] 2)).alloc (.cells #[.int .i64 hi] 2)) (w.heap.size + 1) 2 #[.int .i64 hi]:=bS (by simp)
 go_enter Try.func84,Try.ntmps84
 go_wp2_with fail
 refine (j6 97 #[.pointer (some ⟨w.heap.size,0,none⟩), .pointer (some ⟨w.heap.size + 1,0,none⟩)] (fun z=> !kB z lo hi) ao n c zs _ (h.below hb) (fun _ _=>by rfl)
  (fun j hj w' hb'=>(pY _ lo hi w.heap.size (w.heap.size + 1) w' ((k1.bm hb').cell 0) ((k2.bm hb').cell 0)).mono ?_)).mono ?_
 ·rintro e w1 ⟨rfl,rfl⟩;exact ⟨rfl,Below.refl _ _⟩
 rintro e w1 ⟨rfl,hb1⟩
 go_wp2
 go_ret
 exact ⟨cx (by rw [HA.out];simp),hb.trans (hb1.mono hb.size)⟩
theorem mv (g:Int) (ao:Option Addr) (n c:Nat) (zs:List Int) (w:World) (h:cW w ao n zs) (hg0:0≤g) (hg1:g≤1000):
  Calls Try.prog 56 #[.slice ao n c, .int .i64 g] w fun e w'=>e= .returned (.bool (cY (g - 1) zs))∧Below w.heap.size w w':=by
 have HL:=Lib.hid h.1
 have hn:=h.2.1
 by_cases hs:n≤64
 ·have h1:decide ((n:Int)≤64)=true:=by simp;omega
  go_enter Try.func56,Try.ntmps56
  go_wp2_with fail
  refine (sY ao n c zs _ _ _ h).mono ?_
  rintro e w1 ⟨rfl,hb1⟩
  go_wp2
  go_ret
  exact ⟨cx (by unfold cY;rw [HL.out];simp [hs]),hb1⟩
 ·have h1:decide ((n:Int)≤64)=false:=by simp;omega
  go_enter Try.func56,Try.ntmps56
  go_wp2
  go_ret
  exact ⟨cx (by unfold cY;rw [HL.out];simp;intro;omega),Below.refl _ _⟩
def sn (p:List Int→Bool) (zss:List (List Int)):Int:=match zss.findIdx? p with | some i=>i | none=> -1
theorem qT {p:List Int→Bool} {zss:List (List Int)} (h:zss.any p=false):sn p zss= -1:=by
 have:zss.findIdx? p=none:=by rw [List.findIdx?_eq_none_iff];intro x hx;have:=(List.any_eq_false.1 h) x hx;simpa using this
 simp [sn,this]
theorem yM {p:List Int→Bool} {zss:List (List Int)} {k:Nat} (hk:k < zss.length) (hn:(zss.take k).any p=false) (hp:p (aT zss k)=true):sn p zss=k:=by
 have:zss.findIdx? p=some k:=by
  rw [List.findIdx?_eq_some_iff_getElem]
  refine ⟨hk,by rw [←eF hk];exact hp,fun j hj=> ?_⟩
  have hx:zss[j]'ab∈zss.take k:=by rw [List.mem_take_iff_getElem];exact ⟨j,ab,rfl⟩
  have:=(List.any_eq_false.1 hn) _ hx
  simpa using this
 simp [sn,this]
theorem BD (p:List Int→Bool) (zss:List (List Int)):decide (0≤sn p zss)=zss.any p:=by
 cases h:zss.any p with
 | false=>rw [qT h];rfl
 | true=>
  rw [decide_eq_true_iff]
  unfold sn
  cases h2:zss.findIdx? p with
  | some i=>exact Int.natCast_nonneg i
  | none=>
   rw [List.findIdx?_eq_none_iff] at h2
   obtain ⟨x,hx,hp⟩:=List.any_eq_true.1 h
   have:=h2 x hx
   simp [hp] at this
theorem sC (fn:Nat) (cap:Array Value) (p:List Int→Bool) (ao:Option Addr) (n c:Nat) (zss:List (List Int)) (w:World) (h:ep w ao n zss)
  (hcf:∀(args:Array Value) (w:World),(callFunc fn args).run Try.prog w= .ok (.enter fn args) w)
  (hf:∀j,j < n→∀w' a' n' c',Below w.heap.size w w'→cW w' a' n' (aT zss j)→Calls Try.prog fn (#[.slice a' n' c'] ++ cap) w' fun e w''=>e= .returned (.bool (p (aT zss j)))∧Below w'.heap.size w' w''):
  Calls Try.prog 83 #[.slice ao n c, .func (.func fn) #[] cap] w fun e w'=>e= .returned (.int .i64 (sn p zss))∧Below w.heap.size w w':=by
 have hn:=h.2.1
 have HF:=Lib.hid hf
 clear hf
 have HL:=Lib.hid h.1
 go_enter Try.func83,Try.ntmps83
 go_wp2
 go_loopw [8] (fun i wr=>∃k:Nat,k≤n∧i= .int .i64 k∧(zss.take k).any p=false∧Below w.heap.size w wr) (fun i _=>n - (intOf i).toNat)
 case atStart=>exact ⟨0,Nat.zero_le _,rfl,by simp,Below.refl _ _⟩
 case round=>
  obtain ⟨k,hk,rfl,hpre,hb⟩:=hrel
  have HP:=Lib.hid hpre
  clear hpre
  by_cases hlt:k < n
  ·obtain ⟨b,off,a1,n1,c1,rfl,hc,hin⟩:=(h.below hb).at_ hlt
   have HI:=Lib.hid hin
   clear h hin
   cases hp:p (aT zss k) with
   | true=>
    have HX:=Lib.hid hp
    clear hp
    go_wp2_with fail
    refine (HF.out k hlt _ a1 n1 c1 hb HI.out).mono ?_
    rintro e w1 ⟨rfl,hb1⟩
    rw [HX.out]
    go_wp2
    go_ret
    exact ⟨gI (yM (by rw [HL.out];exact hlt) HP.out HX.out).symm,hb.trans (hb1.mono hb.size)⟩
   | false=>
    have HX:=Lib.hid hp
    clear hp
    go_wp2_with fail
    refine (HF.out k hlt _ a1 n1 c1 hb HI.out).mono ?_
    rintro e w1 ⟨rfl,hb1⟩
    rw [HX.out]
    go_wp2
    go_roundw
    case rel=>exact ⟨k + 1,ab,by go_num,by rw [sL (by rw [HL.out];exact hlt),HP.out,HX.out];rfl,hb.trans (hb1.mono hb.size)⟩
    case measure=>simp [intOf];omega
  ·obtain rfl:k=n:=by omega
   go_wp2
   go_ret
   exact ⟨gI (qT (by have:=HP.out;rwa [List.take_of_length_le (Nat.le_of_eq HL.out)] at this)).symm,hb⟩
theorem gK (fn:Nat) (cap:Array Value) (p:List Int→Bool) (ao:Option Addr) (n c:Nat) (zss:List (List Int)) (w:World) (h:ep w ao n zss)
  (hcf:∀(args:Array Value) (w:World),(callFunc fn args).run Try.prog w= .ok (.enter fn args) w)
  (hf:∀j,j < n→∀w' a' n' c',Below w.heap.size w w'→cW w' a' n' (aT zss j)→Calls Try.prog fn (#[.slice a' n' c'] ++ cap) w' fun e w''=>e= .returned (.bool (p (aT zss j)))∧Below w'.heap.size w' w''):
  Calls Try.prog 54 #[.slice ao n c, .func (.func fn) #[] cap] w fun e w'=>e= .returned (.bool (zss.any p))∧Below w.heap.size w w':=by
 have HF:=Lib.hid hf
 clear hf
 go_enter Try.func54,Try.ntmps54
 go_wp2_with fail
 refine (sC fn cap p ao n c zss w h hcf HF.out).mono ?_
 rintro e w1 ⟨rfl,hb1⟩
 go_wp2
 go_ret
 exact ⟨cx (BD p zss),hb1⟩
def oX (g:Int) (zs:List Int):Bool:= !(cY (g - 1) zs && decide (1≤zs.length))
theorem vf (g:Int) (b:Nat) (ao:Option Addr) (n c:Nat) (zs:List Int) (w:World) (h:cW w ao n zs) (hg0:0≤g) (hg1:g≤1000) (hc:w.cell? ⟨b,0,none⟩=some (.int .i64 g)):
  Calls Try.prog 71 #[.slice ao n c, .pointer (some ⟨b,0,none⟩)] w fun e w'=>e= .returned (.bool (oX g zs))∧Below w.heap.size w w':=by
 have HL:=Lib.hid h.1
 have hn:=h.2.1
 by_cases h0:n=0
 ·have e0:((n:Int) == 0)=true:=by simp;omega
  have H0:=Lib.hid h0
  clear h0
  go_enter Try.func71,Try.ntmps71
  go_wp2
  go_ret
  exact ⟨cx (by unfold oX;rw [HL.out,H0.out];simp),Below.refl _ _⟩
 ·have e0:((n:Int) == 0)=false:=by simp;omega
  have hz:decide (1≤n)=true:=by simp;omega
  have HZ:=Lib.hid hz
  clear hz
  go_enter Try.func71,Try.ntmps71
  go_wp2_with fail
  refine (mv g ao n c zs _ h hg0 hg1).mono ?_
  rintro e w1 ⟨rfl,hb1⟩
  go_wp2
  go_ret
  exact ⟨cx (by unfold oX;rw [HL.out,HZ.out];simp),hb1⟩
theorem ew {v:Value} {d:di} (w:World) (h:wZ w v d):
  Calls Try.prog 37 #[v] w fun e w'=>e= .returned (.bool (dN d))∧Below w.heap.size w w':=by
 obtain ⟨ao,n,c,rfl,hi⟩:=h
 have hmf:∀(fn:Fn) (first cap:Array Value) (w:World),(Instr.makeFunc fn first cap).run Try.prog w= .ok (.func fn first cap) w:=fun _ _ _ _=>rfl
 have hn:=hi.2.1
 have HL:=Lib.hid hi.1
 have hb:=below_alloc1 w (.cells #[.int .i64 d.1, .slice ao n c] 34)
 have kb:dQ (w.alloc (.cells #[.int .i64 d.1, .slice ao n c] 34)) w.heap.size 34 #[.int .i64 d.1, .slice ao n c]:=bS rfl
 cases hg:kB d.1 1 5 with
 | true=>
  have HX:=Lib.hid hg
  have hg':=dY.1 hg
  have hany:d.2.any (oX d.1)= !(d.2.all (fun zs=>cY (d.1 - 1) zs && decide (1≤zs.length))):=by
   rw [List.any_eq_not_all_not];congr 2;funext zs;unfold oX;exact Bool.not_not _
  have HA:=Lib.hid hany
  clear hg hany
  by_cases hs:n≤24
  ·have h1:decide ((n:Int)≤24)=true:=by simp;omega
   go_enter Try.func37,Try.ntmps37
   go_wp2_with (go_at_call 52;refine (eK _ _ _ _).mono ?_;rintro e w' ⟨rfl,rfl⟩;rw [HX.out])
   refine (gK 71 #[.pointer (some ⟨w.heap.size,0,none⟩)] (oX d.1) ao n c d.2 _ (hi.below hb) (fun _ _=>by rfl)
    (fun j hj w' a' n' c' hb' hin=>vf d.1 w.heap.size a' n' c' _ w' hin ab ab ((kb.bm hb').cell 0))).mono ?_
   rintro e w1 ⟨rfl,hb1⟩
   go_wp2
   go_ret
   exact ⟨cx (by rw [HA.out,pg HX.out];unfold dT;rw [HL.out];simp [hs]),hb.trans (hb1.mono hb.size)⟩
  ·have h1:decide ((n:Int)≤24)=false:=by simp;omega
   go_enter Try.func37,Try.ntmps37
   go_wp2_with (go_at_call 52;refine (eK _ _ _ _).mono ?_;rintro e w' ⟨rfl,rfl⟩;rw [HX.out])
   go_ret
   exact ⟨cx (by rw [pg HX.out];unfold dT;rw [HL.out];simp;intro;omega),hb⟩
 | false=>
  have HX:=Lib.hid hg
  clear hg
  go_enter Try.func37,Try.ntmps37
  go_wp2_with (go_at_call 52;refine (eK _ _ _ _).mono ?_;rintro e w' ⟨rfl,rfl⟩;rw [HX.out])
  go_ret
  exact ⟨cx (mY HX.out).symm,hb⟩
end Go.Proofs.Ytfpcfckocmmcnaa
namespace Go.Proofs.Ytfpcfckocmmcnaa
open Go.RowKit
theorem jO {d:di} (h:dN d=true):1≤d.1∧d.1≤5:=by
 cases hg:kB d.1 1 5 with
 | false=>rw [mY hg] at h;cases h
 | true=>exact dY.1 hg
end Go.Proofs.Ytfpcfckocmmcnaa
namespace Go.Proofs.Ytfpcfckocmmcnaa
open Go.RowKit
def dP (d:di) (ws:List (List Int)):Bool:=dN d && dT d.1 0 ws
def eN (d:di) (ws:List (List Int)):Int:=if dP d ws=true then 0 else 1
theorem nO {v:Value} {d:di} (ao:Option Addr) (n c:Nat) (ws:List (List Int)) (w:World) (h:wZ w v d) (h':ep w ao n ws):
  Calls Try.prog 62 #[v, .slice ao n c] w fun e w'=>e= .returned (.int .i64 (eN d ws))∧Below w.heap.size w w':=by
 obtain ⟨ro,rn,rc,rfl,hr⟩:=h
 have hb:=below_alloc1 w (.cells #[.int .i64 d.1, .slice ro rn rc] 34)
 have kb:dQ (w.alloc (.cells #[.int .i64 d.1, .slice ro rn rc] 34)) w.heap.size 34 #[.int .i64 d.1, .slice ro rn rc]:=bS rfl
 have hp0:wZ (w.alloc (.cells #[.int .i64 d.1, .slice ro rn rc] 34)) (.agg #[.int .i64 d.1, .slice ro rn rc]) d:=⟨ro,rn,rc,rfl,hr.below hb⟩
 cases hp:dN d with
 | false=>
  have HP:=Lib.hid hp
  have hC:eN d ws=1:=by unfold eN dP;rw [hp];rfl
  rw [hC]
  clear hp hC
  go_enter Try.func62,Try.ntmps62
  go_wp2_with fail
  refine (nG _ hp0).mono ?_
  rintro e w1 ⟨rfl,b1⟩
  rw [HP.out]
  go_wp2_with fail
  go_ret
  exact ⟨rfl,bc b1 hb⟩
 | true=>
  have hg:=jO hp
  have HP:=Lib.hid hp
  clear hp
  go_enter Try.func62,Try.ntmps62
  go_wp2_with fail
  refine (nG _ hp0).mono ?_
  rintro e w1 ⟨rfl,b1⟩
  rw [HP.out]
  have B1:=bc b1 hb
  have y0:w1.cell? ⟨w.heap.size,0,none⟩=some (.int .i64 d.1):=(kb.bm b1).cell 0
  have h1:=h'.below B1
  clear hp0 kb hb b1 hr h'
  cases hw:dT d.1 0 ws with
  | false=>
   have HW:=Lib.hid hw
   have hC:eN d ws=1:=by unfold eN dP;rw [hw];simp
   have HC:=Lib.hid hC
   clear hw hC
   go_wp2_with (go_at_call 88;refine (iO d.1 0 ao n c ws _ h1 ab ab).mono ?_;rintro e w' ⟨rfl,rfl⟩;rw [HW.out])
   go_ret
   exact ⟨gI HC.out.symm,B1⟩
  | true=>
   have HW:=Lib.hid hw
   have hC:eN d ws=0:=by unfold eN dP;rw [hw,HP.out];rfl
   have HC:=Lib.hid hC
   clear hw hC
   go_wp2_with (go_at_call 88;refine (iO d.1 0 ao n c ws _ h1 ab ab).mono ?_;rintro e w' ⟨rfl,rfl⟩;rw [HW.out])
   go_ret
   exact ⟨gI HC.out.symm,B1⟩
theorem ru (b0:Nat) (g:Int) (ap:Option Addr) (np cp:Nat) (q:List Int) (w:World) (hc:w.cell? ⟨b0,0,none⟩=some (.int .i64 g)) (hq:cW w ap np q) (hg0:0≤g) (hg1:g≤1000):
  Calls Try.prog 55 #[.slice ap np cp, .pointer (some ⟨b0,0,none⟩)] w fun e w'=>e= .returned (.bool (!cY (g - 1) q))∧Below w.heap.size w w':=by
 go_enter Try.func55,Try.ntmps55
 go_wp2_with fail
 refine (mv g ap np cp q _ hq hg0 hg1).mono ?_
 rintro e w1 ⟨rfl,b1⟩
 go_wp2
 go_ret
 exact ⟨rfl,b1⟩
theorem tX (g:Int) (ws:List (List Int)):ws.any (fun q=> !cY (g - 1) q)= !(ws.all fun q=>cY (g - 1) q):=by
 rw [List.any_eq_not_all_not];simp
theorem Cj (g:Int) (ws:List (List Int)) (h:ws.length≤24):dT g 0 ws=ws.all fun q=>cY (g - 1) q:=by
 unfold dT;simp [h]
theorem fg {v:Value} {d:di} (ao:Option Addr) (n c:Nat) (ws:List (List Int)) (w:World) (h:wZ w v d) (h':ep w ao n ws):
  Calls Try.prog 27 #[v, .slice ao n c] w fun e w'=>e= .returned (.int .i64 (eN d ws))∧Below w.heap.size w w':=by
 obtain ⟨ro,rn,rc,rfl,hr⟩:=h
 have hmf:∀(fn:Fn) (first cap:Array Value) (w:World),(Instr.makeFunc fn first cap).run Try.prog w= .ok (.func fn first cap) w:=fun _ _ _ _=>rfl
 have HL:=Lib.hid h'.1
 have hn1:=h'.2.1
 have hb:=below_alloc1 w (.cells #[.int .i64 d.1, .slice ro rn rc] 34)
 have kb:dQ (w.alloc (.cells #[.int .i64 d.1, .slice ro rn rc] 34)) w.heap.size 34 #[.int .i64 d.1, .slice ro rn rc]:=bS rfl
 have KB:=Lib.hid kb
 have hr1:wZ (w.alloc (.cells #[.int .i64 d.1, .slice ro rn rc] 34)) (.agg #[.int .i64 d.1, .slice ro rn rc]) d:=⟨ro,rn,rc,rfl,hr.below hb⟩
 have h1:=h'.below hb
 have HB:=Lib.hid hb
 clear kb hb hr h'
 cases hp:dN d with
 | false=>
  have HP:=Lib.hid hp
  have hC:eN d ws=1:=by unfold eN dP;rw [hp];rfl
  have HC:=Lib.hid hC
  clear hp hC
  go_enter Try.func27,Try.ntmps27
  go_wp2_with fail
  refine (ew _ hr1).mono ?_
  rintro e w1 ⟨rfl,b1⟩
  rw [HP.out]
  have bq:=b1
  go_wp2_with fail
  go_ret
  exact ⟨gI HC.out.symm,bc bq HB.out⟩
 | true=>
  have hg:=jO hp
  have HP:=Lib.hid hp
  clear hp
  by_cases hs:n≤24
  ·have hs1:decide ((24:Int) < n)=false:=by simp;omega
   have hwo:=Cj d.1 ws (by rw [HL.out];exact hs)
   cases hw:dT d.1 0 ws with
   | false=>
    have hC:eN d ws=1:=by unfold eN dP;rw [hw];simp
    have HC:=Lib.hid hC
    have HA:Hid ((ws.any fun q=> !cY (d.1 - 1) q)=true):=Lib.hid (by rw [tX,←hwo,hw];rfl)
    clear hw hC hwo
    go_enter Try.func27,Try.ntmps27
    go_wp2_with fail
    refine (ew _ hr1).mono ?_
    rintro e w1 ⟨rfl,b1⟩
    rw [HP.out]
    have hc1:=(KB.out.bm b1)
    have h2:=h1.below b1
    go_wp2_with fail
    refine (gK 55 #[.pointer (some ⟨w.heap.size,0,none⟩)] (fun q=> !cY (d.1 - 1) q) ao n c ws _ h2 (fun _ _=>by rfl) (fun j hj w' a' n' c' hb' hi=>ru w.heap.size d.1 a' n' c' _ w' ((hc1.bm hb').cell 0) hi ab ab)).mono ?_
    rintro e wq ⟨rfl,b2⟩
    rw [HA.out]
    have bq:=bc b2 b1
    go_wp2_with fail
    go_ret
    exact ⟨gI HC.out.symm,bc bq HB.out⟩
   | true=>
    have hC:eN d ws=0:=by unfold eN dP;rw [hw,HP.out];rfl
    have HC:=Lib.hid hC
    have HA:Hid ((ws.any fun q=> !cY (d.1 - 1) q)=false):=Lib.hid (by rw [tX,←hwo,hw];rfl)
    clear hw hC hwo
    go_enter Try.func27,Try.ntmps27
    go_wp2_with fail
    refine (ew _ hr1).mono ?_
    rintro e w1 ⟨rfl,b1⟩
    rw [HP.out]
    have hc1:=(KB.out.bm b1)
    have h2:=h1.below b1
    go_wp2_with fail
    refine (gK 55 #[.pointer (some ⟨w.heap.size,0,none⟩)] (fun q=> !cY (d.1 - 1) q) ao n c ws _ h2 (fun _ _=>by rfl) (fun j hj w' a' n' c' hb' hi=>ru w.heap.size d.1 a' n' c' _ w' ((hc1.bm hb').cell 0) hi ab ab)).mono ?_
    rintro e wq ⟨rfl,b2⟩
    rw [HA.out]
    have bq:=bc b2 b1
    go_wp2_with fail
    go_ret
    exact ⟨gI HC.out.symm,bc bq HB.out⟩
  ·have hs1:decide ((24:Int) < n)=true:=by simp;omega
   have hC:eN d ws=1:=by unfold eN dP dT;rw [decide_eq_false (by rw [HL.out];exact hs)];simp
   have HC:=Lib.hid hC
   clear hC
   go_enter Try.func27,Try.ntmps27
   go_wp2_with fail
   refine (ew _ hr1).mono ?_
   rintro e w1 ⟨rfl,b1⟩
   rw [HP.out]
   have bq:=b1
   go_wp2_with fail
   go_ret
   exact ⟨gI HC.out.symm,bc bq HB.out⟩
end Go.Proofs.Ytfpcfckocmmcnaa
namespace Go.Proofs.Ytfpcfckocmmcnaa
open Go.RowKit
theorem Jl {η:Env} {ω:bW} {w:World} {x:Nat} {own:Bool} {E F:Nat} {ins:List (Nm×Ch)} {g:Int} {zss:List (List Int)} {v:Value} (hm:Mem η ω w (fun x=>lk x ins)) (hx:lk x ins=some ⟨own,E,1, .rows F (bU zss) []⟩) (hv:gT η (.agg [.val (I6 g), .sl x 0 zss.length]) v) (hn:zss.length≤17592186044416) (hr:∀zs∈zss,zs.length≤17592186044416):wZ w v (g,zss):=by
 obtain ⟨us,rfl,hl,ha⟩:=hv
 obtain ⟨u0,g0,d0⟩:=ha 0 _ rfl
 obtain ⟨u1,g1,d1⟩:=ha 1 _ rfl
 have d0:u0=I6 g:=d0
 subst d0
 obtain ⟨ao,c,rfl,hi⟩:=IV hm hx d1 hn hr
 refine ⟨ao,zss.length,c, ?_,hi⟩
 match us,hl with
 | ⟨[p,q]⟩,_=>simp at g0 g1;rw [g0,g1]
abbrev pA (g:Int) (R:Nat):AV:= .s (.agg [.val (I6 g), .sl 1003 0 R])
def Fit (zss:List (List Int)):Prop:=zss.length≤4398046511104∧∀zs∈zss,zs.length≤4398046511104
theorem F9 {us:List Value} {u0:Value} (hl:us.length=1) (g0:us[0]? =some u0):us= [u0]:=by
 match us,hl with
 | [p],_=>simp at g0;rw [g0]
theorem zf {E1 E:Nat} {w:World} {lo hi:Nat} {v:Value} {zss:List (List Int)} (h:pP E1 E w lo hi v zss):Fit zss:=by
 obtain ⟨ao,n,c,us,rfl,ho⟩:=h
 refine ⟨by have:=ho.own.2;have:=ho.len;omega,fun zs hz=> ?_⟩
 obtain ⟨j,hj,rfl⟩:=List.getElem_of_mem hz
 obtain ⟨u,d,hu,hd,⟨a',n',c',rfl,h1⟩,_⟩:=ho.get (j:=j) (by have:=ho.len;omega)
 rw [List.getElem?_eq_getElem hj] at hd
 have:=h1.len
 have h2:=h1.2
 rw [Option.some.inj hd]
 simp at this;omega
theorem Jc {E1 E:Nat} {w:World} {lo hi:Nat} {v:Value} {d:di} (h:oN E1 E w lo hi v d):∃u,v= .agg #[I6 d.1,u]∧pP E1 E w lo hi u d.2:=by
 obtain ⟨ao,n,c,us,rfl,ho⟩:=h
 exact ⟨_,rfl,_,_,_,us,rfl,ho⟩
theorem DI {η:Env} {a:AV} {u:Value} (h:Den η a u):nd η [a] [u]:=⟨rfl,fun j av hj=>by
 match j,hj with
 | 0,hj=>simp at hj;subst hj;exact ⟨u,rfl,h⟩⟩
theorem Az {η:Env} {a b:AV} {u v:Value} (h:Den η a u) (h':Den η b v):nd η [a,b] [u,v]:=⟨rfl,fun j av hj=>by
 match j,hj with
 | 0,hj=>simp at hj;subst hj;exact ⟨u,rfl,h⟩
 | 1,hj=>simp at hj;subst hj;exact ⟨v,rfl,h'⟩⟩
theorem Hy {η:Env} {g:Int} {R:Nat} {u:Value} (h:dm η (.sl 1003 0 R) u):Den η (pA g R) (.agg #[I6 g,u]):=⟨_,rfl,rfl,fun j b hb=>by
 match j,hb with
 | 0,hb=>simp at hb;subst hb;exact ⟨_,by simp,rfl⟩
 | 1,hb=>simp at hb;subst hb;exact ⟨_,by simp,h⟩⟩
theorem nU {η:Env} {a b:A2} {v:Value} (h:Den η (.tup [a,b]) v):∃u u',v= .tuple #[u,u']∧gT η a u∧gT η b u':=by
 obtain ⟨us,rfl,hl,ha⟩:=h
 obtain ⟨u0,g0,d0⟩:=ha 0 _ rfl
 obtain ⟨u1,g1,d1⟩:=ha 1 _ rfl
 refine ⟨u0,u1, ?_,d0,d1⟩
 match us,hl with
 | ⟨[p,q]⟩,_=>simp at g0 g1;rw [g0,g1]
theorem Hm {f:FuncId} {outs:List (Nm×Ch)} {res:AV} {d:di} (hf:Fit d.2→FC Try.prog f [(1003,bh d.2)] [pA d.1 d.2.length] outs res []) {E1 E:Nat} {w:World} {lo hi:Nat} {v:Value} (h:oN E1 E w lo hi v d):
  Calls Try.prog f #[v] w fun e w'=>∃v η ω,e= .returned v∧Den η res v∧Mem η ω w' (fun x=>lk x outs)∧Below w.heap.size w w'∧∀b,b < w.heap.size→ω b=none:=by
 obtain ⟨u,rfl,hs⟩:=Jc h
 obtain ⟨hd,r,rfl,hv⟩:=G2 1003 24 2 hs
 exact (hf (zf hs)).call (l:= [(1003,(bh d.2,hd,r))]) (us:= [_]) (fun p hp=>by simp at hp;subst hp;exact hv) rfl (DI (Hy (nc (q:=(bh d.2,hd,r)) rfl)))
theorem rP {P:Program} {f:FuncId} {args:Array Value} {w:World} {a b:Value} {outs:List (Nm×Ch)} (h:Calls P f args w fun e w'=>∃v η ω,e= .returned v∧Den η (.tup [.one (.val a), .one (.val b)]) v∧Mem η ω w' (fun x=>lk x outs)∧Below w.heap.size w w'∧∀b,b < w.heap.size→ω b=none):
  Calls P f args w fun e w'=>e= .returned (.tuple #[a,b])∧Below w.heap.size w w':=by
 refine h.mono ?_
 rintro e w' ⟨v,η,ω,rfl,hd,_,hb,_⟩
 obtain ⟨u,u',rfl,h1,h2⟩:=nU hd
 have h1:u=a:=h1
 have h2:u'=b:=h2
 subst h1 h2
 exact ⟨rfl,hb⟩
theorem uA {P:Program} {f:FuncId} {args:Array Value} {w:World} {a:Value} {outs:List (Nm×Ch)} (h:Calls P f args w fun e w'=>∃v η ω,e= .returned v∧Den η (vv a) v∧Mem η ω w' (fun x=>lk x outs)∧Below w.heap.size w w'∧∀b,b < w.heap.size→ω b=none):
  Calls P f args w fun e w'=>e= .returned a∧Below w.heap.size w w':=by
 refine h.mono ?_
 rintro e w' ⟨v,η,ω,rfl,hd,_,hb,_⟩
 have hd:v=a:=hd
 subst hd
 exact ⟨rfl,hb⟩
abbrev mA (R:Nat):AV:= .s (.agg [.sl 1003 0 R])
theorem ofM {E1 E:Nat} {w:World} {lo hi:Nat} {v:Value} {d:List (List Int)} (h:sQ E1 E w lo hi v d):∃u,v= .agg #[u]∧pP E1 E w lo hi u d:=by
 obtain ⟨ao,n,c,us,rfl,ho⟩:=h
 exact ⟨_,rfl,_,_,_,us,rfl,ho⟩
theorem H4 {η:Env} {R:Nat} {u:Value} (h:dm η (.sl 1003 0 R) u):Den η (mA R) (.agg #[u]):=⟨_,rfl,rfl,fun j b hb=>by
 match j,hb with
 | 0,hb=>simp at hb;subst hb;exact ⟨_,by simp,h⟩⟩
theorem Fm {f:FuncId} {outs:List (Nm×Ch)} {res:AV} {d:List (List Int)} (hf:Fit d→FC Try.prog f [(1003,bh d)] [mA d.length] outs res []) {E1 E:Nat} {w:World} {lo hi:Nat} {v:Value} (h:sQ E1 E w lo hi v d):
  Calls Try.prog f #[v] w fun e w'=>∃v η ω,e= .returned v∧Den η res v∧Mem η ω w' (fun x=>lk x outs)∧Below w.heap.size w w'∧∀b,b < w.heap.size→ω b=none:=by
 obtain ⟨u,rfl,hs⟩:=ofM h
 obtain ⟨hd,r,rfl,hv⟩:=G2 1003 24 2 hs
 exact (hf (zf hs)).call (l:= [(1003,(bh d,hd,r))]) (us:= [_]) (fun p hp=>by simp at hp;subst hp;exact hv) rfl (DI (H4 (nc (q:=(bh d,hd,r)) rfl)))
end Go.Proofs.Ytfpcfckocmmcnaa
namespace Go.Proofs.Ytfpcfckocmmcnaa
open Go.RowKit
section
variable {P:Program} {η:Env} {ω:bW} {w:World}
theorem Env.Cx {x:Nm} {hd:Hd} {r:Nat→Hd} {av:AV} (h:av.has x=false):av.mono η (η.new x hd r):=fun y hy=>Env.new_ne η hd r y fun e=>by rw [e,h] at hy;cases hy
theorem FC.IT {f:FuncId} {ins outs:List (Nm×Ch)} {a0 res:AV} {back:List (Nat×AV)} {x:Nm} {E:TypeId} {d:fQ} (h:FC P f ((x,⟨false,E,1,d⟩) :: ins) [a0,o1 (.sl x 0 0)] outs res back) (hd:d.len=0) (hx:lk x ins=none) (h0:a0.has x=false) (hb:∀t av,lk t back=some av→t≠1)
  (hq:∀y c,lk y ins=some c→∀l,c.d≠ .flat l):FC P f ins [a0,vv (.slice none 0 0)] outs res back:=by
 intro w η ω us hm hdl
 obtain ⟨hl,ha⟩:=hdl
 obtain ⟨u0,g0,d0⟩:=ha 0 _ rfl
 obtain ⟨u1,g1,d1⟩:=ha 1 _ rfl
 have d1:u1= .slice none 0 0:=d1
 subst d1
 refine h w (η.new x ⟨none,0,1⟩ fun _=>⟨none,0,1⟩) ω us ⟨fun y c hy=> ?_,fun y hy=> ?_⟩ ⟨hl,fun j av hj=> ?_⟩
 ·by_cases e:y=x
  ·subst e
   simp [lk] at hy
   subst hy
   refine ⟨⟨none,0,1⟩,by simp [Env.new],rfl, ?_⟩
   show DB ω w _ d.len _
   rw [hd]
   exact ⟨Nat.zero_le _,fun j hj=>absurd hj ab⟩
  ·have hy:lk y ins=some c:=by simpa [lk,dC e] using hy
   obtain ⟨h',k1,k2⟩:=hm.1 y c hy
   exact ⟨h',by simp [Env.new,e,k1],k2.same (Same.refl ω w fun _=>True) trivial (fun _=>trivial) (fun i=>by simp [Env.new,e]) fun l hl=>absurd hl (hq y c hy l)⟩
 ·have e:y≠x:=fun e=>by subst e;simp [lk] at hy
  have hy:lk y ins=none:=by simpa [lk,dC e] using hy
  simp [Env.new,e,hm.2 y hy]
 ·match j,hj with
  | 0,hj=>simp at hj;subst hj;exact ⟨u0,g0,d0.mono (Env.Cx h0)⟩
  | 1,hj=>
   simp at hj;subst hj
   refine ⟨_,g1,⟨_,_,rfl⟩,fun hd' he=> ?_⟩
   simp [Env.new] at he;subst he
   exact ⟨_,rfl,fun _=>rfl,fun h0=>absurd h0 ab⟩
end
theorem Bc (g:Int) (rels:List (List Int)) (h1:Fit rels):FC Try.prog 37 [(1003,bh rels)] [pA g rels.length] [] (vv (.bool (dN (g,rels)))) []:=
 jG fun w η ω us hm ⟨hl,ha⟩=>by
  obtain ⟨u0,g0,d0⟩:=ha 0 _ rfl
  have hp:=Jl (x:=1003) (zss:=rels) hm rfl d0 (by have:=h1.1;omega) fun zs hz=>by have:=h1.2 zs hz;omega
  rw [F9 hl g0]
  exact ew w hp
structure Good (ng:Nat) (rels ws:List (List Int)):Prop where
 pos:0 < ng
 hi:ng≤5
 r:rels.length≤24
 w:ws.length≤24
 rl:∀w∈rels,bA ng w
 wl:∀w∈ws,bA ng w
 rn:∀w∈rels,w.length≤1000000000
 wn:∀w∈ws,w.length≤1000000000
theorem mw {g:Int} {ng:Nat} (hg:g=ng) {z:List Int} (h:cY (g - 1) z=true):bA ng z∧z.length≤64:=by
 unfold cY at h
 rw [Bool.and_eq_true,List.all_eq_true] at h
 exact ⟨fun x hx=>by have:=dY.1 (h.2 x hx);omega,of_decide_eq_true h.1⟩
theorem jE {g:Int} {rels ws:List (List Int)} (h:dP (g,rels) ws=true):∃ng:Nat,g=(ng:Int)∧Good ng rels ws:=by
 unfold dP at h
 rw [Bool.and_eq_true] at h
 obtain ⟨h1,h2⟩:=h
 have hg:=jO h1
 have hge:g=((g.toNat:Nat):Int):=(Int.toNat_of_nonneg (by dsimp only at hg;omega)).symm
 unfold dN at h1
 rw [Bool.and_eq_true,Bool.and_eq_true,List.all_eq_true] at h1
 unfold dT at h2
 rw [Bool.and_eq_true,List.all_eq_true] at h2
 have hr:∀w∈rels,bA g.toNat w∧w.length≤64:=fun w hw=>by
  have:=h1.2 w hw
  rw [Bool.and_eq_true] at this
  exact mw hge this.1
 have hw:∀w∈ws,bA g.toNat w∧w.length≤64:=fun w hw=>by
  have:=h2.2 w hw
  rw [Bool.and_eq_true] at this
  exact mw hge this.1
 dsimp only at hg
 exact ⟨g.toNat,hge,ab,ab,of_decide_eq_true h1.1.2,of_decide_eq_true h2.1,fun w h=>(hr w h).1,fun w h=>(hw w h).1,fun w h=>by have:=(hr w h).2;omega,fun w h=>by have:=(hw w h).2;omega⟩
def pS (d:di) (ws:List (List Int)):dR:=dq d.1.toNat d.2 ws
def lr (d:di) (ws:List (List Int)):Nat:=(cq d.1.toNat (pS d ws).1 (pS d ws).2.1).1.length
def bX (d:di) (ws:List (List Int)):List (List Int):=dv d.1.toNat (pS d ws).1 (pS d ws).2.1
def yD (d:di) (ws:List (List Int)):Int:=if dP d ws=true then (if (pS d ws).2.2=true then 0 else (lr d ws:Int)) else 0
def yv (d:di) (ws:List (List Int)):Int:=if dP d ws=true then (if (pS d ws).2.2=true then 3 else 0) else 1
theorem jS (ng:Nat) (im:List (List Int)) (less:List Int):(dv ng im less).length=ng:=by simp [dv]
theorem my {ng g:Nat} (im:List (List Int)) (less:List Int) (h:g < ng):(aT (dv ng im less) g).length=(cq ng im less).1.length:=by
 simp [dv,aT,h]
theorem vA {ng:Nat} {rels ws:List (List Int)} (h:Good ng rels ws) (hf:(dq ng rels ws).2.2=true):
  FC Try.prog 66 [(1002,bh ws),(1003,bh rels)] [pA ng rels.length,o1 (.sl 1002 0 ws.length)] [] (.tup [.one (.val (.slice none 0 0)), .one (.val (.bool false))]) []:=
 pW ng rels ws _ _ rfl rfl h.rl h.wl (by have:=h.hi;omega) h.rn h.wn (by have:=h.r;omega) (by have:=h.w;omega) hf
theorem mF {ng:Nat} {rels ws:List (List Int)} (h:Good ng rels ws) (hf:(dq ng rels ws).2.2=false):
  FC Try.prog 66 [(1002,bh ws),(1003,bh rels)] [pA ng rels.length,o1 (.sl 1002 0 ws.length)] [(69,cS (dv ng (dq ng rels ws).1 (dq ng rels ws).2.1))] (.tup [.one (.sl 69 0 ng), .one (.val (.bool true))]) []:=
 sS ng rels ws _ _ rfl rfl h.rl h.wl (by have:=h.hi;omega) h.rn h.wn (by have:=h.r;omega) (by have:=h.w;omega) hf
theorem nL {ng:Nat} {rels ws:List (List Int)} (h:Good ng rels ws) (hf:(dq ng rels ws).2.2=true):
  FC Try.prog 38 [(1002,bh ws),(1003,bh rels)] [pA ng rels.length,o1 (.sl 1002 0 ws.length)] [] (.tup [.one (.val (.slice none 0 0)), .one (.val (.bool false))]) []:=by
 have:=mH ng rels ws _ _ rfl rfl h.rl h.wl h.pos (by have:=h.hi;omega) h.rn h.wn (by have:=h.r;omega) (by have:=h.w;omega) _ rfl
 have hf':(BR ng rels ws).2.2=true:=by
  rcases pf ng rels ws with e | e
  ·rw [←e];exact hf
  ·exact e.2
 rwa [if_pos hf',if_pos hf'] at this
theorem jW {ng:Nat} {rels ws:List (List Int)} (h:Good ng rels ws) (hf:(dq ng rels ws).2.2=false):
  FC Try.prog 38 [(1002,bh ws),(1003,bh rels)] [pA ng rels.length,o1 (.sl 1002 0 ws.length)] [(131,cS (dv ng (dq ng rels ws).1 (dq ng rels ws).2.1))] (.tup [.one (.sl 131 0 ng), .one (.val (.bool true))]) []:=by
 have:=mH ng rels ws _ _ rfl rfl h.rl h.wl h.pos (by have:=h.hi;omega) h.rn h.wn (by have:=h.r;omega) (by have:=h.w;omega) _ rfl
 have he:dq ng rels ws=BR ng rels ws:=by
  rcases pf ng rels ws with e | e
  ·exact e
  ·rw [hf] at e;exact absurd e.1 (by simp)
 rw [←he,if_neg (by rw [hf];simp),if_neg (by rw [hf];simp)] at this
 exact this
end Go.Proofs.Ytfpcfckocmmcnaa
namespace Go.Proofs.Ytfpcfckocmmcnaa
open Go.RowKit
theorem G1 {α:Type} {x y:Nat} {c d:α} (h:lk y [(x,c)]=some d):d=c:=by
 simp only [lk] at h
 cases hb:Nat.beq y x with
 | true=>rw [hb] at h;simpa using h.symm
 | false=>rw [hb] at h;simp at h
theorem GB {rels:List (List Int)} :∀y c,lk y [(1003,bh rels)]=some c→∀l,c.d≠ .flat l:=fun y c h l e=>by
 rw [G1 h] at e;cases e
theorem FC.F0 {f:FuncId} {g:Int} {rels:List (List Int)} {outs:List (Nm×Ch)} {res:AV} (h:FC Try.prog f [(1002,bh []),(1003,bh rels)] [pA g rels.length,o1 (.sl 1002 0 0)] outs res []):FC Try.prog f [(1003,bh rels)] [pA g rels.length,vv (.slice none 0 0)] outs res []:=
 FC.IT (x:=1002) h rfl rfl rfl (fun t av h=>by cases h) GB
theorem gz {g:Int} {rels:List (List Int)} :dP (g,rels) []=dN (g,rels):=by unfold dP dT;simp
theorem vo (g:Int) (rels:List (List Int)) (h1:Fit rels):
  FC Try.prog 11 [(1003,bh rels)] [pA g rels.length] [] (.tup [.one (.val (I6 (yD (g,rels) []))), .one (.val (I6 (yv (g,rels) [])))]) []:=by
 have hC:=Bc g rels h1
 refine cu (nt:=20) Try.func11 rfl rfl (by simp) fun w0 ω0=> ?_
 by_cases hok:dP (g,rels) []=true
 ·obtain ⟨ng,rfl,hG⟩:=jE hok
  rw [←gz,hok] at hC
  unfold yD yv
  rw [if_pos hok,if_pos hok]
  (refine au (ah (aa rfl (du rfl rfl rfl rfl) (aa rfl (ay rfl rfl) (aa rfl (ay rfl rfl) (aA (ax (au (au (ah (aa rfl (bz rfl rfl rfl rfl rfl rfl ae) ?_))))))))));apply aa rfl;(apply aI 37;exact aL hC ae rfl rfl ⟨⟨.inl rfl, .inl rfl,aq⟩,aq⟩ ⟨⟨_,rfl, .inl rfl⟩,aq⟩ rfl rfl);refine aa rfl (cP rfl rfl) (aA (ax ?_)))
  refine bf rfl (fun e=>by cases e) (fun _=> ?_)
  have hX:pS ((ng:Int),rels) []=dq ng rels []:=by unfold pS;rw [Int.toNat_natCast]
  rw [hX]
  cases hf:(dq ng rels []).2.2 with
  | true=>
   have hT:=(nL hG hf).F0
   rw [if_pos rfl,if_pos rfl]
   (refine aU (ax (au (ah (aa rfl (bz rfl rfl rfl rfl rfl rfl ae) ?_))));apply aa rfl;(apply aI 38;exact aL hT ae rfl rfl ⟨⟨.inl rfl, .inl rfl,aq⟩,rfl,aq⟩ ⟨⟨_,rfl, .inl rfl⟩,aq⟩ rfl rfl);refine aa rfl (an rfl rfl) (aa rfl (aW rfl rfl rfl) (aa rfl (aW rfl rfl rfl) (aa rfl (ay rfl rfl) (aa rfl (ay rfl rfl) (aA (ax (au (au (ah (aa rfl (an rfl rfl) (aa rfl (cP rfl rfl) ?_)))))))))));refine aA (ax ?_))
   refine bf rfl (fun _=> ?_) (fun e=>by cases e)
   (refine au (ah (aa rfl (ay rfl rfl) (aa rfl (ay rfl rfl) (aA (ax (bw (aJ ?_))))))))
   exact dJ (.inl rfl) rfl (.tmp rfl) (.tmp rfl) trivial trivial
  | false=>
   have hT:=(jW hG hf).F0
   have hN:lr ((ng:Int),rels) []=(aT (dv ng (dq ng rels []).1 (dq ng rels []).2.1) 0).length:=by
    unfold lr;rw [hX,Int.toNat_natCast,my _ _ hG.pos]
   rw [if_neg (by simp),if_neg (by simp),hN]
   have hrow:(bU (dv ng (dq ng rels []).1 (dq ng rels []).2.1))[0]? =some (aV (aT (dv ng (dq ng rels []).1 (dq ng rels []).2.1) 0)):=bV (by rw [jS];exact hG.pos)
   have hlen:(bU (dv ng (dq ng rels []).1 (dq ng rels []).2.1)).length=ng:=by rw [cB,jS]
   have hpos:=hG.pos
   generalize dv ng (dq ng rels []).1 (dq ng rels []).2.1=T at *
   have hS:=qG 131 0 (aT T 0).length
   (refine aU (ax (au (ah (aa rfl (bz rfl rfl rfl rfl rfl rfl ae) ?_))));apply aa rfl;(apply aI 38;exact dK hT ae rfl rfl ⟨⟨.inl rfl, .inl rfl,aq⟩,rfl,aq⟩ ⟨⟨_,rfl, .inl rfl⟩,aq⟩ rfl rfl rfl);refine aa rfl (an rfl rfl) (aa rfl (aW rfl rfl rfl) (aa rfl (aW rfl rfl rfl) (aa rfl (ay rfl rfl) (aa rfl (ay rfl rfl) (aA (ax (au (au (ah (aa rfl (an rfl rfl) (aa rfl (cP rfl rfl) ?_)))))))))));refine aA (ax ?_))
   refine bf rfl (fun e=>by cases e) (fun _=> ?_)
   (refine aU (ax (au (ah (aa rfl (an rfl rfl) ?_))));apply aa rfl;(first | exact aP (j:=0) rfl rfl rfl rfl rfl ae rfl hpos (Nat.le_of_eq hlen.symm) | (apply aI 39;exact aL hS ae rfl rfl ⟨rfl,aq⟩ trivial rfl rfl));apply aa rfl;exact aM rfl ae rfl rfl rfl aK df;apply aa rfl;(first | exact aP (j:=0) rfl rfl rfl rfl rfl ae rfl hpos (Nat.le_of_eq hlen.symm) | (apply aI 39;exact aL hS ae rfl rfl ⟨rfl,aq⟩ trivial rfl rfl));refine aa rfl (ay rfl rfl) (aa rfl (ay rfl rfl) (aA (ax (bw ?_)))))
   exact dJ (.inl rfl) rfl (.tmp rfl) (.tmp rfl) trivial trivial
 ·have hp:dN (g,rels)=false:=by rw [gz] at hok;simpa using hok
  rw [hp] at hC
  unfold yD yv
  rw [if_neg hok,if_neg hok]
  (refine au (ah (aa rfl (du rfl rfl rfl rfl) (aa rfl (ay rfl rfl) (aa rfl (ay rfl rfl) (aA (ax (au (au (ah (aa rfl (bz rfl rfl rfl rfl rfl rfl ae) ?_))))))))));apply aa rfl;(apply aI 37;exact aL hC ae rfl rfl ⟨⟨.inl rfl, .inl rfl,aq⟩,aq⟩ ⟨⟨_,rfl, .inl rfl⟩,aq⟩ rfl rfl);refine aa rfl (cP rfl rfl) (aA (ax ?_)))
  refine bf rfl (fun _=> ?_) (fun e=>by cases e)
  (refine au (ah (aa rfl (ay rfl rfl) (aa rfl (ay rfl rfl) (aA (ax (bw (aJ ?_))))))))
  exact dJ (.inl rfl) rfl (.tmp rfl) (.tmp rfl) trivial trivial
theorem sU {E1 E:Nat} {lo hi:Nat} {v:Value} {d:di} (w:World) (h:oN E1 E w lo hi v d):
  Calls Try.prog 11 #[v] w fun e w'=>e= .returned (.tuple #[.int .i64 (yD d []), .int .i64 (yv d [])])∧Below w.heap.size w w':=rP (Hm (fun k1=>vo d.1 d.2 k1) h)
end Go.Proofs.Ytfpcfckocmmcnaa
namespace Go.Proofs.Ytfpcfckocmmcnaa
open Go.RowKit
def da (d:di) (ws:List (List Int)):Bool:= !(pS d ws).2.2 && decide (lr d ws≤400)
theorem iF (ng:Nat) (rels ws:List (List Int)):pS ((ng:Int),rels) ws=dq ng rels ws:=by unfold pS;rw [Int.toNat_natCast]
theorem xE (ng:Nat) (rels ws:List (List Int)):lr ((ng:Int),rels) ws=(cq ng (dq ng rels ws).1 (dq ng rels ws).2.1).1.length:=by unfold lr;rw [iF,Int.toNat_natCast]
theorem gu (ng:Nat) (rels ws:List (List Int)):bX ((ng:Int),rels) ws=dv ng (dq ng rels ws).1 (dq ng rels ws).2.1:=by unfold bX;rw [iF,Int.toNat_natCast]
theorem gj {ng:Nat} {rels ws:List (List Int)} {g:Nat} (h:g < ng):(aT (bX ((ng:Int),rels) ws) g).length=lr ((ng:Int),rels) ws:=by rw [gu,xE,my _ _ h]
theorem fD (ng:Nat) (rels ws:List (List Int)):(bX ((ng:Int),rels) ws).length=ng:=by rw [gu,jS]
theorem sX {ng:Nat} {rels ws:List (List Int)} (hG:Good ng rels ws) (hs:da ((ng:Int),rels) ws=true):
  FC Try.prog 34 [(1002,bh ws),(1003,bh rels)] [pA ng rels.length,o1 (.sl 1002 0 ws.length)] [(1005,cS (bX ((ng:Int),rels) ws))] (.tup [.one (.sl 1005 0 ng), .one (.val (I6 0))]) []:=by
 have hs2:(dq ng rels ws).2.2=false∧lr ((ng:Int),rels) ws≤400:=by unfold da at hs;rw [iF] at hs;simpa using hs
 have hT:FC Try.prog 66 [(1002,bh ws),(1003,bh rels)] [pA ng rels.length,o1 (.sl 1002 0 ws.length)] [(1005,cS (bX ((ng:Int),rels) ws))] (.tup [.one (.sl 1005 0 ng), .one (.val (.bool true))]) []:=by
  rw [gu]
  exact (mF hG hs2.1).nm [(69,1005),(1002,1002),(1003,1003)] (by kernel_rfl)
 have hlen:(bU (bX ((ng:Int),rels) ws)).length=ng:=by rw [cB,fD]
 have hpos:=hG.pos
 have hr0:(aT (bX ((ng:Int),rels) ws) 0).length≤400:=by rw [gj hpos];exact hs2.2
 have hrow:(bU (bX ((ng:Int),rels) ws))[0]? =some (aV (aT (bX ((ng:Int),rels) ws) 0)):=bV (by rw [←cB,hlen];exact hpos)
 generalize bX ((ng:Int),rels) ws=T at *
 refine cu (nt:=24) Try.func34 rfl rfl (by simp) fun w0 ω0=> ?_
 (refine au (ah (aa rfl (du rfl rfl rfl rfl) (aa rfl (ay rfl rfl) (aa rfl (ay rfl rfl) (aA (ax (au (ah (aa rfl (bz rfl rfl rfl rfl rfl rfl ae) ?_)))))))));apply aa rfl;exact an rfl rfl;apply aa rfl;(first | (apply aI 66;exact dK hT ae rfl rfl ⟨⟨.inl rfl, .inl rfl,aq⟩,rfl,aq⟩ ⟨⟨_,rfl, .inl rfl⟩,⟨_,rfl, .inl rfl⟩,aq⟩ rfl rfl rfl) | exact aP (j:=0) rfl rfl rfl rfl rfl ae rfl hpos (Nat.le_of_eq hlen.symm));refine aa rfl (an rfl rfl) (aa rfl (aW rfl rfl rfl) (aa rfl (aW rfl rfl rfl) (aa rfl (ay rfl rfl) (aa rfl (ay rfl rfl) (aA (ax (au (au (ah (aa rfl (an rfl rfl) (aa rfl (cP rfl rfl) ?_)))))))))));apply aa rfl;exact an rfl rfl;apply aO rfl rfl rfl;exact an rfl rfl;apply aO rfl rfl rfl;(first | (apply aI 66;exact dK hT ae rfl rfl ⟨⟨.inl rfl, .inl rfl,aq⟩,rfl,aq⟩ ⟨⟨_,rfl, .inl rfl⟩,⟨_,rfl, .inl rfl⟩,aq⟩ rfl rfl rfl) | exact aP (j:=0) rfl rfl rfl rfl rfl ae rfl hpos (Nat.le_of_eq hlen.symm));apply aO rfl rfl rfl;exact aM rfl ae rfl rfl rfl aK df;apply aO rfl rfl rfl;exact bF rfl rfl rfl ae;apply aO rfl rfl rfl;exact bd rfl rfl rfl rfl;refine aa rfl (cj rfl rfl rfl) (aA (ax ?_)))
 refine bf rfl (fun e=> ?_) (fun _=> ?_)
 ·exfalso;simp at e;omega
 ·(refine aU (ax (au (ah (aa rfl (an rfl rfl) (aa rfl (ay rfl rfl) (aa rfl (ay rfl rfl) (aA (ax (bw ?_))))))))))
  exact dJ (.inl rfl) rfl (.tmp rfl) (.tmp rfl) ⟨rfl,aq⟩ trivial
theorem uI {ng:Nat} {rels ws:List (List Int)} (hG:Good ng rels ws) (hs:¬da ((ng:Int),rels) ws=true):
  FC Try.prog 34 [(1002,bh ws),(1003,bh rels)] [pA ng rels.length,o1 (.sl 1002 0 ws.length)] [] (.tup [.one (.val (.slice none 0 0)), .one (.val (I6 3))]) []:=by
 unfold da at hs;rw [iF] at hs
 refine cu (nt:=24) Try.func34 rfl rfl (by simp) fun w0 ω0=> ?_
 cases hf:(dq ng rels ws).2.2 with
 | true=>
  have hT:=vA hG hf
  (refine au (ah (aa rfl (du rfl rfl rfl rfl) (aa rfl (ay rfl rfl) (aa rfl (ay rfl rfl) (aA (ax (au (ah (aa rfl (bz rfl rfl rfl rfl rfl rfl ae) ?_)))))))));apply aa rfl;exact an rfl rfl;apply aa rfl;(apply aI 66;exact aL hT ae rfl rfl ⟨⟨.inl rfl, .inl rfl,aq⟩,rfl,aq⟩ ⟨⟨_,rfl, .inl rfl⟩,⟨_,rfl, .inl rfl⟩,aq⟩ rfl rfl);refine aa rfl (an rfl rfl) (aa rfl (aW rfl rfl rfl) (aa rfl (aW rfl rfl rfl) (aa rfl (ay rfl rfl) (aa rfl (ay rfl rfl) (aA (ax (au (au (ah (aa rfl (an rfl rfl) (aa rfl (cP rfl rfl) ?_)))))))))));apply aa rfl;exact an rfl rfl;apply aR rfl rfl rfl rfl rfl;apply aR rfl rfl rfl rfl rfl;apply aR rfl rfl rfl rfl rfl;apply aR rfl rfl rfl rfl rfl;apply aR rfl rfl rfl rfl rfl;refine aa rfl (cF rfl rfl rfl) (aA (ax ?_)))
  refine bf rfl (fun _=> ?_) (fun e=>by cases e)
  (refine au (ah (aa rfl (ay rfl rfl) (aa rfl (ay rfl rfl) (aA (ax (bw (aJ ?_))))))))
  exact dJ (.inl rfl) rfl (.tmp rfl) (.tmp rfl) trivial trivial
 | false=>
  have hn:400 < lr ((ng:Int),rels) ws:=by rw [hf] at hs;simpa using hs
  have hT:FC Try.prog 66 [(1002,bh ws),(1003,bh rels)] [pA ng rels.length,o1 (.sl 1002 0 ws.length)] [(1005,cS (bX ((ng:Int),rels) ws))] (.tup [.one (.sl 1005 0 ng), .one (.val (.bool true))]) []:=by
   rw [gu]
   exact (mF hG hf).nm [(69,1005),(1002,1002),(1003,1003)] (by kernel_rfl)
  have hlen:(bU (bX ((ng:Int),rels) ws)).length=ng:=by rw [cB,fD]
  have hpos:=hG.pos
  have hr0:400 < (aT (bX ((ng:Int),rels) ws) 0).length:=by rw [gj hpos];exact hn
  have hrow:(bU (bX ((ng:Int),rels) ws))[0]? =some (aV (aT (bX ((ng:Int),rels) ws) 0)):=bV (by rw [←cB,hlen];exact hpos)
  clear hs hn
  generalize bX ((ng:Int),rels) ws=T at *
  (refine au (ah (aa rfl (du rfl rfl rfl rfl) (aa rfl (ay rfl rfl) (aa rfl (ay rfl rfl) (aA (ax (au (ah (aa rfl (bz rfl rfl rfl rfl rfl rfl ae) ?_)))))))));apply aa rfl;exact an rfl rfl;apply aa rfl;(first | (apply aI 66;exact dK hT ae rfl rfl ⟨⟨.inl rfl, .inl rfl,aq⟩,rfl,aq⟩ ⟨⟨_,rfl, .inl rfl⟩,⟨_,rfl, .inl rfl⟩,aq⟩ rfl rfl rfl) | exact aP (j:=0) rfl rfl rfl rfl rfl ae rfl hpos (Nat.le_of_eq hlen.symm));refine aa rfl (an rfl rfl) (aa rfl (aW rfl rfl rfl) (aa rfl (aW rfl rfl rfl) (aa rfl (ay rfl rfl) (aa rfl (ay rfl rfl) (aA (ax (au (au (ah (aa rfl (an rfl rfl) (aa rfl (cP rfl rfl) ?_)))))))))));apply aa rfl;exact an rfl rfl;apply aO rfl rfl rfl;exact an rfl rfl;apply aO rfl rfl rfl;(first | (apply aI 66;exact dK hT ae rfl rfl ⟨⟨.inl rfl, .inl rfl,aq⟩,rfl,aq⟩ ⟨⟨_,rfl, .inl rfl⟩,⟨_,rfl, .inl rfl⟩,aq⟩ rfl rfl rfl) | exact aP (j:=0) rfl rfl rfl rfl rfl ae rfl hpos (Nat.le_of_eq hlen.symm));apply aO rfl rfl rfl;exact aM rfl ae rfl rfl rfl aK df;apply aO rfl rfl rfl;exact bF rfl rfl rfl ae;apply aO rfl rfl rfl;exact bd rfl rfl rfl rfl;refine aa rfl (cj rfl rfl rfl) (aA (ax ?_)))
  refine bf rfl (fun _=> ?_) (fun e=> ?_)
  ·(refine au (ah (aa rfl (ay rfl rfl) (aa rfl (ay rfl rfl) (aA (ax (bw (aJ ?_))))))))
   exact dJ (.inl rfl) rfl (.tmp rfl) (.tmp rfl) trivial trivial
  ·exfalso;simp at e;omega
theorem s9 {ng:Nat} {rels ws:List (List Int)} (hG:Good ng rels ws) (hs:da ((ng:Int),rels) ws=true):
  FC Try.prog 29 [(1002,bh ws),(1003,bh rels)] [pA ng rels.length,o1 (.sl 1002 0 ws.length)] [(1005,cS (bX ((ng:Int),rels) ws))] (.tup [.one (.sl 1005 0 ng), .one (.val (I6 0))]) []:=by
 have hs2:(dq ng rels ws).2.2=false∧lr ((ng:Int),rels) ws≤400:=by unfold da at hs;rw [iF] at hs;simpa using hs
 have hT:FC Try.prog 38 [(1002,bh ws),(1003,bh rels)] [pA ng rels.length,o1 (.sl 1002 0 ws.length)] [(1005,cS (bX ((ng:Int),rels) ws))] (.tup [.one (.sl 1005 0 ng), .one (.val (.bool true))]) []:=by
  rw [gu]
  exact (jW hG hs2.1).nm [(131,1005),(1002,1002),(1003,1003)] (by kernel_rfl)
 have hlen:(bU (bX ((ng:Int),rels) ws)).length=ng:=by rw [cB,fD]
 have hpos:=hG.pos
 have hr0:(aT (bX ((ng:Int),rels) ws) 0).length≤400:=by rw [gj hpos];exact hs2.2
 have hrow:(bU (bX ((ng:Int),rels) ws))[0]? =some (aV (aT (bX ((ng:Int),rels) ws) 0)):=bV (by rw [←cB,hlen];exact hpos)
 generalize bX ((ng:Int),rels) ws=T at *
 refine cu (nt:=24) Try.func29 rfl rfl (by simp) fun w0 ω0=> ?_
 (refine au (ah (aa rfl (du rfl rfl rfl rfl) (aa rfl (ay rfl rfl) (aa rfl (ay rfl rfl) (aA (ax (au (ah (aa rfl (bz rfl rfl rfl rfl rfl rfl ae) ?_)))))))));apply aa rfl;exact an rfl rfl;apply aa rfl;(first | (apply aI 38;exact dK hT ae rfl rfl ⟨⟨.inl rfl, .inl rfl,aq⟩,rfl,aq⟩ ⟨⟨_,rfl, .inl rfl⟩,⟨_,rfl, .inl rfl⟩,aq⟩ rfl rfl rfl) | exact aP (j:=0) rfl rfl rfl rfl rfl ae rfl hpos (Nat.le_of_eq hlen.symm));refine aa rfl (an rfl rfl) (aa rfl (aW rfl rfl rfl) (aa rfl (aW rfl rfl rfl) (aa rfl (ay rfl rfl) (aa rfl (ay rfl rfl) (aA (ax (au (au (ah (aa rfl (an rfl rfl) (aa rfl (cP rfl rfl) ?_)))))))))));apply aa rfl;exact an rfl rfl;apply aO rfl rfl rfl;exact an rfl rfl;apply aO rfl rfl rfl;(first | (apply aI 38;exact dK hT ae rfl rfl ⟨⟨.inl rfl, .inl rfl,aq⟩,rfl,aq⟩ ⟨⟨_,rfl, .inl rfl⟩,⟨_,rfl, .inl rfl⟩,aq⟩ rfl rfl rfl) | exact aP (j:=0) rfl rfl rfl rfl rfl ae rfl hpos (Nat.le_of_eq hlen.symm));apply aO rfl rfl rfl;exact aM rfl ae rfl rfl rfl aK df;apply aO rfl rfl rfl;exact bF rfl rfl rfl ae;apply aO rfl rfl rfl;exact bd rfl rfl rfl rfl;refine aa rfl (cj rfl rfl rfl) (aA (ax ?_)))
 refine bf rfl (fun e=> ?_) (fun _=> ?_)
 ·exfalso;simp at e;omega
 ·(refine aU (ax (au (ah (aa rfl (an rfl rfl) (aa rfl (ay rfl rfl) (aa rfl (ay rfl rfl) (aA (ax (bw ?_))))))))))
  exact dJ (.inl rfl) rfl (.tmp rfl) (.tmp rfl) ⟨rfl,aq⟩ trivial
theorem vq {ng:Nat} {rels ws:List (List Int)} (hG:Good ng rels ws) (hs:¬da ((ng:Int),rels) ws=true):
  FC Try.prog 29 [(1002,bh ws),(1003,bh rels)] [pA ng rels.length,o1 (.sl 1002 0 ws.length)] [] (.tup [.one (.val (.slice none 0 0)), .one (.val (I6 3))]) []:=by
 unfold da at hs;rw [iF] at hs
 refine cu (nt:=24) Try.func29 rfl rfl (by simp) fun w0 ω0=> ?_
 cases hf:(dq ng rels ws).2.2 with
 | true=>
  have hT:=nL hG hf
  (refine au (ah (aa rfl (du rfl rfl rfl rfl) (aa rfl (ay rfl rfl) (aa rfl (ay rfl rfl) (aA (ax (au (ah (aa rfl (bz rfl rfl rfl rfl rfl rfl ae) ?_)))))))));apply aa rfl;exact an rfl rfl;apply aa rfl;(apply aI 38;exact aL hT ae rfl rfl ⟨⟨.inl rfl, .inl rfl,aq⟩,rfl,aq⟩ ⟨⟨_,rfl, .inl rfl⟩,⟨_,rfl, .inl rfl⟩,aq⟩ rfl rfl);refine aa rfl (an rfl rfl) (aa rfl (aW rfl rfl rfl) (aa rfl (aW rfl rfl rfl) (aa rfl (ay rfl rfl) (aa rfl (ay rfl rfl) (aA (ax (au (au (ah (aa rfl (an rfl rfl) (aa rfl (cP rfl rfl) ?_)))))))))));apply aa rfl;exact an rfl rfl;apply aR rfl rfl rfl rfl rfl;apply aR rfl rfl rfl rfl rfl;apply aR rfl rfl rfl rfl rfl;apply aR rfl rfl rfl rfl rfl;apply aR rfl rfl rfl rfl rfl;refine aa rfl (cF rfl rfl rfl) (aA (ax ?_)))
  refine bf rfl (fun _=> ?_) (fun e=>by cases e)
  (refine au (ah (aa rfl (ay rfl rfl) (aa rfl (ay rfl rfl) (aA (ax (bw (aJ ?_))))))))
  exact dJ (.inl rfl) rfl (.tmp rfl) (.tmp rfl) trivial trivial
 | false=>
  have hn:400 < lr ((ng:Int),rels) ws:=by rw [hf] at hs;simpa using hs
  have hT:FC Try.prog 38 [(1002,bh ws),(1003,bh rels)] [pA ng rels.length,o1 (.sl 1002 0 ws.length)] [(1005,cS (bX ((ng:Int),rels) ws))] (.tup [.one (.sl 1005 0 ng), .one (.val (.bool true))]) []:=by
   rw [gu]
   exact (jW hG hf).nm [(131,1005),(1002,1002),(1003,1003)] (by kernel_rfl)
  have hlen:(bU (bX ((ng:Int),rels) ws)).length=ng:=by rw [cB,fD]
  have hpos:=hG.pos
  have hr0:400 < (aT (bX ((ng:Int),rels) ws) 0).length:=by rw [gj hpos];exact hn
  have hrow:(bU (bX ((ng:Int),rels) ws))[0]? =some (aV (aT (bX ((ng:Int),rels) ws) 0)):=bV (by rw [←cB,hlen];exact hpos)
  clear hs hn
  generalize bX ((ng:Int),rels) ws=T at *
  (refine au (ah (aa rfl (du rfl rfl rfl rfl) (aa rfl (ay rfl rfl) (aa rfl (ay rfl rfl) (aA (ax (au (ah (aa rfl (bz rfl rfl rfl rfl rfl rfl ae) ?_)))))))));apply aa rfl;exact an rfl rfl;apply aa rfl;(first | (apply aI 38;exact dK hT ae rfl rfl ⟨⟨.inl rfl, .inl rfl,aq⟩,rfl,aq⟩ ⟨⟨_,rfl, .inl rfl⟩,⟨_,rfl, .inl rfl⟩,aq⟩ rfl rfl rfl) | exact aP (j:=0) rfl rfl rfl rfl rfl ae rfl hpos (Nat.le_of_eq hlen.symm));refine aa rfl (an rfl rfl) (aa rfl (aW rfl rfl rfl) (aa rfl (aW rfl rfl rfl) (aa rfl (ay rfl rfl) (aa rfl (ay rfl rfl) (aA (ax (au (au (ah (aa rfl (an rfl rfl) (aa rfl (cP rfl rfl) ?_)))))))))));apply aa rfl;exact an rfl rfl;apply aO rfl rfl rfl;exact an rfl rfl;apply aO rfl rfl rfl;(first | (apply aI 38;exact dK hT ae rfl rfl ⟨⟨.inl rfl, .inl rfl,aq⟩,rfl,aq⟩ ⟨⟨_,rfl, .inl rfl⟩,⟨_,rfl, .inl rfl⟩,aq⟩ rfl rfl rfl) | exact aP (j:=0) rfl rfl rfl rfl rfl ae rfl hpos (Nat.le_of_eq hlen.symm));apply aO rfl rfl rfl;exact aM rfl ae rfl rfl rfl aK df;apply aO rfl rfl rfl;exact bF rfl rfl rfl ae;apply aO rfl rfl rfl;exact bd rfl rfl rfl rfl;refine aa rfl (cj rfl rfl rfl) (aA (ax ?_)))
  refine bf rfl (fun _=> ?_) (fun e=> ?_)
  ·(refine au (ah (aa rfl (ay rfl rfl) (aa rfl (ay rfl rfl) (aA (ax (bw (aJ ?_))))))))
   exact dJ (.inl rfl) rfl (.tmp rfl) (.tmp rfl) trivial trivial
  ·exfalso;simp at e;omega
end Go.Proofs.Ytfpcfckocmmcnaa
namespace Go.Proofs.Ytfpcfckocmmcnaa
open Go.RowKit
theorem pM {ng:Nat} {rels ws:List (List Int)} (hs:da ((ng:Int),rels) ws=true):(dq ng rels ws).2.2=false∧lr ((ng:Int),rels) ws≤400:=by
 unfold da at hs;rw [iF] at hs;simpa using hs
section
variable {η:Env} {ω:bW} {w:World} {ins:List (Nm×Ch)}
end
end Go.Proofs.Ytfpcfckocmmcnaa
namespace Go.Proofs.Ytfpcfckocmmcnaa
open Go.RowKit
end Go.Proofs.Ytfpcfckocmmcnaa
namespace Go.Proofs.Ytfpcfckocmmcnaa
section
variable {T:List (List Int)} {ng n:Nat}
end
end Go.Proofs.Ytfpcfckocmmcnaa
namespace Go.Proofs.Ytfpcfckocmmcnaa
section
variable {ng:Nat} {im:List (List Int)} {less:List Int}
end
end Go.Proofs.Ytfpcfckocmmcnaa
namespace Go.Proofs.Ytfpcfckocmmcnaa
section
variable {ng:Nat} {im:List (List Int)} {less:List Int}
end
end Go.Proofs.Ytfpcfckocmmcnaa
namespace Go.Proofs.Ytfpcfckocmmcnaa
open Go.RowKit
section
variable {T:List (List Int)} {W:List Int} {m:Nat}
end
end Go.Proofs.Ytfpcfckocmmcnaa
namespace Go.Proofs.Ytfpcfckocmmcnaa
section
variable {T:List (List Int)} {ng n:Nat}
end
end Go.Proofs.Ytfpcfckocmmcnaa
namespace Go.Proofs.Ytfpcfckocmmcnaa
section
variable {zs:List Int} {tw:List Lv}
abbrev fY (zs:List Int):List (List Int):=oG (zs.length + 1) (aS zs).2 []
abbrev gU (zs:List Int):Nat:=oF (zs.length + 1) (aS zs).2 []
abbrev wH (zs:List Int):Prop:=At (zs.length + 1) (aS zs).2 []
theorem iq:(fY zs).length=zs.length + 1:=nV
end
end Go.Proofs.Ytfpcfckocmmcnaa
namespace Go.Proofs.Ytfpcfckocmmcnaa
theorem vS {ng g:Nat} (h:g < ng):sZ (2 ^ ng - 1) g=true:=by
 have:sZ (2 ^ ng - 1) g=(2 ^ ng - 1).testBit g:=by
  unfold sZ;rw [Nat.testBit_eq_decide_div_mod_eq];rfl
 rw [this,Nat.testBit_two_pow_sub_one];simpa using h
def py (T:List (List Int)) (c:Nat) (s:lv) (g:Nat):lv:=if jY s.1 (dy T c g)=false then (s.1.set (dy T c g) true,s.2 ++ [(dy T c g:Int)]) else s
theorem xI {T:List (List Int)} {ng g:Nat} (h:g < ng) (c:Nat) (s:lv):dX T (2 ^ ng - 1) c s g=py T c s g:=by
 unfold dX py
 simp only [vS h,true_and]
def ey (n c:Nat):lv:=((List.replicate n false).set c true, [(c:Int)])
def lx (T:List (List Int)) (n c:Nat):lv:=dU T (2 ^ T.length - 1) T.length (n + 1) 0 (ey n c)
theorem ia {n c d:Nat} (hd:d < n):jY (ey n c).1 d=true↔d=c:=by
 show jY ((List.replicate n false).set c true) d=true↔_
 rw [iS]
 constructor
 ·intro h
  split at h
  ·rename_i e;exact e.1.symm
  ·simp [jY,hd] at h
 ·rintro rfl;rw [if_pos ⟨rfl,by simpa using hd⟩]
theorem fK {n c:Nat} (hc:c < n):sP n (ey n c):=by
 refine ⟨by simp [ey],fun k hk=> ?_, ?_,fun d hd hb=> ?_⟩
 ·obtain rfl:k=0:=by simp [ey] at hk;omega
  exact ⟨c,rfl,hc,(ia hc).2 rfl⟩
 ·show pk ((List.replicate n false).set c true)=1
  rw [qO _ _ (by simpa using hc) (by simp [jY,hc])]
  simp [pk]
 ·rw [ia hd] at hb;subst hb;exact ⟨0,by simp [ey],rfl⟩
section
variable {T:List (List Int)} {n:Nat}
theorem lA (hT:dh T n) {c:Nat} (hc:c < n):sP n (lx T n c):=(nu hT rfl _ _ _ (fK hc)).1
def mW (T:List (List Int)) (n c d:Nat):Bool:=jY (lx T n c).1 d
theorem gJ (hT:dh T n) {c:Nat} (hc:c < n):mW T n c c=true:=(nu hT rfl _ _ _ (fK hc)).2.met c ((ia hc).2 rfl)
theorem pc (hT:dh T n) {c d g:Nat} (hc:c < n) (hd:d < n) (h:mW T n c d=true) (hg:g < T.length):mW T n c (dy T d g)=true:=by
 have hs:=qy (mask:=2 ^ T.length - 1) hT rfl (n + 1) 0 _ (fK hc) (fun k hk=>by omega) (Nat.zero_le _) ab
 obtain ⟨k,k1,k2⟩:=(lA hT hc).cov d hd h
 have:=hs k k1 g hg (vS hg)
 have e:aD (dU T (2 ^ T.length - 1) T.length (n + 1) 0 (ey n c)).2 k=(d:Int):=k2
 rw [e,Int.toNat_natCast] at this
 exact this
theorem m6 (hT:dh T n) {c:Nat} (hc:c < n) {p:Nat→Prop} (h0:p c) (hp:∀d,d < n→p d→∀g,g < T.length→p (dy T d g)):∀d,d < n→mW T n c d=true→p d:=
 xz (mask:=2 ^ T.length - 1) hT rfl (fun d hd hpd g hg _=>hp d hd hpd g hg) (n + 1) 0 (ey n c) (fK hc) fun d hd hb=>by rw [ia hd] at hb;subst hb;exact h0
theorem ie (hT:dh T n) {c d e:Nat} (hc:c < n) (hd:d < n) (he:e < n) (h1:mW T n c d=true) (h2:mW T n d e=true):mW T n c e=true:=
 m6 (p:=fun e=>mW T n c e=true) hT hd h1 (fun e he h g hg=>pc hT hc he h hg) e he h2
def mC (T:List (List Int)) (n:Nat):Prop:=∀g,g < T.length→∀c,c < n→dy T (dy T c g) g=c
theorem l7 (hT:dh T n) (hb:mC T n) {c d:Nat} (hc:c < n) (hd:d < n) (h:mW T n c d=true):mW T n d c=true:=
 m6 (p:=fun d=>mW T n d c=true) hT hc (gJ hT hc) (fun e he h g hg=>by
  have h1:=(dj hT he hg).1
  have h2:=pc hT h1 h1 (gJ hT h1) hg
  rw [hb g hg e he] at h2
  exact ie hT h1 he hc h2 h) d hd h
def vE (T:List (List Int)) (n:Nat):Prop:=∀c d,c < n→d < n→mW T n c d=true→mW T n d c=true
theorem mC.sym (hT:dh T n) (hb:mC T n):vE T n:=fun _ _ hc hd h=>l7 hT hb hc hd h
theorem tF:∀ {l:List Bool},pk l=l.length→∀d,d < l.length→jY l d=true
 | [],_,d,hd=>by simp at hd
 | b :: r,h,d,hd=>by
  have hr:=zQ r
  have hb:b=true∧pk r=r.length:=by
   unfold pk at h hr ⊢
   rw [List.filter_cons] at h
   split at h
   ·rename_i hb;exact ⟨hb,by simpa using h⟩
   ·simp at h;omega
  cases d with
  | zero=>exact hb.1
  | succ d=>exact tF hb.2 d (by simpa using hd)
theorem x8:∀ {l:List Bool},(∀d,d < l.length→jY l d=true)→pk l=l.length
 | [],_=>rfl
 | b :: r,h=>by
  have h0:b=true:=h 0 (by simp)
  have h1:=x8 (l:=r) fun d hd=>h (d + 1) (by simpa using hd)
  unfold pk at h1 ⊢
  rw [List.filter_cons,if_pos h0];simp [h1]
theorem lW (hT:dh T n) {c:Nat} (hc:c < n):(lx T n c).2.length=n↔∀d,d < n→mW T n c d=true:=by
 have h:=lA hT hc
 rw [←h.yj]
 constructor
 ·intro e d hd;exact tF (by rw [h.l];exact e) d (by rw [h.l];exact hd)
 ·intro e;rw [x8 (fun d hd=>e d (by rw [h.l] at hd;exact hd)),h.l]
abbrev Bo:=List Int×Nat
def jd (T:List (List Int)) (n i:Nat) (s:Bo):Bo:=((List.range n).map fun d=>if mW T n i d then (s.2:Int) else aD s.1 d,s.2 + 1)
def gL (T:List (List Int)) (n:Nat) (s:Bo) (i:Nat):Bo:=if 0≤aD s.1 i then s else jd T n i s
def kt (n:Nat):Bo:=(List.replicate n (-1),0)
def eX (T:List (List Int)) (n i:Nat):Bo:=(List.range i).foldl (gL T n) (kt n)
def gV (T:List (List Int)) (n:Nat):Bo:=eX T n n
theorem fb (i:Nat):eX T n (i + 1)=gL T n (eX T n i) i:=by unfold eX;rw [List.range_succ,List.foldl_append];rfl
theorem mL {i d:Nat} {s:Bo} (hd:d < n):aD (jd T n i s).1 d=if mW T n i d then (s.2:Int) else aD s.1 d:=by simp [jd,aD,hd]
theorem sj {i:Nat} {s:Bo} :(jd T n i s).1.length=n:=by simp [jd]
structure Ja (T:List (List Int)) (n i:Nat) (s:Bo):Prop where
 len:s.1.length=n
 met:∀d,d < n→(0≤aD s.1 d↔∃c,c < i∧mW T n c d=true)
 low:∀d,d < n→ -1≤aD s.1 d∧aD s.1 d < s.2
theorem kd (hT:dh T n) (hb:vE T n):∀i,i≤n→Ja T n i (eX T n i)
 | 0,_=>⟨by simp [eX,kt],fun d hd=>⟨fun h=>by simp [eX,kt,aD,hd] at h,fun ⟨c,h,_⟩=>absurd h ab⟩,fun d hd=>by simp [eX,kt,aD,hd]⟩
 | i + 1,hi=>by
  have h:=kd hT hb i ab
  rw [fb]
  generalize eX T n i=s at *
  unfold gL
  split
  ·rename_i hl
   refine ⟨h.len,fun d hd=> ?_,h.low⟩
   rw [h.met d hd]
   constructor
   ·rintro ⟨c,h1,h2⟩;exact ⟨c,ab,h2⟩
   ·rintro ⟨c,h1,h2⟩
    by_cases e:c=i
    ·subst e
     obtain ⟨c',h3,h4⟩:=(h.met c hi).1 hl
     exact ⟨c',h3,ie hT ab hi hd h4 h2⟩
    ·exact ⟨c,ab,h2⟩
  ·rename_i hl
   refine ⟨sj,fun d hd=> ?_,fun d hd=> ?_⟩
   ·rw [mL hd]
    split
    ·rename_i hr;exact ⟨fun _=>⟨i,ab,hr⟩,fun _=>by omega⟩
    ·rename_i hr
     rw [h.met d hd]
     constructor
     ·rintro ⟨c,h1,h2⟩;exact ⟨c,ab,h2⟩
     ·rintro ⟨c,h1,h2⟩
      by_cases e:c=i
      ·subst e;exact absurd h2 hr
      ·exact ⟨c,ab,h2⟩
   ·rw [mL hd]
    have:=h.low d hd
    split
    ·exact ⟨ab,by show (s.2:Int) < ((s.2 + 1:Nat):Int);omega⟩
    ·exact ⟨this.1,by show _ < ((s.2 + 1:Nat):Int);omega⟩
theorem CN (hT:dh T n) (hb:vE T n) {i d:Nat} {s:Bo} (hi:i < n) (h:Ja T n i s) (hl:aD s.1 i < 0) (hd:d < n) (hr:mW T n i d=true):aD s.1 d= -1:=by
 have:=h.low d hd
 by_cases e:0≤aD s.1 d
 ·obtain ⟨c,h1,h2⟩:=(h.met d hd).1 e
  have h3:=ie hT ab hd hi h2 (hb i d hi hd hr)
  have:=(h.met i hi).2 ⟨c,h1,h3⟩
  omega
 ·omega
theorem rj:∀ {i k:Nat},i≤k→(eX T n i).2≤(eX T n k).2:=by
 intro i k h
 induction k with
 | zero=>
  obtain rfl:i=0:=by omega
  exact Nat.le_refl _
 | succ k ih=>
  by_cases e:i=k + 1
  ·subst e;exact Nat.le_refl _
  ·refine Nat.le_trans (ih ab) ?_
   rw [fb];unfold gL;split
   ·exact Nat.le_refl _
   ·simp [jd]
theorem m9 (hT:dh T n) (hb:vE T n) (hn:0 < n):(eX T n 1).2=1:=by
 have h0:aD (eX T n 0).1 0= -1:=by simp [eX,kt,aD,hn]
 rw [show 1=0 + 1 by rfl,fb]
 unfold gL
 rw [if_neg (by rw [h0];omega)]
 rfl
theorem tJ (hT:dh T n) (hb:vE T n) (hn:0 < n):(gV T n).2=1↔(lx T n 0).2.length=n:=by
 rw [lW hT hn]
 constructor
 ·intro h d hd
  have key:∀i,1≤i→i≤n→eX T n i=eX T n 1:=by
   intro i h1 h2
   induction i with
   | zero=>omega
   | succ i ih=>
    by_cases e:i=0
    ·subst e;rfl
    ·have ih:=ih ab ab
     have hm:=rj (T:=T) (n:=n) h2
     have:(eX T n n).2=1:=h
     rw [fb] at hm ⊢
     unfold gL at hm ⊢
     split at hm
     ·rename_i hl;rw [if_pos hl];exact ih
     ·rw [ih] at hm
      have:=m9 hT hb hn
      simp only [jd] at hm
      omega
  by_cases e:d=0
  ·subst e;exact gJ hT hn
  ·have h1:0≤aD (eX T n d).1 d:=by
    have hm:=rj (T:=T) (n:=n) (show d + 1≤n by omega)
    have:(eX T n n).2=1:=h
    rw [fb] at hm
    unfold gL at hm
    split at hm
    ·rename_i hl;exact hl
    ·rw [key d ab ab] at hm
     have:=m9 hT hb hn
     simp only [jd] at hm
     omega
   rw [key d ab ab] at h1
   obtain ⟨c,h2,h3⟩:=((kd hT hb 1 hn).met d hd).1 h1
   obtain rfl:c=0:=by omega
   exact h3
 ·intro h
  have key:∀i,1≤i→i≤n→(eX T n i).2=1:=by
   intro i h1 h2
   induction i with
   | zero=>omega
   | succ i ih=>
    by_cases e:i=0
    ·subst e;exact m9 hT hb hn
    ·rw [fb]
     unfold gL
     rw [if_pos (((kd hT hb i ab).met i ab).2 ⟨0,ab,h i ab⟩)]
     exact ih ab ab
  exact key n hn (Nat.le_refl _)
theorem CL (hT:dh T n) (hb:mC T n) (hn:0 < n):(gV T n).2=1↔(lx T n 0).2.length=n:=tJ hT (hb.sym hT) hn
end
end Go.Proofs.Ytfpcfckocmmcnaa
namespace Go.Proofs.Ytfpcfckocmmcnaa
open Go.RowKit
theorem nS (ao:Option Addr) (n c:Nat) (w:World):Calls Try.prog 39 #[.slice ao n c] w fun e w'=>e= .returned (.int .i64 n)∧w'=w:=by
 go_enter Try.func39,Try.ntmps39
 go_wp2
 go_ret
 exact ⟨rfl,rfl⟩
end Go.Proofs.Ytfpcfckocmmcnaa
namespace Go.Proofs.Ytfpcfckocmmcnaa
open Go.RowKit
theorem Jg:ET Try.prog 111 4 (.bool false) 1:=⟨Try.underlying111,by kernel_rfl,rfl,ab⟩
def fU (n:Nat):List Bool→List Int→Bool
 | _, []=>true
 | seen,z :: r=>kB z 0 ((n:Int) - 1) && !(seen.getD z.toNat false) && fU n (seen.set z.toNat true) r
def isPerm (zs:List Int):Bool:=decide (zs.length≤400) && fU zs.length (List.replicate zs.length false) zs
theorem l9 {n:Nat} {seen:List Bool} {zs:List Int} {k:Nat} (hk:k < zs.length):
  fU n seen (zs.drop k)=(kB (aD zs k) 0 ((n:Int) - 1) && !(seen.getD (aD zs k).toNat false) && fU n (seen.set (aD zs k).toNat true) (zs.drop (k + 1))):=by
 rw [List.drop_eq_getElem_cons hk,←cA hk];rfl
def xy (bs:List Bool) (k:Nat):Bool:=bs.getD k false
theorem rW {n:Nat} {seen:List Bool} {zs:List Int} {k:Nat} (hk:k < zs.length) (hx:kB (aD zs k) 0 ((n:Int) - 1)=false):fU n seen (zs.drop k)=false:=by
 rw [l9 hk,hx];rfl
theorem sw {n:Nat} {seen:List Bool} {zs:List Int} {k m:Nat} (hk:k < zs.length) (hm:aD zs k=m) (hb:xy seen m=true):fU n seen (zs.drop k)=false:=by
 unfold xy at hb
 rw [l9 hk,hm,Int.toNat_natCast,hb];simp
theorem uv {n:Nat} {seen:List Bool} {zs:List Int} {k m:Nat} (hk:k < zs.length) (hm:aD zs k=m) (hx:kB m 0 ((n:Int) - 1)=true) (hb:xy seen m=false):fU n seen (zs.drop k)=fU n (seen.set m true) (zs.drop (k + 1)):=by
 unfold xy at hb
 rw [l9 hk,hm,Int.toNat_natCast,hb,hx];simp
theorem wR {w:World} {base E:Nat} {g n c:Nat} {bs:List Bool} (h:Own w base E (some ⟨g,0,none⟩) n c (bs.map Value.bool)) {k:Nat} (hk:k < n):w.cell? ⟨g,k,none⟩=some (.bool (xy bs k)):=by
 obtain ⟨g',hg,_,_,_,hc,_⟩:=h.form ab
 obtain rfl:g=g':=by injection hg with hg;injection hg
 have hl:bs.length=n:=by have:=h.len;simpa using this
 rw [hc k hk,List.getElem?_map,List.getElem?_eq_getElem ab]
 simp [xy,List.getD,List.getElem?_eq_getElem (show k < bs.length by omega)]
theorem rX {w:World} {base E:Nat} {g n c:Nat} {xs:List Value} (h:Own w base E (some ⟨g,0,none⟩) n c xs) (k:Nat):w.frozen? ⟨g,k,none⟩=false:=h.1.frozenAt k
theorem vB (ao:Option Addr) (n c:Nat) (zs:List Int) (w:World) (h:cW w ao n zs):
  Calls Try.prog 67 #[.slice ao n c] w fun e w'=>e= .returned (.bool (isPerm zs))∧Below w.heap.size w w':=by
 have hn:=h.2.1
 have hl:=h.1
 have HL:=Lib.hid hl
 clear hl
 by_cases hs:n≤400
 ·have h1:decide ((400:Int) < n)=false:=by simp;omega
  have hp:isPerm zs=fU n (List.replicate n false) zs:=by unfold isPerm;rw [HL.out];simp [hs]
  have HP:=Lib.hid hp
  clear hp
  go_enter Try.func67,Try.ntmps67
  go_wp2_with (at_make;refine kh Jg _ rfl _ _ rfl w.heap.size _ _ _ _ n rfl rfl rfl rfl ab (Nat.le_refl _) ?_;intro w1 hown hgrow hsz)
  have hb1:Below w.heap.size w w1:=(Below.refl _ _).grown hgrow (Nat.le_refl _) (by simp)
  clear hgrow
  go_loopw [4] (fun i wr=>∃(k:Nat) (seen:List Bool),k≤n∧i= .int .i64 k∧Own wr w.heap.size 4 (some ⟨w.heap.size,0,none⟩) n n (seen.map Value.bool)∧isPerm zs=fU n seen (zs.drop k)∧Below w.heap.size w wr) (fun i _=>n - (intOf i).toNat)
  case atStart=>exact ⟨0,_,Nat.zero_le _,rfl,by rw [List.map_replicate];exact hown,HP.out,hb1⟩
  case round=>
   obtain ⟨k,seen,hk,rfl,ho,hinv,hb⟩:=hrel
   clear hown hb1 hsz
   have HI:=Lib.hid hinv
   clear hinv
   by_cases hlt:k < n
   ·obtain ⟨b,off,rfl,hc⟩:=(h.below hb).at_ hlt
    have HK:Hid (k < zs.length):=by have:=HL.out;show k < zs.length;omega
    have HH:=Lib.hid h
    clear h
    cases hin:kB (aD zs k) 0 ((n:Int) - 1) with
    | false=>
     have HX:=Lib.hid hin
     clear hin
     go_wp2_with (go_at_call 61;refine (fa _ _ _ _).mono ?_;rintro e w' ⟨rfl,rfl⟩;rw [HX.out])
     go_ret
     exact ⟨cx (HI.out.trans (rW HK.out HX.out)).symm,hb⟩
    | true=>
     have HX:=Lib.hid hin
     obtain ⟨hz0,hz1⟩:=dY.1 hin
     obtain ⟨m,hm⟩:=Int.eq_ofNat_of_zero_le hz0
     rw [hm] at hc hz1
     have HM:=Lib.hid hm
     have hmn:m < n:=by omega
     have hsc:=wR ho hmn
     have hfr:=rX ho m
     have HXm:Hid (kB (m:Int) 0 ((n:Int) - 1)=true):=by have:=HX.out;rwa [HM.out] at this
     clear hin hz0 hz1 hm
     cases hsb:xy seen m with
     | true=>
      rw [hsb] at hsc
      have HB:=Lib.hid hsb
      clear hsb
      go_wp2_with (go_at_call 61;refine (fa _ _ _ _).mono ?_;rintro e w' ⟨rfl,rfl⟩;rw [HXm.out])
      go_ret
      exact ⟨cx (HI.out.trans (sw HK.out HM.out HB.out)).symm,hb⟩
     | false=>
      rw [hsb] at hsc
      obtain ⟨st1,st2⟩:=ho.stored m (.bool true)
      have HB:=Lib.hid hsb
      have HS1:=Lib.hid st1
      have HS2:=Lib.hid st2
      clear hsb st1 st2
      go_wp2_with (go_at_call 61;refine (fa _ _ _ _).mono ?_;rintro e w' ⟨rfl,rfl⟩;rw [HXm.out])
      go_roundw
      case rel=>
       exact ⟨k + 1,seen.set m true,ab,by go_num,by rw [List.map_set];exact HS1.out,HI.out.trans (uv HK.out HM.out HXm.out HB.out),hb.grown HS2.out hb.size (by intro g hg;injection hg with hg;omega)⟩
      case measure=>simp [intOf];omega
   ·obtain rfl:k=n:=by omega
    go_wp2
    go_ret
    exact ⟨cx (by rw [HI.out,List.drop_of_length_le (Nat.le_of_eq HL.out)];rfl),hb⟩
 ·have h1:decide ((400:Int) < n)=true:=by simp;omega
  go_enter Try.func67,Try.ntmps67
  go_wp2
  go_ret
  exact ⟨cx (by unfold isPerm;rw [HL.out];simp;intro;omega),Below.refl _ _⟩
theorem uR (ao:Option Addr) (n c:Nat) (zs:List Int) (w:World) (h:cW w ao n zs):
  Calls Try.prog 86 #[.slice ao n c] w fun e w'=>e= .returned (.bool (isPerm zs))∧Below w.heap.size w w':=by
 have hn:=h.2.1
 have hl:=h.1
 have HL:=Lib.hid hl
 clear hl
 by_cases hs:n≤400
 ·have h1:decide ((400:Int) < n)=false:=by simp;omega
  have hp:isPerm zs=fU n (List.replicate n false) zs:=by unfold isPerm;rw [HL.out];simp [hs]
  have HP:=Lib.hid hp
  clear hp
  go_enter Try.func86,Try.ntmps86
  go_wp2_with (at_make;refine kh Jg _ rfl _ _ rfl w.heap.size _ _ _ _ n rfl rfl rfl rfl ab (Nat.le_refl _) ?_;intro w1 hown hgrow hsz)
  have hb1:Below w.heap.size w w1:=(Below.refl _ _).grown hgrow (Nat.le_refl _) (by simp)
  clear hgrow
  go_loopw [14] (fun i wr=>∃(k:Nat) (seen:List Bool),k≤n∧i= .int .i64 k∧Own wr w.heap.size 4 (some ⟨w.heap.size,0,none⟩) n n (seen.map Value.bool)∧isPerm zs=fU n seen (zs.drop k)∧Below w.heap.size w wr) (fun i _=>n - (intOf i).toNat)
  case atStart=>exact ⟨0,_,Nat.zero_le _,rfl,by rw [List.map_replicate];exact hown,HP.out,hb1⟩
  case round=>
   obtain ⟨k,seen,hk,rfl,ho,hinv,hb⟩:=hrel
   clear hown hb1 hsz
   have HI:=Lib.hid hinv
   clear hinv
   by_cases hlt:k < n
   ·obtain ⟨b,off,rfl,hc⟩:=(h.below hb).at_ hlt
    have HK:Hid (k < zs.length):=by have:=HL.out;show k < zs.length;omega
    have HH:=Lib.hid h
    clear h
    cases hin:kB (aD zs k) 0 ((n:Int) - 1) with
    | false=>
     have HX:=Lib.hid hin
     clear hin
     go_wp2_with (first | (go_at_call 39;refine (nS _ _ _ _).mono ?_;rintro e w' ⟨rfl,rfl⟩) | (go_at_call 52;refine (eK _ _ _ _).mono ?_;rintro e w' ⟨rfl,rfl⟩;rw [HX.out]))
     go_ret
     exact ⟨cx (HI.out.trans (rW HK.out HX.out)).symm,hb⟩
    | true=>
     have HX:=Lib.hid hin
     obtain ⟨hz0,hz1⟩:=dY.1 hin
     obtain ⟨m,hm⟩:=Int.eq_ofNat_of_zero_le hz0
     rw [hm] at hc hz1
     have HM:=Lib.hid hm
     have hmn:m < n:=by omega
     have hsc:=wR ho hmn
     have hfr:=rX ho m
     have HXm:Hid (kB (m:Int) 0 ((n:Int) - 1)=true):=by have:=HX.out;rwa [HM.out] at this
     clear hin hz0 hz1 hm
     cases hsb:xy seen m with
     | true=>
      rw [hsb] at hsc
      have HB:=Lib.hid hsb
      clear hsb
      go_wp2_with (first | (go_at_call 39;refine (nS _ _ _ _).mono ?_;rintro e w' ⟨rfl,rfl⟩) | (go_at_call 52;refine (eK _ _ _ _).mono ?_;rintro e w' ⟨rfl,rfl⟩;rw [HXm.out]))
      go_ret
      exact ⟨cx (HI.out.trans (sw HK.out HM.out HB.out)).symm,hb⟩
     | false=>
      rw [hsb] at hsc
      obtain ⟨st1,st2⟩:=ho.stored m (.bool true)
      have HB:=Lib.hid hsb
      have HS1:=Lib.hid st1
      have HS2:=Lib.hid st2
      clear hsb st1 st2
      go_wp2_with (first | (go_at_call 39;refine (nS _ _ _ _).mono ?_;rintro e w' ⟨rfl,rfl⟩) | (go_at_call 52;refine (eK _ _ _ _).mono ?_;rintro e w' ⟨rfl,rfl⟩;rw [HXm.out]))
      go_roundw
      case rel=>
       exact ⟨k + 1,seen.set m true,ab,by go_num,by rw [List.map_set];exact HS1.out,HI.out.trans (uv HK.out HM.out HXm.out HB.out),hb.grown HS2.out hb.size (by intro g hg;injection hg with hg;omega)⟩
      case measure=>simp [intOf];omega
   ·obtain rfl:k=n:=by omega
    go_wp2
    go_ret
    exact ⟨cx (by rw [HI.out,List.drop_of_length_le (Nat.le_of_eq HL.out)];rfl),hb⟩
 ·have h1:decide ((400:Int) < n)=true:=by simp;omega
  go_enter Try.func86,Try.ntmps86
  go_wp2
  go_ret
  exact ⟨cx (by unfold isPerm;rw [HL.out];simp;intro;omega),Below.refl _ _⟩
end Go.Proofs.Ytfpcfckocmmcnaa
namespace Go.Proofs.Ytfpcfckocmmcnaa
theorem te {n:Nat} {zs:List Int} :∀ {seen:List Bool},fU n seen zs=true→∀z∈zs,0≤z∧z < n:=by
 induction zs with
 | nil=>intro seen _ z hz;cases hz
 | cons a r ih=>
  intro seen h z hz
  simp only [fU,Bool.and_eq_true] at h
  rcases List.mem_cons.1 hz with rfl | hz
  ·have:=dY.1 h.1.1;omega
  ·exact ih h.2 z hz
theorem jZ {zs:List Int} (h:isPerm zs=true) {k:Nat} (hk:k < zs.length):0≤aD zs k∧aD zs k < zs.length:=by
 unfold isPerm at h
 exact te ((Bool.and_eq_true _ _ ▸ h).2) _ (jm hk)
end Go.Proofs.Ytfpcfckocmmcnaa
namespace Go.Proofs.Ytfpcfckocmmcnaa
def gf (zs:List Int):Bool:=(List.range zs.length).all fun i=> !(aD zs i == (i:Int)) && aD zs (aD zs i).toNat == (i:Int)
theorem na {zs:List Int} (h:gf zs=true) {i:Nat} (hi:i < zs.length):aD zs i≠i∧aD zs (aD zs i).toNat=i:=by
 unfold gf at h
 have:=(List.all_eq_true.1 h) i (List.mem_range.2 hi)
 simpa using this
theorem la {zs:List Int} {i:Nat} (hi:i < zs.length) (h:aD zs i=i∨aD zs (aD zs i).toNat≠i):gf zs=false:=by
 cases hf:gf zs with
 | false=>rfl
 | true=>
  have:=na hf hi
  rcases h with h | h
  ·exact absurd h this.1
  ·exact absurd this.2 h
theorem lZ {zs:List Int} (h:∀i,i < zs.length→aD zs i≠i∧aD zs (aD zs i).toNat=i):gf zs=true:=by
 unfold gf
 rw [List.all_eq_true]
 intro i hi
 have:=h i (List.mem_range.1 hi)
 simpa using this
def fu (zss:List (List Int)) (i k f:Nat):Prop:=dy zss (dy zss f i) k=dy zss (dy zss f k) i∧dy zss f i≠dy zss f k
structure dW (zss:List (List Int)):Prop where
 n1:1≤zss.length
 n5:zss.length≤5
 f2:2≤(aT zss 0).length
 f4:(aT zss 0).length≤400
 len:∀i,i < zss.length→(aT zss i).length=(aT zss 0).length
 perm:∀i,i < zss.length→isPerm (aT zss i)=true
 free:∀i,i < zss.length→gf (aT zss i)=true
 comm:∀i k,i + 2≤k→k < zss.length→∀f,f < (aT zss 0).length→fu zss i k f
 conn:(lx zss (aT zss 0).length 0).2.length=(aT zss 0).length
noncomputable def iY (zss:List (List Int)):Bool:= @decide (dW zss) (Classical.propDecidable _)
theorem iJ {zss:List (List Int)} (h:dW zss):iY zss=true:=by unfold iY;exact @decide_eq_true _ (Classical.propDecidable _) h
theorem eO {zss:List (List Int)} (h:¬dW zss):iY zss=false:=by unfold iY;exact @decide_eq_false _ (Classical.propDecidable _) h
theorem rf {zss:List (List Int)} :iY zss=true↔dW zss:=by unfold iY;exact @decide_eq_true_iff _ (Classical.propDecidable _)
def Rows (zss:List (List Int)) (n m:Nat):Prop:=∀i,i < m→(aT zss i).length=n∧isPerm (aT zss i)=true∧gf (aT zss i)=true
theorem m5 {zss:List (List Int)} {n:Nat} (h:Rows zss n zss.length):dh zss n:=
 ⟨fun k hk=>(h k hk).1,fun k hk x hx=>by
  have h1:=jZ (h k hk).2.1 (k:=x) (by rw [(h k hk).1];exact hx)
  rw [(h k hk).1] at h1;exact h1⟩
theorem oS {zss:List (List Int)} {n:Nat} (h:Rows zss n zss.length):mC zss n:=fun g hg c hc=>by
 have h1:=(na (h g hg).2.2 (i:=c) (by rw [(h g hg).1];exact hc)).2
 unfold dy
 rw [h1,Int.toNat_natCast]
theorem dW.rows {zss:List (List Int)} (h:dW zss):Rows zss (aT zss 0).length zss.length:=fun i hi=>⟨h.len i hi,h.perm i hi,h.free i hi⟩
end Go.Proofs.Ytfpcfckocmmcnaa
