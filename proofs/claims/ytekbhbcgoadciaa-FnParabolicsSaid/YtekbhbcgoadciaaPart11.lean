/- A memory of names: beside it a map from integers to integers that the call itself has made. No program in sight. -/
import Derived.Test.YtekbhbcgoadciaaPart10
import Derived.Maps.OwnSet
import Derived.Maps.Views
import Derived.Test.YtekbhbcgoadciaaPart1
import Derived.Test.YtekbhbcgoadciaaPart4
import Derived.Test.YtekbhbcgoadciaaPart2
import Derived.Test.YtekbhbcgoadciaaPart8
import Derived.Test.YtekbhbcgoadciaaPart9
namespace Go.Proofs.Ytekbhbcgoadciaa
open Go.RowKit
section
variable {P:Program} {nt:Nat} {S S1 S2:St} {w0 w wB:World} {ω0:kd} {ω ωB:bE} {η:Env} {a:Act} {Q:Exit→Act→World→Prop} {ops:Array Oper} {rest:List Oper}
variable {t:Nat} {ty:TypeId} {ps:String} {af:Array Edge} {gd:Option (Nat×Bool)} {x y:Operand} {av:AV} {o:Oper}
theorem j6.off {own:Bool} {ow:Nm×Option Nat} {h:Hd} {E:TypeId} {len:Nat} {cell cell':Nat→Value→Prop} {b:Nat} {w':World} (hb:∀o,w.cell? ⟨b,o,none⟩=none) (hn:ω b=none) (hs:∀b',b' < w.heap.size→b'≠b→w'.heap[b']? =w.heap[b']?) (hsz:w.heap.size≤w'.heap.size)
  (hc:∀j u,cell j u→cell' j u) (hv:j6 own ω w ow h E len cell):j6 own ω w' ow h E len cell':=by
 cases own with
 | true=>
  rcases hv with h0 | ⟨b0,o,cs,h1,h2,h3,h4,h5,h6,h7⟩
  ·exact .inl h0
  ·have hne:b0≠b:=fun e=>by rw [e,hn] at h2;cases h2
   refine .inr ⟨b0,o,cs,h1,h2,(hs b0 (ed h3) hne).trans h3,h4,h5,h6,fun j hj=> ?_⟩
   obtain ⟨u,hu,hcu⟩:=h7 j hj
   exact ⟨u,hu,hc j u hcu⟩
 | false=>
  refine ⟨hv.1,fun j hj=> ?_⟩
  obtain ⟨b0,o,u,h1,h2,h3,h4,h5⟩:=hv.2 j hj
  have hne:b0≠b:=fun e=>by rw [e,hb] at h4;cases h4
  exact ⟨b0,o,u,h1,h2,Nat.lt_of_lt_of_le h3 hsz,(World.cell?_of_block (hs b0 h3 hne)).trans h4,hc j u h5⟩
theorem Mem.off {b:Nat} {w':World} {ch:Nm→Option Ch} (hb:∀o,w.cell? ⟨b,o,none⟩=none) (hn:ω b=none) (hs:∀b',b' < w.heap.size→b'≠b→w'.heap[b']? =w.heap[b']?) (hsz:w.heap.size≤w'.heap.size) (hm:Mem η ω w ch):Mem η ω w' ch:=by
 refine ⟨fun x c hx=> ?_,hm.2⟩
 obtain ⟨h,h1,h2,h3⟩:=hm.1 x c hx
 refine ⟨h,h1,h2,h3.off hb hn hs hsz fun j u hu=> ?_⟩
 cases hd:c.d with
 | flat l=>rw [hd] at hu;exact hu
 | bG vs=>rw [hd] at hu;exact hu
 | rows E vss holes=>
  rw [hd] at hu
  exact ⟨hu.1,fun hj vs hvs=>have ⟨k1,k2,k3⟩:=hu.2 hj vs hvs;⟨k1,k2,k3.off hb hn hs hsz fun _ _ h=>h⟩⟩
 | mix cs=>rw [hd] at hu;exact ⟨hu.1,fun c hc=>(hu.2 c hc).move rfl fun _ _ _ _ _ h3=>h3.off hb hn hs hsz fun _ _ h=>h⟩
structure nd (P:Program) (k e:TypeId) (b:Nat) (ω:bE) (w:World) (f:Int→Option Int) (n:Nat):Prop where
 free:ω b=none
 map:∃D:DataW Unit,w.ownsMap P k (plainElem P e) b n D∧Maps.IsMap D∧∀z,(Lit.int .i64 z).wf=true→Maps.has D (.int .i64 z)=(f z).isSome∧D.atKey (.int .i64 z) (.lit (.int .i64 0))= .lit (.int .i64 ((f z).getD 0))
theorem nd.lt {k e b n:Nat} {f:Int→Option Int} (h:nd P k e b ω w f n):b < w.heap.size:=by
 obtain ⟨D,hD,_⟩:=h.map
 exact hD.lt
theorem nd.no {k e b n:Nat} {f:Int→Option Int} (h:nd P k e b ω w f n) (o:Nat):w.cell? ⟨b,o,none⟩=none:=by
 obtain ⟨D,⟨es,clock,hb,_⟩,_⟩:=h.map
 simp [World.cell?,hb]
theorem nd.fr {k e b n:Nat} {f:Int→Option Int} (h:nd P k e b ωB wB f n) (hf:Fr ωB wB ω w):nd P k e b ω w f n:=by
 have hb:=hf.block b h.lt h.free
 obtain ⟨D,⟨es,clock,h1,h2⟩,h3⟩:=h.map
 exact ⟨hb.2,D,⟨es,clock,hb.1.trans h1,h2⟩,h3⟩
structure MB (P:Program) (k e:TypeId) (w0:World) (ω0:bE) (b:Nat) (f:Int→Option Int) (n:Nat) (wB:World) (ωB:bE):Prop where
 fr:Fr ω0 w0 ωB wB
 new:w0.heap.size≤b
 at_:nd P k e b ωB wB f n
theorem zm {e:Exit} (hf:Fr ω0.own w0 ωB wB) (h:Fin w0 ω0 nt S e Q):Fin wB ⟨ωB,ω0.ph⟩ nt S e Q:=
 ⟨fun a w ⟨η,ω,hs⟩=>h.go a w ⟨η,ω, { dfr:=hs.dfr,tsz:=hs.tsz,slots:=hs.slots,phs:=hs.phs,mem:=hs.mem,fr:=hf.trans hs.fr }⟩⟩
theorem run_makeMap {T k e:Nat} (hg:o.guard=none) (ho:o=⟨some t, .makeMap T none,ty,ps,af,gd⟩) (ht:Nat.blt t nt=true) (K:P.underlying k=some (.int .i64)) (hT:P.underlying T=some (.map k e))
  (h:∀b wB ωB,MB P k e w0 ω0.own b (fun _=>none) 0 wB ωB→ns P wB ⟨ωB,ω0.ph⟩ nt ops Q (S.put t (vv (.map (some b)))) rest):ns P w0 ω0 nt ops Q S (o :: rest):=by
 subst ho
 refine ⟨fun a w ⟨η,ω,hs⟩=>wpList_plain hg fun K' hK'=> ?_⟩
 have hrun:=Go.RowKit.run_makeMap (P:=P) T w
 unfold Oper.wp
 have hex:(execOp a.eval ⟨some t, .makeMap T none,ty,ps,af,gd⟩).run P w= .ok (.value (.map (some w.heap.size))) (w.alloc (.map #[] 0)):=by simp [execOp,hrun]
 rw [hex]
 refine hK' _ _ ?_
 let ω':bE:=fun b=>if b=w.heap.size then none else ω b
 have hheap:∀b,b < w.heap.size→(w.alloc (.map #[] 0)).heap[b]? =w.heap[b]? :=fun b hb=>Below.heap_alloc w _ b hb
 have hsame:∀p:Option (Nm×Option Nat)→Prop,Same ω w ω' (w.alloc (.map #[] 0)) p:=fun p=>⟨by simp,fun b hb _=>⟨hheap b hb,if_neg (Nat.ne_of_lt hb)⟩⟩
 have hmem:Mem η ω' (w.alloc (.map #[] 0)) S.ch:=⟨fun x c hx=>by
  obtain ⟨hd,h1,h2⟩:=hs.mem.1 x c hx
  exact ⟨hd,h1,h2.same (hsame fun _=>True) trivial (fun _=>trivial) (fun _=>rfl) fun l _ a _ y _=> .inr ⟨rfl,fun _=>rfl⟩⟩,hs.mem.2⟩
 have hfr:Fr ω0.own w0 ω' (w.alloc (.map #[] 0)):=hs.fr.trans ⟨rfl,rfl,rfl,by simp,fun b hb hn=>⟨hheap b hb,(if_neg (Nat.ne_of_lt hb)).trans hn⟩⟩
 refine (h w.heap.size (w.alloc (.map #[] 0)) ω' ⟨hfr,hs.fr.size,if_pos rfl, .map [],World.ownsMap_made w P k _,⟨_,rfl⟩,fun z _=>⟨rfl,rfl⟩⟩).go _ _ ⟨η,ω', ?_⟩
 exact dj.eY (w0:=w.alloc (.map #[] 0)) (ω0:=⟨ω',ω0.ph⟩) { dfr:=hs.dfr,tsz:=hs.tsz,slots:=hs.slots,phs:=hs.phs,mem:=hmem,fr:=Fr.refl _ _ } (by simpa using ht) rfl
theorem ox {T k e b n:Nat} {m v:Operand} {z r:Int} {f:Int→Option Int} {w00:World} {ω00:bE} {ph:List Value} (hg:o.guard=none) (ho:o.op= .mapUpdate T m x v∨o.op= .insert T m x v) (hd:o.dst=none) (K:P.underlying k=some (.int .i64)) (he:P.underlying e=some (.int .i64)) (hT:P.underlying T=some (.map k e))
  (hB:MB P k e w00 ω00 b f n wB ωB) (hm:S.op m=some (vv (.map (some b)))) (hx:S.op x=some (vv (I6 z))) (hv:S.op v=some (vv (I6 r))) (hz:(Lit.int .i64 z).wf=true) (hr:(Lit.int .i64 r).wf=true) (hn:n≤1000000000)
  (h:∀wB' ωB',MB P k e w00 ω00 b (fun z'=>if z'=z then some r else f z') (n + 1) wB' ωB'→ns P wB' ⟨ωB',ph⟩ nt ops Q S rest):ns P wB ⟨ωB,ph⟩ nt ops Q S (o :: rest):=by
 refine ⟨fun a w ⟨η,ω,hs⟩=>wpList_plain hg fun K' hK'=> ?_⟩
 have hA:=hB.at_.fr hs.fr
 obtain ⟨D,hD,hI,hf⟩:=hA.map
 obtain ⟨w',hrun,r1,r2⟩:=hD.update (d:= .lit (.int .i64 r)) (ps:= []) (Maps.int_keyed K) hT (by simp [maxLen];omega) (Maps.keyOf_int_mk K hz) (plainElem_int he hr)
 unfold Oper.wp
 have hex:(execOp a.eval o).run P w= .ok .skip w':=by
  rcases ho with ho | ho<;>simp [execOp,ho,hs.fL hm,hs.fL hx,hs.fL hv,hrun]
 rw [hex]
 refine hK' _ _ ?_
 rw [hd]
 have hs':∀b',b' < w.heap.size→b'≠b→w'.heap[b']? =w.heap[b']? :=fun b' h1 hb'=>r2.block b' h1 (by simpa using hb')
 have hmem:=hs.mem.off hA.no hA.free hs' r2.size
 have hfr:Fr ω00 w00 ω w':=⟨r2.os.trans (hB.fr.trans hs.fr).os,r2.tape.trans (hB.fr.trans hs.fr).tape,r2.output.trans (hB.fr.trans hs.fr).output,Nat.le_trans (hB.fr.trans hs.fr).size r2.size,fun b' hb' hn'=>by
  have h1:=(hB.fr.trans hs.fr).block b' hb' hn'
  have hne:b'≠b:=fun e=>by have:=hB.new;omega
  exact ⟨(hs' b' (Nat.lt_of_lt_of_le hb' (hB.fr.trans hs.fr).size) hne).trans h1.1,h1.2⟩⟩
 refine (h w' ω ⟨hfr,hB.new,hA.free,_,r1,Maps.IsMap.put hI _ _,fun z' hz'=> ?_⟩).go _ _ ⟨η,ω, { dfr:=hs.dfr,tsz:=hs.tsz,slots:=hs.slots,phs:=hs.phs,mem:=hmem,fr:=Fr.refl _ _ }⟩
 by_cases e:z'=z
 ·subst e
  rw [Maps.has_put_same hI (k:= .int .i64 z') trivial,Maps.atKey_put_same hI (k:= .int .i64 z') trivial]
  simp
 ·have hne:Lit.int .i64 z'≠Lit.int .i64 z:=fun h=>by injection h with _ h;exact e h
  rw [Maps.has_put_other hne,Maps.atKey_put_other hne,if_neg e]
  exact hf z' hz'
theorem uB {T k e b n:Nat} {m:Operand} {z:Int} {f:Int→Option Int} {w00:World} {ω00:bE} {ph:List Value} (hg:o.guard=none) (ho:o.op= .lookup T m x true) (hd:o.dst=some t) (ht:Nat.blt t nt=true) (K:P.underlying k=some (.int .i64)) (he:P.underlying e=some (.int .i64)) (hT:P.underlying T=some (.map k e)) (hz0:(P.info? e).bind (·.zero)=some (I6 0))
  (hB:MB P k e w00 ω00 b f n wB ωB) (hm:S.op m=some (vv (.map (some b)))) (hx:S.op x=some (vv (I6 z))) (hz:(Lit.int .i64 z).wf=true)
  (h:ns P wB ⟨ωB,ph⟩ nt ops Q (S.put t (.tup [.one (.val (I6 ((f z).getD 0))), .one (.val (.bool (f z).isSome))])) rest):ns P wB ⟨ωB,ph⟩ nt ops Q S (o :: rest):=by
 refine ⟨fun a w ⟨η,ω,hs⟩=>wpList_plain hg fun K' hK'=> ?_⟩
 have hA:=hB.at_.fr hs.fr
 obtain ⟨D,hD,hI,hf⟩:=hA.map
 have hzero:(zeroValue e).run P w= .ok (I6 0) w:=by
  obtain ⟨i,hi,hz⟩:=Option.bind_eq_some_iff.1 hz0
  simp [zeroValue,typeInfo,hi,hz]
 obtain ⟨v,ps,hrun,hv⟩:=hD.look_ok (Maps.int_keyed K) hT hzero (plainElem_int he (by decide)) (Maps.keyOf_int_mk K hz)
 obtain ⟨h1,h2⟩:=hf z hz
 rw [h2] at hv
 obtain ⟨c,rfl,hc,_⟩:=plainElem_int_inv he hv
 simp only [Prod.mk.injEq,DataW.lit.injEq,Lit.int.injEq,true_and] at hc
 rw [h1,←hc.1] at hrun
 unfold Oper.wp
 have hex:(execOp a.eval o).run P w= .ok (.value (.tuple #[I6 ((f z).getD 0), .bool (f z).isSome])) w:=by
  simp [execOp,ho,hs.fL hm,hs.fL hx,hrun]
 rw [hex]
 refine hK' _ _ (h.go _ _ ⟨η,ω, ?_⟩)
 rw [hd]
 refine hs.eY (by simpa using ht) ⟨_,rfl,rfl,fun j b hj=> ?_⟩
 match j,hj with
 | 0,hj=>simp at hj;subst hj;exact ⟨_,by simp,rfl⟩
 | 1,hj=>simp at hj;subst hj;exact ⟨_,by simp,rfl⟩
def qE {ι:Type} (ph:List Value) (nt:Nat) (I:ι→St) (p:ι→World→bE→Prop) (μ:ι→Nat) (i:ι) (a:Act) (w:World):Prop:=∃j wB ωB,p j wB ωB∧μ j < μ i∧Sat wB ⟨ωB,ph⟩ nt (I j) a w
open Classical in
theorem pC {ι:Type} {ph:List Value} (I:ι→St) (p:ι→World→bE→Prop) (μ:ι→Nat) (i0:ι) {c:Code} (hp:p i0 wB ωB) (h0:Wk S (I i0)) (hr:∀i wB ωB,p i wB ωB→eC P wB ⟨ωB,ph⟩ nt (I i) c (Exit.then (qE ph nt I p μ i) Q)):eC P wB ⟨ωB,ph⟩ nt S (.loop c) Q:=by
 refine ⟨fun a w hs=> ?_⟩
 let R:Act→World→ι→Prop:=fun a w i=>∃wB ωB,p i wB ωB∧Sat wB ⟨ωB,ph⟩ nt (I i) a w
 have ex:∀a w,(∃i,R a w i)→∃n i,R a w i∧μ i=n:=fun a w ⟨i,hi⟩=>⟨μ i,i,hi,rfl⟩
 refine wp_loop (fun a w=>∃i,R a w i) (fun a w=>if h:∃i,R a w i then Classical.choose (least (ex a w h)) else 0) ⟨i0,wB,ωB,hp,h0.go _ _ _ a w hs⟩ fun a w hI=> ?_
 obtain ⟨⟨i,⟨wB',ωB',hi1,hi2⟩,hm⟩,_⟩:=Classical.choose_spec (least (ex a w hI))
 refine Code.wp_mono (fun e a' w' hq=> ?_) ((hr i wB' ωB' hi1).go a w hi2)
 cases e with
 | normal=>
  obtain ⟨j,wB2,ωB2,hpj,hj,hsj⟩:=hq
  have hR:R a' w' j:=⟨wB2,ωB2,hpj,hsj⟩
  refine ⟨⟨j,hR⟩, ?_⟩
  simp only [dif_pos hI,dif_pos (⟨j,hR⟩:∃i,R a' w' i)]
  refine Nat.lt_of_le_of_lt ((Classical.choose_spec (least (ex a' w' ⟨j,hR⟩))).2 _ ⟨j,hR,rfl⟩) ?_
  rw [←hm];exact hj
 | _=>exact hq
theorem pf {ι:Type} {ph:List Value} {I:ι→St} {p:ι→World→bE→Prop} {μ:ι→Nat} {i:ι} (j:ι) (hp:p j wB ωB) (hm:μ j < μ i) (h:Wk S (I j)):Fin wB ⟨ωB,ph⟩ nt S .normal (Exit.then (qE ph nt I p μ i) Q):=
 ⟨fun a w hs=>⟨j,wB,ωB,hp,hm,h.go _ _ _ a w hs⟩⟩
theorem vn {ph:List Value} (S':St) (p:World→bE→Prop) {c:Operand} {x y:Code} {b:Bool} (hc:S.op c=some (vv (.bool b)))
  (ht:b=true→eC P wB ⟨ωB,ph⟩ nt S x (fun e a w=>e= .normal∧∃wB ωB,p wB ωB∧Sat wB ⟨ωB,ph⟩ nt S' a w)) (hf:b=false→eC P wB ⟨ωB,ph⟩ nt S y (fun e a w=>e= .normal∧∃wB ωB,p wB ωB∧Sat wB ⟨ωB,ph⟩ nt S' a w))
  (k:∀wB ωB,p wB ωB→Fin wB ⟨ωB,ph⟩ nt S' .normal Q):eC P wB ⟨ωB,ph⟩ nt S (.cond c x y) Q:=
 au hc (fun h=>⟨fun a w hs=>Code.wp_mono (fun e a w he=>by obtain ⟨rfl,wB',ωB',h1,h2⟩:=he;exact (k wB' ωB' h1).go a w h2) ((ht h).go a w hs)⟩)
  (fun h=>⟨fun a w hs=>Code.wp_mono (fun e a w he=>by obtain ⟨rfl,wB',ωB',h1,h2⟩:=he;exact (k wB' ωB' h1).go a w h2) ((hf h).go a w hs)⟩)
theorem qk {ph:List Value} {S':St} {p:World→bE→Prop} (hp:p wB ωB) (h:Wk S1 S'):Fin wB ⟨ωB,ph⟩ nt S1 .normal (fun e a w=>e= .normal∧∃wB ωB,p wB ωB∧Sat wB ⟨ωB,ph⟩ nt S' a w):=⟨fun a w hs=>⟨rfl,wB,ωB,hp,h.go _ _ _ a w hs⟩⟩
end
end Go.Proofs.Ytekbhbcgoadciaa
namespace Go.Proofs.Ytekbhbcgoadciaa
open Go.RowKit
abbrev cE (m n:Nat) (b:Bool):Ch:=⟨true,65,3, .flat [.sl 25 0 m, .sl 26 0 n, .val (.bool b)]⟩
abbrev pE (ng R:Nat):Ch:=⟨true,32,2, .flat [.val (I6 ng), .sl 1003 0 R]⟩
theorem sD {z:Int} (h0:0≤z) (h:z≤1000000000):(Lit.int .i64 z).wf=true:=by
 simp [Lit.wf,IntKind.min,IntKind.max,IntKind.signed,IntKind.bits];omega
set_option maxRecDepth 100000 in
set_option maxHeartbeats 4000000 in
theorem kR (ng:Nat) (rels words:List (List Int)) (R m:Nat) (hR:rels.length=R) (hm:words.length=m) (hr:∀w∈rels,a9 ng w) (hw:∀w∈words,a9 ng w) (hng0:0 < ng) (hng:ng≤1000) (hrl:∀w∈rels,w.length≤1000000000) (hwl:∀w∈words,w.length≤1000000000) (hR2:R≤1000000000) (hm2:m≤1000000000) (X:dc) (hX:wX ng rels words=X):
  FC Try.prog 21 [(1002,aV words),(1003,aV rels)] [.s (.agg [.val (I6 ng), .sl 1003 0 R]),o1 (.sl 1002 0 m)] (if X.2.2=true then [] else [(131,cz (cF ng X.1 X.2.1))])
   (if X.2.2=true then .tup [.one (.val (.slice none 0 0)), .one (.val (.bool false))] else .tup [.one (.sl 131 0 ng), .one (.val (.bool true))]) []:=by
 have hRp:FC Try.prog 37 [(21,⟨false,2,1, .bG (aJ [-1])⟩)] [o1 (.sl 21 0 1),vv (I6 ng)] [(24,⟨true,2,1, .bG (aJ (List.replicate ng (-1)))⟩)] (o1 (.sl 24 0 ng)) []:=gX 21 24 ng (-1) (by omega) hng0
 have hrep:(aJ (List.replicate ng (-1))).length=ng:=by rw [an];simp
 refine bc (nt:=179) Try.func21 rfl rfl (by simp) fun w0 ω0=> ?_
 (refine ah ?_;refine ab ?_;apply aa rfl;(exact cS rfl rfl rfl rfl);apply aa rfl;(exact ag rfl rfl);apply aa rfl;(exact ag rfl rfl);refine aj ?_;refine ai ?_;refine ah ?_;refine ab ?_;apply aa rfl;(exact bM (E:=2) rfl (by as_aux_lemma=>kernel_rfl) rfl);apply aa rfl;(exact aE (d:=0) rfl rfl rfl (by as_aux_lemma=>kernel_rfl));apply aa rfl;(exact aQ rfl (by as_aux_lemma=>kernel_rfl) rfl rfl rfl rfl);apply aa rfl;(first | (apply ak 37;exact bz hRp (by as_aux_lemma=>kernel_rfl) rfl rfl ⟨rfl,rfl,trivial⟩ ⟨⟨_,rfl, .inr rfl⟩,trivial⟩ rfl rfl rfl) | exact ml (t:=25) (E:=24) (F:=2) rfl (by as_aux_lemma=>kernel_rfl) rfl rfl hrep rfl | exact j7 (T:=65) (vs:= [.bool false]) rfl rfl rfl rfl rfl (by as_aux_lemma=>(intros;kernel_rfl)));apply aa rfl;(first | (apply ak 37;exact bz hRp (by as_aux_lemma=>kernel_rfl) rfl rfl ⟨rfl,rfl,trivial⟩ ⟨⟨_,rfl, .inr rfl⟩,trivial⟩ rfl rfl rfl) | exact ml (t:=25) (E:=24) (F:=2) rfl (by as_aux_lemma=>kernel_rfl) rfl rfl hrep rfl | exact j7 (T:=65) (vs:= [.bool false]) rfl rfl rfl rfl rfl (by as_aux_lemma=>(intros;kernel_rfl)));apply aa rfl;(exact bM (E:=2) rfl (by as_aux_lemma=>kernel_rfl) rfl);apply aa rfl;(first | (apply ak 37;exact bz hRp (by as_aux_lemma=>kernel_rfl) rfl rfl ⟨rfl,rfl,trivial⟩ ⟨⟨_,rfl, .inr rfl⟩,trivial⟩ rfl rfl rfl) | exact ml (t:=25) (E:=24) (F:=2) rfl (by as_aux_lemma=>kernel_rfl) rfl rfl hrep rfl | exact j7 (T:=65) (vs:= [.bool false]) rfl rfl rfl rfl rfl (by as_aux_lemma=>(intros;kernel_rfl)));apply aa rfl;(exact cS rfl rfl rfl rfl);apply aa rfl;(exact ag rfl rfl);refine aj ?_;refine ai ?_;refine ah ?_;refine ah ?_;refine ab ?_;apply aa rfl;(exact ae rfl rfl);apply aa rfl;(exact a8 rfl rfl rfl (by as_aux_lemma=>kernel_rfl));apply aa rfl;(exact ae rfl rfl);refine aj ?_;refine ai ?_;refine aB ?_)
 refine bl (fun j:Nat×dc=>St.of [(2,o1 (.ptr 2 0)),(6,o1 (.ptr 28 0)),(29,o1 (.sl 1002 0 m)),(30,vv (I6 m)),(31,vv (I6 j.1))] [(28,cE j.2.2.1.length j.2.2.1.length j.2.2.2),(25,cz j.2.1),(26,bw j.2.2.1),(1002,aV words),(1003,aV rels),(2,pE ng R)])
  (fun j=>j.1≤m∧(words.take j.1).foldl (jJ ng) (c6 ng)=j.2∧uj ng 1 j.2) (fun j=>m - j.1) (0,c6 ng) ⟨Nat.zero_le _,rfl,u6 ng⟩ (Wk.of ⟨rfl,rfl,rfl,rfl,rfl,trivial⟩ ⟨rfl,rfl,rfl,rfl,rfl,rfl,trivial⟩ trivial) ?_
 rintro ⟨j,M,N,b⟩ ⟨hj,hfo,hok⟩
 dsimp only at hj hfo ⊢
 (refine ah ?_;refine ab ?_;apply aa rfl;(exact aD rfl rfl rfl rfl);refine aj ?_;refine ai ?_;refine ah ?_)
 refine bF rfl (fun hlt=> ?_) (fun hlt=> ?_)
 ·have hjw:j < words.length:=by omega
  obtain ⟨W,hW⟩:∃W,bu words j=W:=⟨_,rfl⟩
  have hWm:W∈words:=by rw [←hW];exact fD hjw
  obtain ⟨C,hC⟩:∃C,fC ng M N b 0 (W.map Int.toNat)=C:=⟨_,rfl⟩
  have hN0:0 < N.length:=hok.ok.lo
  have hcl:FC Try.prog 42 [(28,cE N.length N.length b),(25,cz M),(26,bw N),(1002,aV words)] [o1 (.ptr 28 0),o1 (.esl 1002 j 0 W.length),vv (I6 (0:Nat))] [(28,cE C.2.1.length C.2.1.length C.2.2),(25,cz C.1),(26,bw C.2.1)] (.tup []) [(0,o1 (.ptr 28 0))]:=
   (nj ng N.length M N b 0 words j W.length W rfl hok.ok.wf hok.full hN0 hok.ok.hi hng hjw hW rfl (hwl W hWm) (hw W hWm) C hC).nm [(1010,28),(1000,25),(1001,26),(1002,1002)] (by kernel_rfl)
  have hfo':(words.take (j + 1)).foldl (jJ ng) (c6 ng)=C:=by
   rw [gO hjw,List.foldl_append,hfo,hW];exact hC
  have hok':uj ng 1 C:=by rw [←hC];exact xU (w:=W) hok (by omega) (hw W hWm)
  have hrow:(bK words)[j]? =some (aJ W):=by rw [←hW];exact ar hjw
  (refine aI ?_;refine ai ?_;refine ah ?_;refine aB ?_;refine ah ?_;refine ab ?_;apply aa rfl;(exact aU rfl rfl rfl rfl rfl (by as_aux_lemma=>kernel_rfl) (by first | rfl | exact (Int.toNat_of_nonneg (by omega)).symm) (by first | assumption | omega | (simp;omega)) (by first | exact Nat.le_refl _ | exact Nat.le_of_eq (an _).symm | exact Nat.le_of_eq (aw _).symm | (refine Nat.le_trans ?_ (Nat.le_of_eq (an _).symm);(first | omega | (simp;done) | (simp;omega))) | (refine Nat.le_trans ?_ (Nat.le_of_eq (aw _).symm);(first | omega | (simp;done) | (simp;omega)))));apply aa rfl;(exact bo rfl (by as_aux_lemma=>kernel_rfl) rfl rfl rfl (by first | assumption | exact al (by assumption) | exact ar (by assumption) | exact al (by omega) | exact ar (by omega) | rfl) (by first | exact an _ | assumption | rfl));apply aa rfl;(exact ag rfl rfl);refine aj ?_;refine ai ?_;refine ab ?_;apply aa rfl;(exact ae rfl rfl);apply aa rfl;(exact ae rfl rfl);apply aa rfl;(apply ak 42;exact ct [(0,28)] hcl (by as_aux_lemma=>kernel_rfl) rfl rfl ⟨rfl,rfl,rfl,trivial⟩ ⟨⟨_,rfl, .inl rfl⟩,⟨_,rfl, .inl rfl⟩,⟨_,rfl, .inl rfl⟩,⟨_,rfl, .inl rfl⟩,trivial⟩ ⟨rfl,rfl,rfl,trivial⟩ rfl rfl);refine aj ?_;refine aK ?_;refine ai ?_;refine ab ?_;apply aa rfl;(exact aR rfl rfl rfl (by first | exact IntWalk.i64_in _ (by omega) | rfl));apply aa rfl;(exact ae rfl rfl);refine aj ?_)
  exact aX (j + 1,C) ⟨by show j + 1≤m;omega,hfo',hok'⟩ (by show m - (j + 1) < m - j;omega) (Wk.of ⟨rfl,rfl,rfl,rfl,rfl,trivial⟩ ⟨rfl,rfl,rfl,rfl,rfl,rfl,trivial⟩ trivial)
 ·obtain rfl:j=m:=by omega
  have hX0:outer ng rels 2001 0 (M,N,b)=X:=by rw [←hfo,←hm,List.take_length];exact hX
  clear hfo hlt hj
  (refine a5 ?_;refine ax ?_;refine ax ?_;refine aM ?_;refine ai ?_;refine ah ?_;refine ah ?_;refine ab ?_;apply aa rfl;(exact ag rfl rfl);refine aj ?_;refine ai ?_;refine aB ?_)
  refine bl (fun c:Nat×dc=>St.of [(2,o1 (.ptr 2 0)),(6,o1 (.ptr 28 0)),(9,vv (I6 c.1))] [(28,cE c.2.2.1.length c.2.2.1.length c.2.2.2),(25,cz c.2.1),(26,bw c.2.2.1),(1002,aV words),(1003,aV rels),(2,pE ng R)])
   (fun c=>outer ng rels (2001 - c.1) c.1 c.2=X∧c.1≤c.2.2.1.length∧uj ng 1 c.2) (fun c=>2001 - c.1) (0,(M,N,b)) ⟨hX0,Nat.zero_le _,hok⟩ (Wk.of ⟨rfl,rfl,rfl,trivial⟩ ⟨rfl,rfl,rfl,rfl,rfl,rfl,trivial⟩ trivial) ?_
  clear hX0 hok
  clear M N b
  rintro ⟨c,M,N,b⟩ ⟨hout,hcl,hok⟩
  dsimp only at hout hcl ⊢
  have hNl:N.length≤2000:=hok.ok.hi
  have hMN:M.length=N.length:=hok.ok.wf.len
  have hS:=pd 25 N.length
  repeat refine ah ?_
  refine cg (St.of [(2,o1 (.ptr 2 0)),(6,o1 (.ptr 28 0)),(9,vv (I6 c)),(52,vv (.bool (decide ((c:Int) < N.length) && !b)))] [(28,cE N.length N.length b),(25,cz M),(26,bw N),(1002,aV words),(1003,aV rels),(2,pE ng R)]) ?_ ?_
  ·(refine ab ?_;apply aa rfl;(exact ae rfl rfl);apply aa rfl;(exact ae rfl rfl);apply aa rfl;(exact bh rfl rfl rfl);apply aa rfl;(exact aE (d:=0) rfl rfl rfl (by as_aux_lemma=>kernel_rfl));apply aa rfl;(exact aQ rfl (by as_aux_lemma=>kernel_rfl) rfl rfl rfl rfl);apply aa rfl;(apply ak 43;exact aq hS (by as_aux_lemma=>kernel_rfl) rfl rfl ⟨rfl,trivial⟩ trivial rfl rfl);apply aa rfl;(exact aD rfl rfl rfl rfl);apply aa rfl;(exact ae rfl rfl))
   refine bH 46 rfl (fun h=> ?_) (fun h=> ?_)
   ·(apply aH rfl rfl rfl;(exact ae rfl rfl);apply aH rfl rfl rfl;(exact bh rfl rfl rfl);apply aH rfl rfl rfl;(exact aE (d:=2) rfl rfl rfl (by as_aux_lemma=>kernel_rfl));apply aH rfl rfl rfl;(exact aQ rfl (by as_aux_lemma=>kernel_rfl) rfl rfl rfl rfl);apply aH rfl rfl rfl;(exact cV rfl rfl);apply aa rfl;(exact bf rfl rfl rfl);refine aj ?_)
    exact aL (Wk.of ⟨rfl,rfl,rfl,by rw [h];rfl,trivial⟩ ⟨rfl,rfl,rfl,rfl,rfl,rfl,trivial⟩ trivial)
   ·(apply aG rfl rfl rfl rfl rfl;apply aG rfl rfl rfl rfl rfl;apply aG rfl rfl rfl rfl rfl;apply aG rfl rfl rfl rfl rfl;apply aG rfl rfl rfl rfl rfl;apply aa rfl;(exact br rfl rfl rfl);refine aj ?_)
    exact aL (Wk.of ⟨rfl,rfl,rfl,by rw [h];rfl,trivial⟩ ⟨rfl,rfl,rfl,rfl,rfl,rfl,trivial⟩ trivial)
  (refine ai ?_)
  refine au rfl (fun hc=> ?_) (fun hc=> ?_)
  ·obtain ⟨hlt,rfl⟩:c < N.length∧b=false:=by
    simp at hc;exact ⟨by omega,hc.2⟩
   obtain ⟨s0,hs0⟩:∃s0:dc,s0=(M,N,false):=⟨_,rfl⟩
   have hok0:uj ng N.length s0:=by subst hs0;exact ⟨⟨hok.ok.wf,Nat.le_refl _,hok.ok.hi⟩,fun e=>by cases e⟩
   have houts:outer ng rels (2000 - c) (c + 1) (dm ng rels c s0)=X:=by
    rw [←hout,show 2001 - c=(2000 - c) + 1 by omega,outer,if_pos ⟨hlt,rfl⟩,hs0]
   (refine aI ?_;refine ai ?_;refine ah ?_;refine aB ?_;refine ah ?_;refine ah ?_;refine ab ?_;apply aa rfl;(exact aE (d:=1) rfl rfl rfl (by as_aux_lemma=>kernel_rfl));apply aa rfl;(exact aQ rfl (by as_aux_lemma=>kernel_rfl) rfl rfl rfl rfl);apply aa rfl;(exact a8 rfl rfl rfl (by as_aux_lemma=>kernel_rfl));apply aa rfl;(exact ae rfl rfl);refine aj ?_;refine ai ?_;refine aB ?_)
   refine bl (fun j:Nat×dc=>St.of [(2,o1 (.ptr 2 0)),(6,o1 (.ptr 28 0)),(9,vv (I6 c)),(56,o1 (.sl 1003 0 R)),(57,vv (I6 R)),(58,vv (I6 j.1))] [(28,cE j.2.2.1.length j.2.2.1.length j.2.2.2),(25,cz j.2.1),(26,bw j.2.2.1),(1002,aV words),(1003,aV rels),(2,pE ng R)])
    (fun j=>j.1≤R∧(rels.take j.1).foldl (cm ng c) s0=j.2∧uj ng N.length j.2) (fun j=>R - j.1) (0,s0) ⟨Nat.zero_le _,rfl,hok0⟩ (Wk.of (by rw [hs0];exact ⟨rfl,rfl,rfl,rfl,rfl,rfl,trivial⟩) (by rw [hs0];exact ⟨rfl,rfl,rfl,rfl,rfl,rfl,trivial⟩) trivial) ?_
   generalize hn0:N.length=n0 at *
   have hn02:n0≤2000:=hNl
   clear hout hok hc hs0 hS hMN
   clear hn0
   rintro ⟨j,M,N,b⟩ ⟨hj,hfo,hok⟩
   dsimp only at hj hfo ⊢
   have hNl:N.length≤2000:=hok.ok.hi
   have hNn:n0≤N.length:=hok.ok.lo
   have hcN:c < N.length:=by omega
   (refine ah ?_;refine ab ?_;apply aa rfl;(exact aD rfl rfl rfl rfl);refine aj ?_;refine ai ?_;refine ah ?_)
   refine bF rfl (fun hjr=> ?_) (fun hjr=> ?_)
   ·have hjw:j < rels.length:=by omega
    obtain ⟨W,hW⟩:∃W,bu rels j=W:=⟨_,rfl⟩
    have hWm:W∈rels:=by rw [←hW];exact fD hjw
    have hrow:(bK rels)[j]? =some (aJ W):=by rw [←hW];exact ar hjw
    have hfo':(rels.take (j + 1)).foldl (cm ng c) s0=cm ng c (M,N,b) W:=by rw [gO hjw,List.foldl_append,hfo,hW];rfl
    have hok':=uW hok hlt (hr W hWm)
    (refine aI ?_;refine ai ?_;refine ah ?_;refine aB ?_;refine ah ?_;refine ab ?_;apply aa rfl;(exact aU rfl rfl rfl rfl rfl (by as_aux_lemma=>kernel_rfl) (by first | rfl | exact (Int.toNat_of_nonneg (by omega)).symm) (by first | assumption | omega | (simp;omega)) (by first | exact Nat.le_refl _ | exact Nat.le_of_eq (an _).symm | exact Nat.le_of_eq (aw _).symm | (refine Nat.le_trans ?_ (Nat.le_of_eq (an _).symm);(first | omega | (simp;done) | (simp;omega))) | (refine Nat.le_trans ?_ (Nat.le_of_eq (aw _).symm);(first | omega | (simp;done) | (simp;omega)))));apply aa rfl;(exact bo rfl (by as_aux_lemma=>kernel_rfl) rfl rfl rfl (by first | assumption | exact al (by assumption) | exact ar (by assumption) | exact al (by omega) | exact ar (by omega) | rfl) (by first | exact an _ | assumption | rfl));apply aa rfl;(exact ag rfl rfl);refine aj ?_;refine ai ?_;refine ah ?_;refine ab ?_;apply aa rfl;(exact ae rfl rfl);apply aa rfl;(exact bh rfl rfl rfl);apply aa rfl;(exact aE (d:=1) rfl rfl rfl (by as_aux_lemma=>kernel_rfl));apply aa rfl;(exact aQ rfl (by as_aux_lemma=>kernel_rfl) rfl rfl rfl rfl);apply aa rfl;(exact ae rfl rfl);apply aa rfl;(exact aU rfl rfl rfl rfl rfl (by as_aux_lemma=>kernel_rfl) (by first | rfl | exact (Int.toNat_of_nonneg (by omega)).symm) (by first | assumption | omega | (simp;omega)) (by first | exact Nat.le_refl _ | exact Nat.le_of_eq (an _).symm | exact Nat.le_of_eq (aw _).symm | (refine Nat.le_trans ?_ (Nat.le_of_eq (an _).symm);(first | omega | (simp;done) | (simp;omega))) | (refine Nat.le_trans ?_ (Nat.le_of_eq (aw _).symm);(first | omega | (simp;done) | (simp;omega)))));apply aa rfl;(exact a7 rfl (by as_aux_lemma=>kernel_rfl) rfl rfl rfl (by first | assumption | exact al (by assumption) | exact ar (by assumption) | exact al (by omega) | exact ar (by omega) | rfl));apply aa rfl;(exact ae rfl rfl);apply aa rfl;(exact aD rfl rfl rfl rfl);apply aa rfl;(exact ae rfl rfl))
    refine bH 71 rfl (fun h=> ?_) (fun h=> ?_)
    ·have hlv:aC N c=(c:Int):=by simpa using h
     (apply aH rfl rfl rfl;(exact ae rfl rfl);apply aH rfl rfl rfl;(exact bh rfl rfl rfl);apply aH rfl rfl rfl;(exact aE (d:=2) rfl rfl rfl (by as_aux_lemma=>kernel_rfl));apply aH rfl rfl rfl;(exact aQ rfl (by as_aux_lemma=>kernel_rfl) rfl rfl rfl rfl);apply aH rfl rfl rfl;(exact cV rfl rfl);apply aa rfl;(exact bf rfl rfl rfl);refine aj ?_;refine ai ?_)
     refine au rfl (fun hb=> ?_) (fun hb=> ?_)
     ·obtain rfl:b=false:=by simpa using hb
      obtain ⟨C,hC⟩:∃C,fC ng M N false c (W.map Int.toNat)=C:=⟨_,rfl⟩
      have hliv:dX (M,N,false) c=true:=by show (decide (aC N c=(c:Int)) && !false)=true;simp [hlv]
      have hst:cm ng c (M,N,false) W=C:=by unfold cm;rw [if_pos hliv];rw [←hC];unfold fC;rw [if_neg (by simp)]
      rw [hst] at hfo' hok'
      have hcl:FC Try.prog 42 [(28,cE N.length N.length false),(25,cz M),(26,bw N),(1003,aV rels)] [o1 (.ptr 28 0),o1 (.esl 1003 j 0 W.length),vv (I6 c)] [(28,cE C.2.1.length C.2.1.length C.2.2),(25,cz C.1),(26,bw C.2.1)] (.tup []) [(0,o1 (.ptr 28 0))]:=
       (nj ng N.length M N false c rels j W.length W rfl hok.ok.wf (fun e=>by cases e) hcN hok.ok.hi hng hjw hW rfl (hrl W hWm) (hr W hWm) C hC).nm [(1010,28),(1000,25),(1001,26),(1002,1003)] (by kernel_rfl)
      (refine ab ?_;apply aa rfl;(exact ae rfl rfl);apply aa rfl;(exact ae rfl rfl);apply aa rfl;(exact ae rfl rfl);apply aa rfl;(apply ak 42;exact ct [(0,28)] hcl (by as_aux_lemma=>kernel_rfl) rfl rfl ⟨rfl,rfl,rfl,trivial⟩ ⟨⟨_,rfl, .inl rfl⟩,⟨_,rfl, .inl rfl⟩,⟨_,rfl, .inl rfl⟩,⟨_,rfl, .inl rfl⟩,trivial⟩ ⟨rfl,rfl,rfl,trivial⟩ rfl rfl);refine aj ?_;refine aK ?_;refine ai ?_;refine ab ?_;apply aa rfl;(exact aR rfl rfl rfl (by first | exact IntWalk.i64_in _ (by omega) | rfl));apply aa rfl;(exact ae rfl rfl);refine aj ?_)
      exact aX (j + 1,C) ⟨by show j + 1≤R;omega,hfo',hok'⟩ (by show R - (j + 1) < R - j;omega) (Wk.of ⟨rfl,rfl,rfl,rfl,rfl,rfl,trivial⟩ ⟨rfl,rfl,rfl,rfl,rfl,rfl,trivial⟩ trivial)
     ·obtain rfl:b=true:=by simpa using hb
      have hst:cm ng c (M,N,true) W=(M,N,true):=gn (by unfold dX;simp) W
      rw [hst] at hfo' hok'
      (refine aI ?_;refine aK ?_;refine ai ?_;refine ab ?_;apply aa rfl;(exact aR rfl rfl rfl (by first | exact IntWalk.i64_in _ (by omega) | rfl));apply aa rfl;(exact ae rfl rfl);refine aj ?_)
      exact aX (j + 1,(M,N,true)) ⟨by show j + 1≤R;omega,hfo',hok'⟩ (by show R - (j + 1) < R - j;omega) (Wk.of ⟨rfl,rfl,rfl,rfl,rfl,rfl,trivial⟩ ⟨rfl,rfl,rfl,rfl,rfl,rfl,trivial⟩ trivial)
    ·have hlv:¬aC N c=(c:Int):=by simpa using h
     have hst:cm ng c (M,N,b) W=(M,N,b):=gn (by unfold dX;simp [hlv]) W
     rw [hst] at hfo' hok'
     (apply aG rfl rfl rfl rfl rfl;apply aG rfl rfl rfl rfl rfl;apply aG rfl rfl rfl rfl rfl;apply aG rfl rfl rfl rfl rfl;apply aG rfl rfl rfl rfl rfl;apply aa rfl;(exact br rfl rfl rfl);refine aj ?_;refine ai ?_)
     refine au rfl (fun e=>by cases e) (fun _=> ?_)
     (refine aI ?_;refine aK ?_;refine ai ?_;refine ab ?_;apply aa rfl;(exact aR rfl rfl rfl (by first | exact IntWalk.i64_in _ (by omega) | rfl));apply aa rfl;(exact ae rfl rfl);refine aj ?_)
     exact aX (j + 1,(M,N,b)) ⟨by show j + 1≤R;omega,hfo',hok'⟩ (by show R - (j + 1) < R - j;omega) (Wk.of ⟨rfl,rfl,rfl,rfl,rfl,rfl,trivial⟩ ⟨rfl,rfl,rfl,rfl,rfl,rfl,trivial⟩ trivial)
   ·obtain rfl:j=R:=by omega
    have hfull:rels.foldl (cm ng c) s0=(M,N,b):=by rw [←hfo,←hR,List.take_length]
    obtain ⟨s1,hs1⟩:∃s1:dc,s1=(M,N,b):=⟨_,rfl⟩
    have hok1:uj ng n0 s1:=by rw [hs1];exact hok
    have hcos:(List.range ng).foldl (cI ng c) s1=dm ng rels c s0:=by unfold dm;rw [hfull,hs1]
    (refine a5 ?_;refine ax ?_;refine ax ?_;refine aM ?_;refine ai ?_;refine ah ?_;refine ab ?_;apply aa rfl;(exact aE (d:=0) rfl rfl rfl (by as_aux_lemma=>kernel_rfl));apply aa rfl;(exact aQ rfl (by as_aux_lemma=>kernel_rfl) rfl rfl rfl rfl);apply aa rfl;(exact ae rfl rfl);refine aj ?_;refine ai ?_;refine aB ?_)
    refine bl (fun g:Nat×dc=>St.of [(2,o1 (.ptr 2 0)),(6,o1 (.ptr 28 0)),(9,vv (I6 c)),(84,vv (I6 ng)),(85,vv (I6 g.1))] [(28,cE g.2.2.1.length g.2.2.1.length g.2.2.2),(25,cz g.2.1),(26,bw g.2.2.1),(1002,aV words),(1003,aV rels),(2,pE ng j)])
     (fun g=>g.1≤ng∧(List.range g.1).foldl (cI ng c) s1=g.2∧uj ng n0 g.2) (fun g=>ng - g.1) (0,s1) ⟨Nat.zero_le _,rfl,hok1⟩ (Wk.of (by rw [hs1];exact ⟨rfl,rfl,rfl,rfl,rfl,trivial⟩) (by rw [hs1];exact ⟨rfl,rfl,rfl,rfl,rfl,rfl,trivial⟩) trivial) ?_
    clear hok hs1 hfull hfo hcN hNl hNn
    rintro ⟨g,M,N,b⟩ ⟨hg,hfo,hok⟩
    dsimp only at hg hfo ⊢
    have hNl:N.length≤2000:=hok.ok.hi
    have hNn:n0≤N.length:=hok.ok.lo
    have hcN:c < N.length:=by omega
    have hMN:M.length=N.length:=hok.ok.wf.len
    have hrc:(bu M c).length=ng:=(show WF ng M N from hok.ok.wf).row c (by omega)
    (refine ah ?_;refine ab ?_;apply aa rfl;(exact aD rfl rfl rfl rfl);refine aj ?_;refine ai ?_;refine ah ?_)
    refine bF rfl (fun hgl=> ?_) (fun hgl=> ?_)
    ·have hgn:g < ng:=by omega
     have hfo':(List.range (g + 1)).foldl (cI ng c) s1=cI ng c (M,N,b) g:=by rw [List.range_succ,List.foldl_append,hfo];rfl
     have hok':=wy (g:=g) hok hlt hgn
     (refine aI ?_;refine ai ?_;refine ah ?_;refine aB ?_;refine ah ?_;refine ab ?_;apply aa rfl;(exact ae rfl rfl);apply aa rfl;(exact ag rfl rfl);refine aj ?_;refine ai ?_;refine ah ?_;refine ab ?_;apply aa rfl;(exact ae rfl rfl);apply aa rfl;(exact bh rfl rfl rfl);apply aa rfl;(exact aE (d:=1) rfl rfl rfl (by as_aux_lemma=>kernel_rfl));apply aa rfl;(exact aQ rfl (by as_aux_lemma=>kernel_rfl) rfl rfl rfl rfl);apply aa rfl;(exact ae rfl rfl);apply aa rfl;(exact aU rfl rfl rfl rfl rfl (by as_aux_lemma=>kernel_rfl) (by first | rfl | exact (Int.toNat_of_nonneg (by omega)).symm) (by first | assumption | omega | (simp;omega)) (by first | exact Nat.le_refl _ | exact Nat.le_of_eq (an _).symm | exact Nat.le_of_eq (aw _).symm | (refine Nat.le_trans ?_ (Nat.le_of_eq (an _).symm);(first | omega | (simp;done) | (simp;omega))) | (refine Nat.le_trans ?_ (Nat.le_of_eq (aw _).symm);(first | omega | (simp;done) | (simp;omega)))));apply aa rfl;(exact a7 rfl (by as_aux_lemma=>kernel_rfl) rfl rfl rfl (by first | assumption | exact al (by assumption) | exact ar (by assumption) | exact al (by omega) | exact ar (by omega) | rfl));apply aa rfl;(exact ae rfl rfl);apply aa rfl;(exact aD rfl rfl rfl rfl);apply aa rfl;(exact ae rfl rfl))
     refine bH 97 rfl (fun h=> ?_) (fun h=> ?_)
     ·have hlv:aC N c=(c:Int):=by simpa using h
      (apply aH rfl rfl rfl;(exact ae rfl rfl);apply aH rfl rfl rfl;(exact bh rfl rfl rfl);apply aH rfl rfl rfl;(exact aE (d:=2) rfl rfl rfl (by as_aux_lemma=>kernel_rfl));apply aH rfl rfl rfl;(exact aQ rfl (by as_aux_lemma=>kernel_rfl) rfl rfl rfl rfl);apply aH rfl rfl rfl;(exact cV rfl rfl);apply aa rfl;(exact bf rfl rfl rfl);apply aa rfl;(exact ae rfl rfl))
      refine bH 104 rfl (fun hb=> ?_) (fun hb=> ?_)
      ·obtain rfl:b=false:=by simpa using hb
       have hliv:dX (M,N,false) c=true:=by show (decide (aC N c=(c:Int)) && !false)=true;simp [hlv]
       have hst:cI ng c (M,N,false) g=((bI ng M N c g).1,(bI ng M N c g).2.1,(bI ng M N c g).2.2.1):=by unfold cI;rw [if_pos hliv]
       rw [hst] at hfo' hok'
       (apply aH rfl rfl rfl;(exact ae rfl rfl);apply aH rfl rfl rfl;(exact bh rfl rfl rfl);apply aH rfl rfl rfl;(exact aE (d:=0) rfl rfl rfl (by as_aux_lemma=>kernel_rfl));apply aH rfl rfl rfl;(exact aQ rfl (by as_aux_lemma=>kernel_rfl) rfl rfl rfl rfl);apply aH rfl rfl rfl;(exact ae rfl rfl);apply aH rfl rfl rfl;(exact aU rfl rfl rfl rfl rfl (by as_aux_lemma=>kernel_rfl) (by first | rfl | exact (Int.toNat_of_nonneg (by omega)).symm) (by first | assumption | omega | (simp;omega)) (by first | exact Nat.le_refl _ | exact Nat.le_of_eq (an _).symm | exact Nat.le_of_eq (aw _).symm | (refine Nat.le_trans ?_ (Nat.le_of_eq (an _).symm);(first | omega | (simp;done) | (simp;omega))) | (refine Nat.le_trans ?_ (Nat.le_of_eq (aw _).symm);(first | omega | (simp;done) | (simp;omega)))));apply aH rfl rfl rfl;(exact bo rfl (by as_aux_lemma=>kernel_rfl) rfl rfl rfl (by first | assumption | exact al (by assumption) | exact ar (by assumption) | exact al (by omega) | exact ar (by omega) | rfl) (by first | exact an _ | assumption | rfl));apply aH rfl rfl rfl;(exact ae rfl rfl);apply aH rfl rfl rfl;(exact aS rfl rfl rfl rfl rfl (by as_aux_lemma=>kernel_rfl) (by first | assumption | exact al (by assumption) | exact ar (by assumption) | exact al (by omega) | exact ar (by omega) | rfl) (by first | rfl | exact (Int.toNat_of_nonneg (by omega)).symm) (by first | assumption | omega | (simp;omega)) (by first | exact Nat.le_refl _ | exact Nat.le_of_eq (an _).symm | exact Nat.le_of_eq (aw _).symm | (refine Nat.le_trans ?_ (Nat.le_of_eq (an _).symm);(first | omega | (simp;done) | (simp;omega))) | (refine Nat.le_trans ?_ (Nat.le_of_eq (aw _).symm);(first | omega | (simp;done) | (simp;omega)))));apply aH rfl rfl rfl;(exact aN rfl (by as_aux_lemma=>kernel_rfl) rfl rfl rfl (by first | assumption | exact al (by assumption) | exact ar (by assumption) | exact al (by omega) | exact ar (by omega) | rfl) (by first | assumption | exact al (by assumption) | exact ar (by assumption) | exact al (by omega) | exact ar (by omega) | rfl));apply aH rfl rfl rfl;(exact aD rfl rfl rfl rfl);apply aa rfl;(exact bf rfl rfl rfl);refine aj ?_;refine ai ?_)
       refine bF rfl (fun he=> ?_) (fun he=> ?_)
       ·have he:bD M c g < 0:=he
        by_cases hfull:N.length=2000
        ·have hnx:bI ng M N c g=(M,N,true,0):=by unfold bI;rw [if_neg (by omega),if_pos hfull]
         rw [hnx] at hfo' hok'
         have hD:FC Try.prog 44 [(28,cE N.length N.length false),(25,cz M),(26,bw N)] [o1 (.ptr 28 0),vv (I6 c),vv (I6 g)] [(28,cE N.length N.length true),(25,cz M),(26,bw N)] (vv (I6 c)) [(0,o1 (.ptr 28 0))]:=(lG M N N.length N.length c g false hMN (by omega)).nm [(1010,28),(1000,25),(1001,26)] (by kernel_rfl)
         (refine ab ?_;apply aa rfl;(exact ae rfl rfl);apply aa rfl;(exact ae rfl rfl);apply aa rfl;(exact ae rfl rfl);apply aa rfl;(apply ak 44;exact ct [(0,28)] hD (by as_aux_lemma=>kernel_rfl) rfl rfl ⟨rfl,rfl,rfl,trivial⟩ ⟨⟨_,rfl, .inl rfl⟩,⟨_,rfl, .inl rfl⟩,⟨_,rfl, .inl rfl⟩,trivial⟩ ⟨rfl,rfl,rfl,trivial⟩ rfl rfl);refine aj ?_;refine aK ?_;refine ai ?_;refine ab ?_;apply aa rfl;(exact aR rfl rfl rfl (by first | exact IntWalk.i64_in _ (by omega) | rfl));apply aa rfl;(exact ae rfl rfl);refine aj ?_)
         exact aX (g + 1,(M,N,true)) ⟨hgn,hfo',hok'⟩ (by show ng - (g + 1) < ng - g;omega) (Wk.of ⟨rfl,rfl,rfl,rfl,rfl,trivial⟩ ⟨rfl,rfl,rfl,rfl,rfl,rfl,trivial⟩ trivial)
        ·have hnx:bI ng M N c g=(kY ng M N.length c g,N ++ [(N.length:Int)],false,N.length):=by unfold bI;rw [if_neg (by omega),if_neg hfull]
         rw [hnx] at hfo' hok'
         have hsn:(N ++ [(N.length:Int)]).length=N.length + 1:=by simp
         have hD:FC Try.prog 44 [(28,cE N.length N.length false),(25,cz M),(26,bw N)] [o1 (.ptr 28 0),vv (I6 c),vv (I6 g)] [(28,cE (N.length + 1) (N.length + 1) false),(25,cz (kY ng M N.length c g)),(26,bw (N ++ [(N.length:Int)]))] (vv (I6 N.length)) [(0,o1 (.ptr 28 0))]:=
          (pw ng M N N.length N.length c g false hMN rfl (by omega) hok.ok.wf hcN hgn hng).nm [(1010,28),(1000,25),(1001,26)] (by kernel_rfl)
         (refine ab ?_;apply aa rfl;(exact ae rfl rfl);apply aa rfl;(exact ae rfl rfl);apply aa rfl;(exact ae rfl rfl);apply aa rfl;(apply ak 44;exact ct [(0,28)] hD (by as_aux_lemma=>kernel_rfl) rfl rfl ⟨rfl,rfl,rfl,trivial⟩ ⟨⟨_,rfl, .inl rfl⟩,⟨_,rfl, .inl rfl⟩,⟨_,rfl, .inl rfl⟩,trivial⟩ ⟨rfl,rfl,rfl,trivial⟩ rfl rfl);refine aj ?_;refine aK ?_;refine ai ?_;refine ab ?_;apply aa rfl;(exact aR rfl rfl rfl (by first | exact IntWalk.i64_in _ (by omega) | rfl));apply aa rfl;(exact ae rfl rfl);refine aj ?_)
         exact aX (g + 1,(kY ng M N.length c g,N ++ [(N.length:Int)],false)) ⟨hgn,hfo',hok'⟩ (by show ng - (g + 1) < ng - g;omega) (Wk.of ⟨rfl,rfl,rfl,rfl,rfl,trivial⟩ ⟨by dsimp only;rw [hsn];rfl,rfl,rfl,rfl,rfl,rfl,trivial⟩ trivial)
       ·have he:¬bD M c g < 0:=he
        have hnx:bI ng M N c g=(M,N,false,root N (bD M c g).toNat):=by unfold bI;rw [if_pos (by omega)]
        rw [hnx] at hfo' hok'
        (refine aI ?_;refine aK ?_;refine ai ?_;refine ab ?_;apply aa rfl;(exact aR rfl rfl rfl (by first | exact IntWalk.i64_in _ (by omega) | rfl));apply aa rfl;(exact ae rfl rfl);refine aj ?_)
        exact aX (g + 1,(M,N,false)) ⟨hgn,hfo',hok'⟩ (by show ng - (g + 1) < ng - g;omega) (Wk.of ⟨rfl,rfl,rfl,rfl,rfl,trivial⟩ ⟨rfl,rfl,rfl,rfl,rfl,rfl,trivial⟩ trivial)
      ·obtain rfl:b=true:=by simpa using hb
       have hst:cI ng c (M,N,true) g=(M,N,true):=ir (by unfold dX;simp) g
       rw [hst] at hfo' hok'
       (apply aG rfl rfl rfl rfl rfl;apply aG rfl rfl rfl rfl rfl;apply aG rfl rfl rfl rfl rfl;apply aG rfl rfl rfl rfl rfl;apply aG rfl rfl rfl rfl rfl;apply aG rfl rfl rfl rfl rfl;apply aG rfl rfl rfl rfl rfl;apply aG rfl rfl rfl rfl rfl;apply aG rfl rfl rfl rfl rfl;apply aG rfl rfl rfl rfl rfl;apply aG rfl rfl rfl rfl rfl;apply aa rfl;(exact br rfl rfl rfl);refine aj ?_;refine ai ?_)
       refine au rfl (fun e=>by cases e) (fun _=> ?_)
       (refine aI ?_;refine aK ?_;refine ai ?_;refine ab ?_;apply aa rfl;(exact aR rfl rfl rfl (by first | exact IntWalk.i64_in _ (by omega) | rfl));apply aa rfl;(exact ae rfl rfl);refine aj ?_)
       exact aX (g + 1,(M,N,true)) ⟨hgn,hfo',hok'⟩ (by show ng - (g + 1) < ng - g;omega) (Wk.of ⟨rfl,rfl,rfl,rfl,rfl,trivial⟩ ⟨rfl,rfl,rfl,rfl,rfl,rfl,trivial⟩ trivial)
     ·have hlv:¬aC N c=(c:Int):=by simpa using h
      have hst:cI ng c (M,N,b) g=(M,N,b):=ir (by unfold dX;simp [hlv]) g
      rw [hst] at hfo' hok'
      (apply aG rfl rfl rfl rfl rfl;apply aG rfl rfl rfl rfl rfl;apply aG rfl rfl rfl rfl rfl;apply aG rfl rfl rfl rfl rfl;apply aG rfl rfl rfl rfl rfl;apply aa rfl;(exact br rfl rfl rfl);apply aa rfl;(exact ae rfl rfl);apply aG rfl rfl rfl rfl rfl;apply aG rfl rfl rfl rfl rfl;apply aG rfl rfl rfl rfl rfl;apply aG rfl rfl rfl rfl rfl;apply aG rfl rfl rfl rfl rfl;apply aG rfl rfl rfl rfl rfl;apply aG rfl rfl rfl rfl rfl;apply aG rfl rfl rfl rfl rfl;apply aG rfl rfl rfl rfl rfl;apply aG rfl rfl rfl rfl rfl;apply aG rfl rfl rfl rfl rfl;apply aa rfl;(exact br rfl rfl rfl);refine aj ?_;refine ai ?_)
      refine au rfl (fun e=>by cases e) (fun _=> ?_)
      (refine aI ?_;refine aK ?_;refine ai ?_;refine ab ?_;apply aa rfl;(exact aR rfl rfl rfl (by first | exact IntWalk.i64_in _ (by omega) | rfl));apply aa rfl;(exact ae rfl rfl);refine aj ?_)
      exact aX (g + 1,(M,N,b)) ⟨hgn,hfo',hok'⟩ (by show ng - (g + 1) < ng - g;omega) (Wk.of ⟨rfl,rfl,rfl,rfl,rfl,trivial⟩ ⟨rfl,rfl,rfl,rfl,rfl,rfl,trivial⟩ trivial)
    ·obtain rfl:g=ng:=by omega
     have hfg:dm g rels c s0=(M,N,b):=by rw [←hcos,←hfo]
     (refine a5 ?_;refine ax ?_;refine ax ?_;refine aM ?_;refine aK ?_;refine ai ?_;refine ab ?_;apply aa rfl;(exact ae rfl rfl);apply aa rfl;(exact aR rfl rfl rfl (by first | exact IntWalk.i64_in _ (by omega) | rfl));apply aa rfl;(exact ag rfl rfl);refine aj ?_)
     exact aX (c + 1,(M,N,b)) ⟨by show outer g rels (2001 - (c + 1)) (c + 1) (M,N,b)=X;rw [show 2001 - (c + 1)=2000 - c by omega,←hfg];exact houts,by show c + 1≤N.length;omega,⟨hok.ok.le (by omega),hok.full⟩⟩ (by show 2001 - (c + 1) < 2001 - c;omega) (Wk.of ⟨rfl,rfl,rfl,trivial⟩ ⟨rfl,rfl,rfl,rfl,rfl,rfl,trivial⟩ trivial)
  ·have hXs:(M,N,b)=X:=by
    rw [←hout]
    cases hk:2001 - c with
    | zero=>omega
    | succ f=>
     rw [outer,if_neg]
     rintro ⟨h1,h2⟩
     have h1:c < N.length:=h1
     have h2:b=false:=h2
     rw [decide_eq_true (show (c:Int) < N.length by omega),h2] at hc
     cases hc
   clear hout hc hS hcl
   (refine a5 ?_;refine ax ?_;refine ax ?_;refine aM ?_;refine ai ?_;refine ah ?_;refine ah ?_;refine ab ?_;apply aa rfl;(exact ae rfl rfl);apply aa rfl;(exact bh rfl rfl rfl);apply aa rfl;(exact aE (d:=2) rfl rfl rfl (by as_aux_lemma=>kernel_rfl));apply aa rfl;(exact aQ rfl (by as_aux_lemma=>kernel_rfl) rfl rfl rfl rfl);refine aj ?_;refine ai ?_)
   refine au rfl (fun hb=> ?_) (fun hb=> ?_)
   ·subst hb
    subst hXs
    (refine ah ?_;refine ab ?_;apply aa rfl;(exact ag rfl rfl);apply aa rfl;(exact ag rfl rfl);refine aj ?_;refine ai ?_;refine aW ?_;refine aT ?_)
    exact cH (.inl rfl) rfl (.tmp rfl) (.tmp rfl) trivial trivial
   ·subst hb
    have hsame:cB ng rels words=X:=by
     rcases mx ng rels words with h | ⟨_,h⟩
     ·exact h.trans hX
     ·rw [hX,←hXs] at h;cases h
    have hF:=ja hr hw (show (cB ng rels words).2.2=false by rw [hsame,←hXs])
    rw [hsame] at hF
    subst hXs
    clear hsame
    dsimp only at hF
    have hn0:=hF.pos
    have hts:=gh hF
    clear hX
    (refine aI ?_;refine ai ?_;refine ah ?_;refine ab ?_;apply aa rfl;(exact bM (E:=2) rfl (by as_aux_lemma=>kernel_rfl) rfl);apply aa rfl;(exact ag rfl rfl);refine aj ?_;refine ai ?_;refine ah ?_;refine ab ?_)
    refine run_makeMap (k:=2) (e:=2) rfl rfl rfl Try.underlying2 (by as_aux_lemma=>kernel_rfl) fun b wB ωB hMB=> ?_
    refine ox rfl (.inr rfl) rfl Try.underlying2 Try.underlying2 (by as_aux_lemma=>kernel_rfl) hMB rfl rfl rfl (by decide) (by decide) (by omega) fun wB ωB hMB=> ?_
    (apply aa rfl;(exact ae rfl rfl);apply aa rfl;(exact ag rfl rfl);refine aj ?_;refine ai ?_;refine ah ?_;refine ab ?_;apply aa rfl;(exact aE (d:=0) rfl rfl rfl (by as_aux_lemma=>kernel_rfl));apply aa rfl;(exact aQ rfl (by as_aux_lemma=>kernel_rfl) rfl rfl rfl rfl);apply aa rfl;(exact xk (E:=24) (F:=2) rfl (by as_aux_lemma=>kernel_rfl) (by as_aux_lemma=>kernel_rfl) (by as_aux_lemma=>kernel_rfl) rfl rfl rfl rfl (by omega));apply aa rfl;(exact ag rfl rfl);refine aj ?_;refine ai ?_;refine ah ?_;refine ah ?_;refine ab ?_;apply aa rfl;(exact ag rfl rfl);refine aj ?_;refine ai ?_;refine aB ?_)
    have hf0:=yz hn0
    have htz:=wR (ng:=ng) (im:=M) (less:=N) (s:=dv N.length)
    refine pC (fun q:Nat×iE=>St.of [(2,o1 (.ptr 2 0)),(6,o1 (.ptr 28 0)),(13,o1 (.sl 126 0 q.2.1.length)),(14,vv (.map (some b))),(15,o1 (.sl 131 0 ng)),(16,vv (I6 q.1))] [(28,cE N.length N.length false),(25,cz M),(26,bw N),(2,pE ng R),(126,bw q.2.1),(131,cz (fy ng M N q.2 q.1 0))])
     (fun q wB ωB=>q.1≤q.2.1.length∧nI N.length N q.2∧gH ng M N q.2 q.1 0∧cM ng M N (N.length + 1 - q.1) q.1 q.2=bS ng M N∧MB Try.prog 2 2 w0 ω0.own b (fN q.2.2) q.2.1.length wB ωB) (fun q=>N.length + 1 - q.1) (0,dv N.length) ⟨Nat.zero_le _,hts,gH.zero,rfl,by rw [←hf0];exact hMB⟩ (Wk.of ⟨rfl,rfl,rfl,rfl,rfl,rfl,trivial⟩ ⟨rfl,rfl,rfl,rfl,rfl,by dsimp only;rw [htz];rfl,trivial⟩ trivial) ?_
    clear hMB hf0 htz
    clear wB ωB
    rintro ⟨i,O,T⟩ wB ωB ⟨hi,htok,hseen,hnum,hMB⟩
    dsimp only at hi hnum hMB ⊢
    have hOl:O.length≤N.length:=htok.le
    (refine ah ?_;refine ah ?_;refine ab ?_;apply aa rfl;(exact ae rfl rfl);apply aa rfl;(exact ae rfl rfl);apply aa rfl;(exact a8 rfl rfl rfl (by as_aux_lemma=>kernel_rfl));apply aa rfl;(exact aD rfl rfl rfl rfl);refine aj ?_;refine ai ?_)
    refine bF rfl (fun hlt=> ?_) (fun hlt=> ?_)
    ·have hlt':i < O.length:=by omega
     have hnum':cM ng M N (N.length - i) (i + 1) (kt ng M N i (O,T))=bS ng M N:=by
      rw [←hnum,show N.length + 1 - i=(N.length - i) + 1 by omega]
      exact (lS hlt').symm
     obtain ⟨s0,hs0⟩:∃s0:iE,s0=(O,T):=⟨_,rfl⟩
     obtain ⟨d,hd1,hd2,hd3, -⟩:=htok.live i hlt'
     dsimp only at hd1
     have hrow:∀n,n≤ng→nI N.length N ((List.range n).foldl (cQ M N i) s0)∧gG s0 ((List.range n).foldl (cQ M N i) s0):=fun n hn=>
      have:=eN hF (i:=i) (s:=s0) (by rw [hs0];exact htok) (by rw [hs0];exact hlt') n hn
      ⟨this.1,this.2.1⟩
     have hfin:cM ng M N (N.length - i) (i + 1) ((List.range ng).foldl (cQ M N i) s0)=bS ng M N:=by rw [hs0];exact hnum'
     have hO0:s0.1.length=O.length:=by rw [hs0]
     have hd0:aC s0.1 i=(d:Int):=by rw [hs0];exact hd1
     (refine aI ?_;refine ai ?_;refine ah ?_;refine aB ?_;refine ah ?_;refine ab ?_;apply aa rfl;(exact aE (d:=0) rfl rfl rfl (by as_aux_lemma=>kernel_rfl));apply aa rfl;(exact aQ rfl (by as_aux_lemma=>kernel_rfl) rfl rfl rfl rfl);apply aa rfl;(exact ae rfl rfl);refine aj ?_;refine ai ?_;refine aB ?_)
     refine pC (fun q:Nat×iE=>St.of [(2,o1 (.ptr 2 0)),(6,o1 (.ptr 28 0)),(13,o1 (.sl 126 0 q.2.1.length)),(14,vv (.map (some b))),(15,o1 (.sl 131 0 ng)),(16,vv (I6 i)),(139,vv (I6 ng)),(140,vv (I6 q.1))] [(28,cE N.length N.length false),(25,cz M),(26,bw N),(2,pE ng R),(126,bw q.2.1),(131,cz (fy ng M N q.2 i q.1))])
      (fun q wB ωB=>q.1≤ng∧(List.range q.1).foldl (cQ M N i) s0=q.2∧gH ng M N q.2 i q.1∧MB Try.prog 2 2 w0 ω0.own b (fN q.2.2) q.2.1.length wB ωB) (fun q=>ng - q.1) (0,(O,T)) ⟨Nat.zero_le _,hs0,hseen,hMB⟩ (Wk.of ⟨rfl,rfl,rfl,rfl,rfl,rfl,rfl,rfl,trivial⟩ ⟨rfl,rfl,rfl,rfl,rfl,rfl,trivial⟩ trivial) ?_
     clear hnum hnum' htok hs0 hd1 hMB hseen
     generalize O.length=on at *
     clear wB ωB
     rintro ⟨g,O,T⟩ wB ωB ⟨hg,hfo,hseen,hMB⟩
     dsimp only at hg hfo hMB ⊢
     obtain ⟨tok,grw⟩:=hrow g hg
     rw [hfo] at tok grw
     have hiO:i < O.length:=Nat.lt_of_lt_of_le (by omega) grw.len
     have hOl':O.length≤N.length:=tok.le
     have hTl:T.length=N.length:=tok.len
     have hdO:aC O i=(d:Int):=(grw.pre i (by omega)).trans hd0
     have hget:(aJ O)[i]? =some (I6 (d:Int)):=by rw [al hiO,hdO]
     (refine ah ?_;refine ab ?_;apply aa rfl;(exact aD rfl rfl rfl rfl);refine aj ?_;refine ai ?_;refine ah ?_)
     refine bF rfl (fun h2=> ?_) (fun h2=> ?_)
     ·have hgn:g < ng:=by omega
      obtain ⟨e,he1,he2,_⟩:=hF.image hd2 hd3 hgn
      have hI:FC Try.prog 45 [(28,⟨false,65,3, .flat [.sl 25 0 N.length, .sl 26 0 N.length, .val (.bool false)]⟩),(25,xY M),(26,pG N)] [o1 (.ptr 28 0),vv (I6 d),vv (I6 g)] [] (vv (I6 e)) []:=by
       have:=(kF M N N.length N.length d g false hMN rfl hF.wf.down (by omega) (by rw [hF.wf.row d (by omega)];exact hgn) (hF.wf.bD d g (by omega) hgn)).nm [(1010,28),(1000,25),(1001,26)] (by kernel_rfl)
       rw [he1] at this
       exact this
      have hSz:=sY 126 O.length
      obtain ⟨V,hV⟩:∃V:iE,visit (O,T) e=V:=⟨_,rfl⟩
      have hst:(List.range (g + 1)).foldl (cQ M N i) s0=V:=by
       rw [List.range_succ,List.foldl_append,hfo,←hV]
       show visit (O,T) (image M N (aC O i).toNat g).toNat=_
       rw [hdO,Int.toNat_natCast,he1,Int.toNat_natCast]
      have hseen':gH ng M N V i (g + 1):=by rw [←hV];exact hseen.visit tok hiO hdO he1 he2
      have hgr:fy ng M N (O,T) i g=fy ng M N V i g:=by rw [←hV];exact xw (ix _ _) hseen
      have htc:gI M N V g i=aC V.2 e:=by rw [←hV];exact oz hiO hdO he1
      have hset:=yS (im:=M) (less:=N) (s:=V) (i:=i) hgn
      rw [htc] at hset
      have hfs:=AM (M:=T) (e:=e) (by omega)
      have hwe:(Lit.int .i64 (e:Int)).wf=true:=sD (by omega) (by omega)
      (refine aI ?_;refine ai ?_;refine ah ?_;refine aB ?_;refine ah ?_;refine ab ?_;apply aa rfl;(exact ae rfl rfl);apply aa rfl;(exact ag rfl rfl);refine aj ?_;refine ai ?_;refine ah ?_;refine ab ?_;apply aa rfl;(exact ae rfl rfl);apply aa rfl;(exact ae rfl rfl);apply aa rfl;(exact ae rfl rfl);apply aa rfl;(exact aU rfl rfl rfl rfl rfl (by as_aux_lemma=>kernel_rfl) (by first | rfl | exact (Int.toNat_of_nonneg (by omega)).symm) (by first | assumption | omega | (simp;omega)) (by first | exact Nat.le_refl _ | exact Nat.le_of_eq (an _).symm | exact Nat.le_of_eq (aw _).symm | (refine Nat.le_trans ?_ (Nat.le_of_eq (an _).symm);(first | omega | (simp;done) | (simp;omega))) | (refine Nat.le_trans ?_ (Nat.le_of_eq (aw _).symm);(first | omega | (simp;done) | (simp;omega)))));apply aa rfl;(exact a7 rfl (by as_aux_lemma=>kernel_rfl) rfl rfl rfl (by first | assumption | exact al (by assumption) | exact ar (by assumption) | exact al (by omega) | exact ar (by omega) | rfl));apply aa rfl;(exact ae rfl rfl);apply aa rfl;(apply ak 45;exact aq hI (by as_aux_lemma=>kernel_rfl) rfl rfl ⟨rfl,rfl,rfl,trivial⟩ ⟨⟨_,rfl, .inr rfl⟩,⟨_,rfl, .inr rfl⟩,⟨_,rfl, .inr rfl⟩,trivial⟩ rfl rfl);apply aa rfl;(exact ag rfl rfl);refine aj ?_;refine ai ?_;refine ah ?_;refine ab ?_;apply aa rfl;(exact ae rfl rfl);apply aa rfl;(exact ae rfl rfl))
      refine uB (t:=153) rfl rfl rfl rfl Try.underlying2 Try.underlying2 (by as_aux_lemma=>kernel_rfl) (by as_aux_lemma=>kernel_rfl) hMB rfl rfl hwe ?_
      (apply aa rfl;(exact ae rfl rfl);apply aa rfl;(exact aZ rfl rfl rfl);apply aa rfl;(exact aZ rfl rfl rfl);apply aa rfl;(exact ag rfl rfl);apply aa rfl;(exact ag rfl rfl);refine aj ?_;refine ai ?_;refine ah ?_;refine ah ?_;refine ab ?_;apply aa rfl;(exact ae rfl rfl);apply aa rfl;(exact cV rfl rfl);refine aj ?_;refine ai ?_)
      refine vn (St.of [(2,o1 (.ptr 2 0)),(6,o1 (.ptr 28 0)),(13,o1 (.sl 126 0 V.1.length)),(14,vv (.map (some b))),(15,o1 (.sl 131 0 ng)),(16,vv (I6 i)),(17,vv (I6 g)),(19,vv (I6 (aC V.2 e))),(139,vv (I6 ng)),(140,vv (I6 g))] [(28,cE N.length N.length false),(25,cz M),(26,bw N),(2,pE ng R),(126,bw V.1),(131,cz (fy ng M N V i g))])
       (fun wB ωB=>MB Try.prog 2 2 w0 ω0.own b (fN V.2) V.1.length wB ωB) rfl (fun hc=> ?_) (fun hc=> ?_) ?_
      ·have hneg:aC T e < 0:=by
        rw [hfs.1] at hc;simp at hc;omega
       obtain rfl:V=(O ++ [(e:Int)],T.set e (O.length:Int)):=by rw [←hV];exact if_pos hneg
       have hnum0:aC (T.set e (O.length:Int)) e=(O.length:Int):=by rw [ck,if_pos ⟨rfl,by omega⟩]
       have hfset:=zJ (M:=T) (e:=e) (v:=(O.length:Int)) (by omega) (by omega)
       (refine ah ?_;refine ab ?_;apply aa rfl;(exact ae rfl rfl);apply aa rfl;(apply ak 22;exact aq hSz (by as_aux_lemma=>kernel_rfl) rfl rfl ⟨rfl,trivial⟩ trivial rfl rfl);apply aa rfl;(exact ag rfl rfl);refine aj ?_;refine ai ?_;refine ah ?_;refine ab ?_;apply aa rfl;(exact ae rfl rfl);apply aa rfl;(exact ae rfl rfl);apply aa rfl;(exact ae rfl rfl))
       refine ox rfl (.inl rfl) rfl Try.underlying2 Try.underlying2 (by as_aux_lemma=>kernel_rfl) hMB rfl rfl rfl hwe (sD (by omega) (by omega)) (by omega) fun wB ωB hMB=> ?_
       (refine aj ?_;refine ai ?_;refine ab ?_;apply aa rfl;(exact ae rfl rfl);apply aa rfl;(exact ae rfl rfl);apply aa rfl;(exact bM (E:=2) rfl (by as_aux_lemma=>kernel_rfl) rfl);apply aa rfl;(exact bg rfl (by as_aux_lemma=>kernel_rfl) rfl rfl rfl (by first | rfl | assumption | (simp;done)) rfl rfl (by omega));apply aa rfl;(exact ag rfl rfl);refine aj ?_)
       exact qk (by dsimp only;rw [←hfset,List.length_append];exact hMB) (Wk.of ⟨rfl,rfl,by simp;rfl,rfl,rfl,rfl,rfl,by rw [hnum0];rfl,rfl,rfl,trivial⟩ ⟨rfl,rfl,rfl,rfl,rfl,by rw [←hgr];rfl,trivial⟩ trivial)
      ·have hneg:0≤aC T e:=by
        rw [hfs.1] at hc;simpa using hc
       obtain rfl:V=(O,T):=by rw [←hV];exact if_neg (by show ¬aC T e < 0;omega)
       (refine aI ?_)
       exact qk hMB (Wk.of ⟨rfl,rfl,rfl,rfl,rfl,rfl,rfl,by rw [←hfs.2 hneg];rfl,rfl,rfl,trivial⟩ ⟨rfl,rfl,rfl,rfl,rfl,rfl,trivial⟩ trivial)
      clear hMB
      clear wB ωB
      intro wB ωB hMB
      have hrw0:bu (fy ng M N V i g) g=(List.range i).map (gI M N V g):=zt hgn
      have htl:(fy ng M N V i g).length=ng:=zr
      obtain ⟨row,hrow1⟩:∃row,(List.range i).map (gI M N V g)=row:=⟨_,rfl⟩
      have hrl1:row.length=i:=by rw [←hrow1];simp
      rw [hrow1] at hrw0 hset
      have hset2:(bK (fy ng M N V i g)).set g (aJ (row ++ [aC V.2 e]))=bK (fy ng M N V i (g + 1)):=by rw [mR,hset]
      have hrg:(bK (fy ng M N V i g))[g]? =some (aJ row):=by rw [ar (by omega),hrw0]
      (refine ai ?_;refine ab ?_;apply aa rfl;(exact ae rfl rfl);apply aa rfl;(exact ae rfl rfl);apply aa rfl;(exact ae rfl rfl);apply aa rfl;(exact ae rfl rfl);apply aa rfl;(exact aU rfl rfl rfl rfl rfl (by as_aux_lemma=>kernel_rfl) (by first | rfl | exact (Int.toNat_of_nonneg (by omega)).symm) (by first | assumption | omega | (simp;omega)) (by first | exact Nat.le_refl _ | exact Nat.le_of_eq (an _).symm | exact Nat.le_of_eq (aw _).symm | (refine Nat.le_trans ?_ (Nat.le_of_eq (an _).symm);(first | omega | (simp;done) | (simp;omega))) | (refine Nat.le_trans ?_ (Nat.le_of_eq (aw _).symm);(first | omega | (simp;done) | (simp;omega)))));apply aa rfl;(exact bo rfl (by as_aux_lemma=>kernel_rfl) rfl rfl rfl (by first | assumption | exact al (by assumption) | exact ar (by assumption) | exact al (by omega) | exact ar (by omega) | rfl) (by first | exact an _ | assumption | rfl));apply aa rfl;(exact ae rfl rfl);apply aa rfl;(exact bM (E:=2) rfl (by as_aux_lemma=>kernel_rfl) rfl))
      refine vr (bC (n:=131) (z:=172) (s:=172) rfl rfl hrg (an row) rfl) ?_
      (apply aa rfl;(exact bg rfl (by as_aux_lemma=>kernel_rfl) rfl rfl rfl (by first | rfl | assumption | (simp;done)) rfl rfl (by omega));apply aa rfl;(exact aU rfl rfl rfl rfl rfl (by as_aux_lemma=>kernel_rfl) (by first | rfl | exact (Int.toNat_of_nonneg (by omega)).symm) (by first | assumption | omega | (simp;omega)) (by first | exact Nat.le_refl _ | exact Nat.le_of_eq (an _).symm | exact Nat.le_of_eq (aw _).symm | (refine Nat.le_trans ?_ (Nat.le_of_eq (an _).symm);(first | omega | (simp;done) | (simp;omega))) | (refine Nat.le_trans ?_ (Nat.le_of_eq (aw _).symm);(first | omega | (simp;done) | (simp;omega)))));apply aa rfl;(exact bn (n:=131) (z:=172) (i:=g) rfl rfl (by simp) rfl rfl (by rw [an];simp) rfl (by rw [aw];omega) (by as_aux_lemma=>kernel_rfl));refine aj ?_;refine aK ?_;refine ai ?_;refine ab ?_;apply aa rfl;(exact aR rfl rfl rfl (by first | exact IntWalk.i64_in _ (by omega) | rfl));apply aa rfl;(exact ae rfl rfl);refine aj ?_)
      exact pf (g + 1,V) ⟨hgn,hst,hseen',hMB⟩ (by show ng - (g + 1) < ng - g;omega) (Wk.of ⟨rfl,rfl,rfl,rfl,rfl,rfl,rfl,rfl,trivial⟩ ⟨rfl,rfl,rfl,rfl,rfl,congrArg (fun l=>some (⟨true,24,1, .rows 2 l []⟩:Ch)) hset2,trivial⟩ trivial)
     ·obtain rfl:g=ng:=by omega
      (refine a5 ?_;refine ax ?_;refine ax ?_;refine aM ?_;refine aK ?_;refine ai ?_;refine ab ?_;apply aa rfl;(exact ae rfl rfl);apply aa rfl;(exact aR rfl rfl rfl (by first | exact IntWalk.i64_in _ (by omega) | rfl));apply aa rfl;(exact ag rfl rfl);refine aj ?_)
      exact pf (i + 1,(O,T)) ⟨hiO,tok,hseen.next,by rw [←hfin,hfo];show cM _ _ _ (N.length + 1 - (i + 1)) _ _=_;rw [show N.length + 1 - (i + 1)=N.length - i by omega],hMB⟩ (by show N.length + 1 - (i + 1) < N.length + 1 - i;omega) (Wk.of ⟨rfl,rfl,rfl,rfl,rfl,rfl,trivial⟩ ⟨rfl,rfl,rfl,rfl,rfl,by dsimp only;rw [←xT];rfl,trivial⟩ trivial)
    ·have hio:i=O.length:=by omega
     have hOM:bS ng M N=(O,T):=by
      rw [←hnum,show N.length + 1 - i=(N.length - i) + 1 by omega,cM,if_neg (by show ¬i < O.length;omega)]
     have htd:=xi hOM
     subst hio
     rw [htd]
     (refine a5 ?_;refine ax ?_;refine ax ?_;refine aM ?_;refine ai ?_;refine ah ?_;refine ab ?_;apply aa rfl;(exact ae rfl rfl);apply aa rfl;(exact ag rfl rfl);apply aa rfl;(exact ag rfl rfl);refine aj ?_;refine ai ?_;refine aW ?_)
     refine zm hMB.fr ?_
     exact cH (.inl rfl) rfl (.tmp rfl) (.tmp rfl) ⟨rfl,trivial⟩ trivial
end Go.Proofs.Ytekbhbcgoadciaa
namespace Go.Proofs.Ytekbhbcgoadciaa
open Go.RowKit
def cK (hi:Int) (zs:List Int):Bool:=decide (zs.length≤64) && zs.all (fun z=>jF z 0 hi)
def il (d:dy):Bool:=jF d.1 1 5 && decide (d.2.length≤24) && d.2.all (fun zs=>cK (d.1 - 1) zs && decide (1≤zs.length))
set_option maxHeartbeats 400000 in
theorem iz (g:Int) (ao:Option Addr) (n c:Nat) (zs:List Int) (w:World) (h:cY w ao n zs) (hg0:0≤g) (hg1:g≤1000):
  Calls Try.prog 68 #[.int .i64 g, .slice ao n c] w fun e w'=>e= .returned (.bool (cK (g - 1) zs))∧w'=w:=by
 have hn:=h.2.1
 have hl:=h.1
 have HL:=Lib.hid hl
 clear hl
 go_enter Try.func68,Try.ntmps68
 go_wp2
 go_loop [5] (fun i=>∃k:Nat,k≤n∧i= .int .i64 k∧(zs.take k).all (fun z=>jF z 0 (g - 1))=true) (fun i=>n - (intOf i).toNat)
 case atStart=>exact ⟨0,Nat.zero_le _,rfl,by simp⟩
 case round=>
  obtain ⟨k,hk,rfl,hpre⟩:=hrel
  have HP:=Lib.hid hpre
  clear hpre
  by_cases hlt:k < n
  ·obtain ⟨b,off,rfl,hc⟩:=h.at_ hlt
   have HH:=Lib.hid h
   clear h
   cases hp:jF (aC zs k) 0 (g - 1) with
   | true=>
    have HX:=Lib.hid hp
    clear hp
    go_wp2_with (go_at_call 33;refine (fm _ _ _ _).mono ?_;rintro e w' ⟨rfl,rfl⟩;rw [HX.out])
    go_round
    case rel=>exact ⟨k + 1,by omega,by go_num,by rw [iR (by rw [HL.out];exact hlt),HP.out,HX.out];rfl⟩
    case measure=>simp [intOf];omega
   | false=>
    have HX:=Lib.hid hp
    clear hp
    go_wp2_with (go_at_call 33;refine (fm _ _ _ _).mono ?_;rintro e w' ⟨rfl,rfl⟩;rw [HX.out])
    go_ret
    exact ⟨bR (by unfold cK;rw [lN (by rw [HL.out];exact hlt) HX.out];simp),rfl⟩
  ·obtain rfl:k=n:=by omega
   go_wp2
   go_ret
   exact ⟨bR (by have:=HP.out;rw [List.take_of_length_le (Nat.le_of_eq HL.out)] at this;unfold cK;rw [this,HL.out];simp;omega),rfl⟩
theorem p9 {zss:List (List Int)} {p:List Int→Bool} {k:Nat} (h:k < zss.length):(zss.take (k + 1)).all p=((zss.take k).all p && p (bu zss k)):=by
 rw [gO h,List.all_append];simp
theorem p7 {zss:List (List Int)} {p:List Int→Bool} {k:Nat} (h:k < zss.length):(zss.take (k + 1)).any p=((zss.take k).any p || p (bu zss k)):=by
 rw [gO h,List.any_append];simp
theorem ke {zss:List (List Int)} {p:List Int→Bool} {k:Nat} (h:k < zss.length) (hp:p (bu zss k)=false):zss.all p=false:=by
 rw [List.all_eq_false];exact ⟨_,fD h,by simp [hp]⟩
def eh (g:Int) (least:Nat) (zss:List (List Int)):Bool:=decide (zss.length≤24) && zss.all (fun zs=>cK (g - 1) zs && decide (least≤zs.length))
set_option maxHeartbeats 800000 in
theorem gC (g:Int) (least:Nat) (ao:Option Addr) (n c:Nat) (zss:List (List Int)) (w:World) (h:fx w ao n zss) (hg0:0≤g) (hg1:g≤1000):
  Calls Try.prog 47 #[.int .i64 g, .slice ao n c, .int .i64 (least:Int)] w fun e w'=>e= .returned (.bool (eh g least zss))∧w'=w:=by
 have hn:=h.2.1
 have hl:=h.1
 have HL:=Lib.hid hl
 clear hl
 go_enter Try.func47,Try.ntmps47
 go_wp2
 go_loop [7] (fun i=>∃k:Nat,k≤n∧i= .int .i64 k∧(zss.take k).all (fun zs=>cK (g - 1) zs && decide (least≤zs.length))=true) (fun i=>n - (intOf i).toNat)
 case atStart=>exact ⟨0,Nat.zero_le _,rfl,by simp⟩
 case round=>
  obtain ⟨k,hk,rfl,hpre⟩:=hrel
  have HP:=Lib.hid hpre
  clear hpre
  by_cases hlt:k < n
  ·obtain ⟨b,off,a1,n1,c1,rfl,hc,hin⟩:=h.at_ hlt
   have hn1:=hin.2.1
   have HN:=Lib.hid hin.1
   have HH:=Lib.hid h
   clear h
   cases hp:cK (g - 1) (bu zss k) with
   | true=>
    have HX:=Lib.hid hp
    clear hp
    by_cases hz:least≤n1
    ·have hd:decide ((n1:Int) < least)=false:=by simp;omega
     go_wp2_with (go_at_call 68;refine (iz g a1 n1 c1 _ _ hin hg0 hg1).mono ?_;rintro e w' ⟨rfl,rfl⟩;rw [HX.out])
     go_round
     case rel=>exact ⟨k + 1,by omega,by go_num,by rw [p9 (by rw [HL.out];exact hlt),HP.out,HX.out,HN.out];simp [hz]⟩
     case measure=>simp [intOf];omega
    ·have hd:decide ((n1:Int) < least)=true:=by simp;omega
     go_wp2_with (go_at_call 68;refine (iz g a1 n1 c1 _ _ hin hg0 hg1).mono ?_;rintro e w' ⟨rfl,rfl⟩;rw [HX.out])
     go_ret
     exact ⟨bR (by unfold eh;rw [ke (k:=k) (by rw [HL.out];exact hlt) (by rw [HX.out,HN.out];simp;omega)];simp),rfl⟩
   | false=>
    have HX:=Lib.hid hp
    clear hp
    go_wp2_with (go_at_call 68;refine (iz g a1 n1 c1 _ _ hin hg0 hg1).mono ?_;rintro e w' ⟨rfl,rfl⟩;rw [HX.out])
    go_ret
    exact ⟨bR (by unfold eh;rw [ke (k:=k) (by rw [HL.out];exact hlt) (by rw [HX.out];rfl)];simp),rfl⟩
  ·obtain rfl:k=n:=by omega
   go_wp2
   go_ret
   exact ⟨bR (by have:=HP.out;rw [List.take_of_length_le (Nat.le_of_eq HL.out)] at this;unfold eh;rw [this,HL.out];simp;omega),rfl⟩
theorem kX {d:dy} (h:jF d.1 1 5=false):il d=false:=by unfold il;rw [h];rfl
theorem mA {d:dy} (h:jF d.1 1 5=true):il d=eh d.1 1 d.2:=by unfold il eh;rw [h];simp
set_option maxHeartbeats 400000 in
theorem me {v:Value} {d:dy} (w:World) (h:zc w v d):
  Calls Try.prog 46 #[v] w fun e w'=>e= .returned (.bool (il d))∧Below w.heap.size w w':=by
 obtain ⟨ao,n,c,rfl,hi⟩:=h
 have hb:=below_alloc1 w (.cells #[.int .i64 d.1, .slice ao n c] 32)
 cases hg:jF d.1 1 5 with
 | true=>
  have HX:=Lib.hid hg
  have hg':=eX.1 hg
  clear hg
  go_enter Try.func46,Try.ntmps46
  go_wp2_with (go_at_call 33;refine (fm _ _ _ _).mono ?_;rintro e w' ⟨rfl,rfl⟩;rw [HX.out])
  refine (gC d.1 1 ao n c d.2 _ (hi.below hb) (by omega) (by omega)).mono ?_
  rintro e w1 ⟨rfl,rfl⟩
  go_wp2
  go_ret
  exact ⟨bR (mA HX.out).symm,hb⟩
 | false=>
  have HX:=Lib.hid hg
  clear hg
  go_enter Try.func46,Try.ntmps46
  go_wp2_with (go_at_call 33;refine (fm _ _ _ _).mono ?_;rintro e w' ⟨rfl,rfl⟩;rw [HX.out])
  go_ret
  exact ⟨bR (kX HX.out).symm,hb⟩
end Go.Proofs.Ytekbhbcgoadciaa
namespace Go.Proofs.Ytekbhbcgoadciaa
open Go.RowKit
theorem nz (z lo hi:Int) (b1 b2:Nat) (w:World) (h1:w.cell? ⟨b1,0,none⟩=some (.int .i64 lo)) (h2:w.cell? ⟨b2,0,none⟩=some (.int .i64 hi)):
  Calls Try.prog 81 #[.int .i64 z, .pointer (some ⟨b1,0,none⟩), .pointer (some ⟨b2,0,none⟩)] w fun e w'=>e= .returned (.bool (!jF z lo hi))∧w'=w:=by
 go_enter Try.func81,Try.ntmps81
 go_wp2_with (go_at_call 29;refine (fZ _ _ _ _).mono ?_;rintro e w' ⟨rfl,rfl⟩)
 go_ret
 exact ⟨rfl,rfl⟩
set_option maxHeartbeats 400000 in
set_option maxRecDepth 100000 in
theorem pU (ao:Option Addr) (n c:Nat) (zs:List Int) (lo hi:Int) (w:World) (h:cY w ao n zs):
  Calls Try.prog 64 #[.slice ao n c, .int .i64 lo, .int .i64 hi] w fun e w'=>e= .returned (.bool (zs.all (fun z=>jF z lo hi)))∧Below w.heap.size w w':=by
 have hmf:∀(fn:Fn) (first cap:Array Value) (w:World),(Instr.makeFunc fn first cap).run Try.prog w= .ok (.func fn first cap) w:=fun _ _ _ _=>rfl
 have hany:zs.any (fun z=> !jF z lo hi)= !(zs.all (fun z=>jF z lo hi)):=by rw [List.any_eq_not_all_not];simp
 have HA:=Lib.hid hany
 clear hany
 have hb:=below_alloc2 w (.cells #[.int .i64 lo] 2) (.cells #[.int .i64 hi] 2)
 have k1:gF ((w.alloc (.cells #[.int .i64 lo] 2)).alloc (.cells #[.int .i64 hi] 2)) w.heap.size 2 #[.int .i64 lo]:=(fU rfl).alloc _
 have k2:gF ((w.alloc (.cells #[.int .i64 lo] 2)).alloc (.cells #[.int .i64 hi] 2)) (w.heap.size + 1) 2 #[.int .i64 hi]:=fU (by simp)
 go_enter Try.func64,Try.ntmps64
 go_wp2_with fail
 refine (jr 81 #[.pointer (some ⟨w.heap.size,0,none⟩), .pointer (some ⟨w.heap.size + 1,0,none⟩)] (fun z=> !jF z lo hi) ao n c zs _ (h.below hb) (fun _ _=>by rfl)
  (fun j hj w' hb'=>(nz _ lo hi w.heap.size (w.heap.size + 1) w' ((k1.gA hb').cell 0) ((k2.gA hb').cell 0)).mono ?_)).mono ?_
 ·rintro e w1 ⟨rfl,rfl⟩;exact ⟨rfl,Below.refl _ _⟩
 rintro e w1 ⟨rfl,hb1⟩
 go_wp2
 go_ret
 exact ⟨bR (by rw [HA.out];simp),hb.trans (hb1.mono hb.size)⟩
set_option maxHeartbeats 400000 in
theorem kQ (g:Int) (ao:Option Addr) (n c:Nat) (zs:List Int) (w:World) (h:cY w ao n zs) (hg0:0≤g) (hg1:g≤1000):
  Calls Try.prog 41 #[.slice ao n c, .int .i64 g] w fun e w'=>e= .returned (.bool (cK (g - 1) zs))∧Below w.heap.size w w':=by
 have HL:=Lib.hid h.1
 have hn:=h.2.1
 by_cases hs:n≤64
 ·have h1:decide ((n:Int)≤64)=true:=by simp;omega
  go_enter Try.func41,Try.ntmps41
  go_wp2_with fail
  refine (pU ao n c zs _ _ _ h).mono ?_
  rintro e w1 ⟨rfl,hb1⟩
  go_wp2
  go_ret
  exact ⟨bR (by unfold cK;rw [HL.out];simp [hs]),hb1⟩
 ·have h1:decide ((n:Int)≤64)=false:=by simp;omega
  go_enter Try.func41,Try.ntmps41
  go_wp2
  go_ret
  exact ⟨bR (by unfold cK;rw [HL.out];simp;intro;omega),Below.refl _ _⟩
def pF (p:List Int→Bool) (zss:List (List Int)):Int:=match zss.findIdx? p with | some i=>i | none=> -1
theorem oU {p:List Int→Bool} {zss:List (List Int)} (h:zss.any p=false):pF p zss= -1:=by
 have:zss.findIdx? p=none:=by rw [List.findIdx?_eq_none_iff];intro x hx;have:=(List.any_eq_false.1 h) x hx;simpa using this
 simp [pF,this]
theorem uD {p:List Int→Bool} {zss:List (List Int)} {k:Nat} (hk:k < zss.length) (hn:(zss.take k).any p=false) (hp:p (bu zss k)=true):pF p zss=k:=by
 have:zss.findIdx? p=some k:=by
  rw [List.findIdx?_eq_some_iff_getElem]
  refine ⟨hk,by rw [←lV hk];exact hp,fun j hj=> ?_⟩
  have hx:zss[j]'(by omega)∈zss.take k:=by rw [List.mem_take_iff_getElem];exact ⟨j,by omega,rfl⟩
  have:=(List.any_eq_false.1 hn) _ hx
  simpa using this
 simp [pF,this]
theorem wA (p:List Int→Bool) (zss:List (List Int)):decide (0≤pF p zss)=zss.any p:=by
 cases h:zss.any p with
 | false=>rw [oU h];rfl
 | true=>
  rw [decide_eq_true_iff]
  unfold pF
  cases h2:zss.findIdx? p with
  | some i=>exact Int.natCast_nonneg i
  | none=>
   rw [List.findIdx?_eq_none_iff] at h2
   obtain ⟨x,hx,hp⟩:=List.any_eq_true.1 h
   have:=h2 x hx
   simp [hp] at this
set_option maxHeartbeats 400000 in
theorem nS (fn:Nat) (cap:Array Value) (p:List Int→Bool) (ao:Option Addr) (n c:Nat) (zss:List (List Int)) (w:World) (h:fx w ao n zss)
  (hcf:∀(args:Array Value) (w:World),(callFunc fn args).run Try.prog w= .ok (.enter fn args) w)
  (hf:∀j,j < n→∀w' a' n' c',Below w.heap.size w w'→cY w' a' n' (bu zss j)→Calls Try.prog fn (#[.slice a' n' c'] ++ cap) w' fun e w''=>e= .returned (.bool (p (bu zss j)))∧Below w'.heap.size w' w''):
  Calls Try.prog 63 #[.slice ao n c, .func (.func fn) #[] cap] w fun e w'=>e= .returned (.int .i64 (pF p zss))∧Below w.heap.size w w':=by
 have hn:=h.2.1
 have HF:=Lib.hid hf
 clear hf
 have HL:=Lib.hid h.1
 go_enter Try.func63,Try.ntmps63
 go_wp2
 go_loopw [8] (fun i wr=>∃k:Nat,k≤n∧i= .int .i64 k∧(zss.take k).any p=false∧Below w.heap.size w wr) (fun i _=>n - (intOf i).toNat)
 case atStart=>exact ⟨0,Nat.zero_le _,rfl,by simp,Below.refl _ _⟩
 case round=>
  obtain ⟨k,hk,rfl,hpre,hb⟩:=hrel
  have HP:=Lib.hid hpre
  clear hpre
  by_cases hlt:k < n
  ·obtain ⟨b,off,a1,n1,c1,rfl,hc,hin⟩:=(h.below hb).at_ hlt
   have HI:=Lib.hid hin
   clear h hin
   cases hp:p (bu zss k) with
   | true=>
    have HX:=Lib.hid hp
    clear hp
    go_wp2_with fail
    refine (HF.out k hlt _ a1 n1 c1 hb HI.out).mono ?_
    rintro e w1 ⟨rfl,hb1⟩
    rw [HX.out]
    go_wp2
    go_ret
    exact ⟨gg (uD (by rw [HL.out];exact hlt) HP.out HX.out).symm,hb.trans (hb1.mono hb.size)⟩
   | false=>
    have HX:=Lib.hid hp
    clear hp
    go_wp2_with fail
    refine (HF.out k hlt _ a1 n1 c1 hb HI.out).mono ?_
    rintro e w1 ⟨rfl,hb1⟩
    rw [HX.out]
    go_wp2
    go_roundw
    case rel=>exact ⟨k + 1,by omega,by go_num,by rw [p7 (by rw [HL.out];exact hlt),HP.out,HX.out];rfl,hb.trans (hb1.mono hb.size)⟩
    case measure=>simp [intOf];omega
  ·obtain rfl:k=n:=by omega
   go_wp2
   go_ret
   exact ⟨gg (oU (by have:=HP.out;rwa [List.take_of_length_le (Nat.le_of_eq HL.out)] at this)).symm,hb⟩
theorem fA (fn:Nat) (cap:Array Value) (p:List Int→Bool) (ao:Option Addr) (n c:Nat) (zss:List (List Int)) (w:World) (h:fx w ao n zss)
  (hcf:∀(args:Array Value) (w:World),(callFunc fn args).run Try.prog w= .ok (.enter fn args) w)
  (hf:∀j,j < n→∀w' a' n' c',Below w.heap.size w w'→cY w' a' n' (bu zss j)→Calls Try.prog fn (#[.slice a' n' c'] ++ cap) w' fun e w''=>e= .returned (.bool (p (bu zss j)))∧Below w'.heap.size w' w''):
  Calls Try.prog 39 #[.slice ao n c, .func (.func fn) #[] cap] w fun e w'=>e= .returned (.bool (zss.any p))∧Below w.heap.size w w':=by
 have HF:=Lib.hid hf
 clear hf
 go_enter Try.func39,Try.ntmps39
 go_wp2_with fail
 refine (nS fn cap p ao n c zss w h hcf HF.out).mono ?_
 rintro e w1 ⟨rfl,hb1⟩
 go_wp2
 go_ret
 exact ⟨bR (wA p zss),hb1⟩
def mK (g:Int) (zs:List Int):Bool:= !(cK (g - 1) zs && decide (1≤zs.length))
set_option maxHeartbeats 400000 in
theorem sc (g:Int) (b:Nat) (ao:Option Addr) (n c:Nat) (zs:List Int) (w:World) (h:cY w ao n zs) (hg0:0≤g) (hg1:g≤1000) (hc:w.cell? ⟨b,0,none⟩=some (.int .i64 g)):
  Calls Try.prog 62 #[.slice ao n c, .pointer (some ⟨b,0,none⟩)] w fun e w'=>e= .returned (.bool (mK g zs))∧Below w.heap.size w w':=by
 have HL:=Lib.hid h.1
 have hn:=h.2.1
 by_cases h0:n=0
 ·have e0:((n:Int) == 0)=true:=by simp;omega
  have H0:=Lib.hid h0
  clear h0
  go_enter Try.func62,Try.ntmps62
  go_wp2
  go_ret
  exact ⟨bR (by unfold mK;rw [HL.out,H0.out];simp),Below.refl _ _⟩
 ·have e0:((n:Int) == 0)=false:=by simp;omega
  have hz:decide (1≤n)=true:=by simp;omega
  have HZ:=Lib.hid hz
  clear hz
  go_enter Try.func62,Try.ntmps62
  go_wp2_with fail
  refine (kQ g ao n c zs _ h hg0 hg1).mono ?_
  rintro e w1 ⟨rfl,hb1⟩
  go_wp2
  go_ret
  exact ⟨bR (by unfold mK;rw [HL.out,HZ.out];simp),hb1⟩
set_option maxHeartbeats 400000 in
set_option maxRecDepth 100000 in
theorem ei {v:Value} {d:dy} (w:World) (h:zc w v d):
  Calls Try.prog 38 #[v] w fun e w'=>e= .returned (.bool (il d))∧Below w.heap.size w w':=by
 obtain ⟨ao,n,c,rfl,hi⟩:=h
 have hmf:∀(fn:Fn) (first cap:Array Value) (w:World),(Instr.makeFunc fn first cap).run Try.prog w= .ok (.func fn first cap) w:=fun _ _ _ _=>rfl
 have hn:=hi.2.1
 have HL:=Lib.hid hi.1
 have hb:=below_alloc1 w (.cells #[.int .i64 d.1, .slice ao n c] 32)
 have kb:gF (w.alloc (.cells #[.int .i64 d.1, .slice ao n c] 32)) w.heap.size 32 #[.int .i64 d.1, .slice ao n c]:=fU rfl
 cases hg:jF d.1 1 5 with
 | true=>
  have HX:=Lib.hid hg
  have hg':=eX.1 hg
  have hany:d.2.any (mK d.1)= !(d.2.all (fun zs=>cK (d.1 - 1) zs && decide (1≤zs.length))):=by
   rw [List.any_eq_not_all_not];congr 2;funext zs;unfold mK;exact Bool.not_not _
  have HA:=Lib.hid hany
  clear hg hany
  by_cases hs:n≤24
  ·have h1:decide ((n:Int)≤24)=true:=by simp;omega
   go_enter Try.func38,Try.ntmps38
   go_wp2_with (go_at_call 29;refine (fZ _ _ _ _).mono ?_;rintro e w' ⟨rfl,rfl⟩;rw [HX.out])
   refine (fA 62 #[.pointer (some ⟨w.heap.size,0,none⟩)] (mK d.1) ao n c d.2 _ (hi.below hb) (fun _ _=>by rfl)
    (fun j hj w' a' n' c' hb' hin=>sc d.1 w.heap.size a' n' c' _ w' hin (by omega) (by omega) ((kb.gA hb').cell 0))).mono ?_
   rintro e w1 ⟨rfl,hb1⟩
   go_wp2
   go_ret
   exact ⟨bR (by rw [HA.out,mA HX.out];unfold eh;rw [HL.out];simp [hs]),hb.trans (hb1.mono hb.size)⟩
  ·have h1:decide ((n:Int)≤24)=false:=by simp;omega
   go_enter Try.func38,Try.ntmps38
   go_wp2_with (go_at_call 29;refine (fZ _ _ _ _).mono ?_;rintro e w' ⟨rfl,rfl⟩;rw [HX.out])
   go_ret
   exact ⟨bR (by rw [mA HX.out];unfold eh;rw [HL.out];simp;intro;omega),hb⟩
 | false=>
  have HX:=Lib.hid hg
  clear hg
  go_enter Try.func38,Try.ntmps38
  go_wp2_with (go_at_call 29;refine (fZ _ _ _ _).mono ?_;rintro e w' ⟨rfl,rfl⟩;rw [HX.out])
  go_ret
  exact ⟨bR (kX HX.out).symm,hb⟩
end Go.Proofs.Ytekbhbcgoadciaa
namespace Go.Proofs.Ytekbhbcgoadciaa
open Go.RowKit
theorem kq {d:dy} (h:il d=true):1≤d.1∧d.1≤5:=by
 cases hg:jF d.1 1 5 with
 | false=>rw [kX hg] at h;cases h
 | true=>exact eX.1 hg
end Go.Proofs.Ytekbhbcgoadciaa
namespace Go.Proofs.Ytekbhbcgoadciaa
open Go.RowKit
def eG (d:dy) (ws:List (List Int)):Bool:=il d && eh d.1 0 ws
def fo (d:dy) (ws:List (List Int)):Int:=if eG d ws=true then 0 else 1
set_option maxRecDepth 100000 in
set_option maxHeartbeats 800000 in
theorem rj {v:Value} {d:dy} (ao:Option Addr) (n c:Nat) (ws:List (List Int)) (w:World) (h:zc w v d) (h':fx w ao n ws):
  Calls Try.prog 23 #[v, .slice ao n c] w fun e w'=>e= .returned (.int .i64 (fo d ws))∧Below w.heap.size w w':=by
 obtain ⟨ro,rn,rc,rfl,hr⟩:=h
 have hb:=below_alloc1 w (.cells #[.int .i64 d.1, .slice ro rn rc] 32)
 have kb:gF (w.alloc (.cells #[.int .i64 d.1, .slice ro rn rc] 32)) w.heap.size 32 #[.int .i64 d.1, .slice ro rn rc]:=fU rfl
 have hp0:zc (w.alloc (.cells #[.int .i64 d.1, .slice ro rn rc] 32)) (.agg #[.int .i64 d.1, .slice ro rn rc]) d:=⟨ro,rn,rc,rfl,hr.below hb⟩
 cases hp:il d with
 | false=>
  have HP:=Lib.hid hp
  have hC:fo d ws=1:=by unfold fo eG;rw [hp];rfl
  rw [hC]
  clear hp hC
  go_enter Try.func23,Try.ntmps23
  go_wp2_with fail
  refine (me _ hp0).mono ?_
  rintro e w1 ⟨rfl,b1⟩
  rw [HP.out]
  go_wp2_with fail
  go_ret
  exact ⟨rfl,dW b1 hb⟩
 | true=>
  have hg:=kq hp
  have HP:=Lib.hid hp
  clear hp
  go_enter Try.func23,Try.ntmps23
  go_wp2_with fail
  refine (me _ hp0).mono ?_
  rintro e w1 ⟨rfl,b1⟩
  rw [HP.out]
  have B1:=dW b1 hb
  have y0:w1.cell? ⟨w.heap.size,0,none⟩=some (.int .i64 d.1):=(kb.gA b1).cell 0
  have h1:=h'.below B1
  clear hp0 kb hb b1 hr h'
  cases hw:eh d.1 0 ws with
  | false=>
   have HW:=Lib.hid hw
   have hC:fo d ws=1:=by unfold fo eG;rw [hw];simp
   have HC:=Lib.hid hC
   clear hw hC
   go_wp2_with (go_at_call 47;refine (gC d.1 0 ao n c ws _ h1 (by omega) (by omega)).mono ?_;rintro e w' ⟨rfl,rfl⟩;rw [HW.out])
   go_ret
   exact ⟨gg HC.out.symm,B1⟩
  | true=>
   have HW:=Lib.hid hw
   have hC:fo d ws=0:=by unfold fo eG;rw [hw,HP.out];rfl
   have HC:=Lib.hid hC
   clear hw hC
   go_wp2_with (go_at_call 47;refine (gC d.1 0 ao n c ws _ h1 (by omega) (by omega)).mono ?_;rintro e w' ⟨rfl,rfl⟩;rw [HW.out])
   go_ret
   exact ⟨gg HC.out.symm,B1⟩
set_option maxHeartbeats 400000 in
theorem pH (b0:Nat) (g:Int) (ap:Option Addr) (np cp:Nat) (q:List Int) (w:World) (hc:w.cell? ⟨b0,0,none⟩=some (.int .i64 g)) (hq:cY w ap np q) (hg0:0≤g) (hg1:g≤1000):
  Calls Try.prog 40 #[.slice ap np cp, .pointer (some ⟨b0,0,none⟩)] w fun e w'=>e= .returned (.bool (!cK (g - 1) q))∧Below w.heap.size w w':=by
 go_enter Try.func40,Try.ntmps40
 go_wp2_with fail
 refine (kQ g ap np cp q _ hq hg0 hg1).mono ?_
 rintro e w1 ⟨rfl,b1⟩
 go_wp2
 go_ret
 exact ⟨rfl,b1⟩
theorem qH (g:Int) (ws:List (List Int)):ws.any (fun q=> !cK (g - 1) q)= !(ws.all fun q=>cK (g - 1) q):=by
 rw [List.any_eq_not_all_not];simp
theorem xx (g:Int) (ws:List (List Int)) (h:ws.length≤24):eh g 0 ws=ws.all fun q=>cK (g - 1) q:=by
 unfold eh;simp [h]
set_option maxRecDepth 100000 in
set_option maxHeartbeats 3200000 in
theorem r8 {v:Value} {d:dy} (ao:Option Addr) (n c:Nat) (ws:List (List Int)) (w:World) (h:zc w v d) (h':fx w ao n ws):
  Calls Try.prog 20 #[v, .slice ao n c] w fun e w'=>e= .returned (.int .i64 (fo d ws))∧Below w.heap.size w w':=by
 obtain ⟨ro,rn,rc,rfl,hr⟩:=h
 have hmf:∀(fn:Fn) (first cap:Array Value) (w:World),(Instr.makeFunc fn first cap).run Try.prog w= .ok (.func fn first cap) w:=fun _ _ _ _=>rfl
 have HL:=Lib.hid h'.1
 have hn1:=h'.2.1
 have hb:=below_alloc1 w (.cells #[.int .i64 d.1, .slice ro rn rc] 32)
 have kb:gF (w.alloc (.cells #[.int .i64 d.1, .slice ro rn rc] 32)) w.heap.size 32 #[.int .i64 d.1, .slice ro rn rc]:=fU rfl
 have KB:=Lib.hid kb
 have hr1:zc (w.alloc (.cells #[.int .i64 d.1, .slice ro rn rc] 32)) (.agg #[.int .i64 d.1, .slice ro rn rc]) d:=⟨ro,rn,rc,rfl,hr.below hb⟩
 have h1:=h'.below hb
 have HB:=Lib.hid hb
 clear kb hb hr h'
 cases hp:il d with
 | false=>
  have HP:=Lib.hid hp
  have hC:fo d ws=1:=by unfold fo eG;rw [hp];rfl
  have HC:=Lib.hid hC
  clear hp hC
  go_enter Try.func20,Try.ntmps20
  go_wp2_with fail
  refine (ei _ hr1).mono ?_
  rintro e w1 ⟨rfl,b1⟩
  rw [HP.out]
  have bq:=b1
  go_wp2_with fail
  go_ret
  exact ⟨gg HC.out.symm,dW bq HB.out⟩
 | true=>
  have hg:=kq hp
  have HP:=Lib.hid hp
  clear hp
  by_cases hs:n≤24
  ·have hs1:decide ((24:Int) < n)=false:=by simp;omega
   have hwo:=xx d.1 ws (by rw [HL.out];exact hs)
   cases hw:eh d.1 0 ws with
   | false=>
    have hC:fo d ws=1:=by unfold fo eG;rw [hw];simp
    have HC:=Lib.hid hC
    have HA:Hid ((ws.any fun q=> !cK (d.1 - 1) q)=true):=Lib.hid (by rw [qH,←hwo,hw];rfl)
    clear hw hC hwo
    go_enter Try.func20,Try.ntmps20
    go_wp2_with fail
    refine (ei _ hr1).mono ?_
    rintro e w1 ⟨rfl,b1⟩
    rw [HP.out]
    have hc1:=(KB.out.gA b1)
    have h2:=h1.below b1
    go_wp2_with fail
    refine (fA 40 #[.pointer (some ⟨w.heap.size,0,none⟩)] (fun q=> !cK (d.1 - 1) q) ao n c ws _ h2 (fun _ _=>by rfl) (fun j hj w' a' n' c' hb' hi=>pH w.heap.size d.1 a' n' c' _ w' ((hc1.gA hb').cell 0) hi (by omega) (by omega))).mono ?_
    rintro e wq ⟨rfl,b2⟩
    rw [HA.out]
    have bq:=dW b2 b1
    go_wp2_with fail
    go_ret
    exact ⟨gg HC.out.symm,dW bq HB.out⟩
   | true=>
    have hC:fo d ws=0:=by unfold fo eG;rw [hw,HP.out];rfl
    have HC:=Lib.hid hC
    have HA:Hid ((ws.any fun q=> !cK (d.1 - 1) q)=false):=Lib.hid (by rw [qH,←hwo,hw];rfl)
    clear hw hC hwo
    go_enter Try.func20,Try.ntmps20
    go_wp2_with fail
    refine (ei _ hr1).mono ?_
    rintro e w1 ⟨rfl,b1⟩
    rw [HP.out]
    have hc1:=(KB.out.gA b1)
    have h2:=h1.below b1
    go_wp2_with fail
    refine (fA 40 #[.pointer (some ⟨w.heap.size,0,none⟩)] (fun q=> !cK (d.1 - 1) q) ao n c ws _ h2 (fun _ _=>by rfl) (fun j hj w' a' n' c' hb' hi=>pH w.heap.size d.1 a' n' c' _ w' ((hc1.gA hb').cell 0) hi (by omega) (by omega))).mono ?_
    rintro e wq ⟨rfl,b2⟩
    rw [HA.out]
    have bq:=dW b2 b1
    go_wp2_with fail
    go_ret
    exact ⟨gg HC.out.symm,dW bq HB.out⟩
  ·have hs1:decide ((24:Int) < n)=true:=by simp;omega
   have hC:fo d ws=1:=by unfold fo eG eh;rw [decide_eq_false (by rw [HL.out];exact hs)];simp
   have HC:=Lib.hid hC
   clear hC
   go_enter Try.func20,Try.ntmps20
   go_wp2_with fail
   refine (ei _ hr1).mono ?_
   rintro e w1 ⟨rfl,b1⟩
   rw [HP.out]
   have bq:=b1
   go_wp2_with fail
   go_ret
   exact ⟨gg HC.out.symm,dW bq HB.out⟩
end Go.Proofs.Ytekbhbcgoadciaa
namespace Go.Proofs.Ytekbhbcgoadciaa
open Go.RowKit
section
variable {P:Program} {η:Env} {ω:bE} {w:World}
end
theorem ud (g:Int) (rels ws:List (List Int)) (h1:Fit rels) (h2:Fit ws):
  FC Try.prog 23 [(1002,aV ws),(1003,aV rels)] [pA g rels.length,o1 (.sl 1002 0 ws.length)] [] (vv (I6 (fo (g,rels) ws))) []:=
 dL fun w η ω us hm ⟨hl,ha⟩=>by
  obtain ⟨u0,g0,d0⟩:=ha 0 _ rfl
  obtain ⟨u1,g1,d1⟩:=ha 1 _ rfl
  have hp:=DB (x:=1003) (zss:=rels) hm rfl d0 (by have:=h1.1;omega) fun zs hz=>by have:=h1.2 zs hz;omega
  obtain ⟨ao,c,rfl,hi⟩:=Cd (x:=1002) (zss:=ws) hm rfl d1 (by have:=h2.1;omega) fun zs hz=>by have:=h2.2 zs hz;omega
  rw [zF hl g0 g1]
  exact rj ao _ c ws w hp hi
theorem tM (g:Int) (rels ws:List (List Int)) (h1:Fit rels) (h2:Fit ws):
  FC Try.prog 20 [(1002,aV ws),(1003,aV rels)] [pA g rels.length,o1 (.sl 1002 0 ws.length)] [] (vv (I6 (fo (g,rels) ws))) []:=
 dL fun w η ω us hm ⟨hl,ha⟩=>by
  obtain ⟨u0,g0,d0⟩:=ha 0 _ rfl
  obtain ⟨u1,g1,d1⟩:=ha 1 _ rfl
  have hp:=DB (x:=1003) (zss:=rels) hm rfl d0 (by have:=h1.1;omega) fun zs hz=>by have:=h1.2 zs hz;omega
  obtain ⟨ao,c,rfl,hi⟩:=Cd (x:=1002) (zss:=ws) hm rfl d1 (by have:=h2.1;omega) fun zs hz=>by have:=h2.2 zs hz;omega
  rw [zF hl g0 g1]
  exact r8 ao _ c ws w hp hi
structure Good (ng:Nat) (rels ws:List (List Int)):Prop where
 pos:0 < ng
 hi:ng≤5
 r:rels.length≤24
 w:ws.length≤24
 rl:∀w∈rels,a9 ng w
 wl:∀w∈ws,a9 ng w
 rn:∀w∈rels,w.length≤1000000000
 wn:∀w∈ws,w.length≤1000000000
theorem kN {g:Int} {ng:Nat} (hg:g=ng) {z:List Int} (h:cK (g - 1) z=true):a9 ng z∧z.length≤64:=by
 unfold cK at h
 rw [Bool.and_eq_true,List.all_eq_true] at h
 exact ⟨fun x hx=>by have:=eX.1 (h.2 x hx);omega,of_decide_eq_true h.1⟩
theorem rV {g:Int} {rels ws:List (List Int)} (h:eG (g,rels) ws=true):∃ng:Nat,g=(ng:Int)∧Good ng rels ws:=by
 unfold eG at h
 rw [Bool.and_eq_true] at h
 obtain ⟨h1,h2⟩:=h
 have hg:=kq h1
 have hge:g=((g.toNat:Nat):Int):=(Int.toNat_of_nonneg (by dsimp only at hg;omega)).symm
 unfold il at h1
 rw [Bool.and_eq_true,Bool.and_eq_true,List.all_eq_true] at h1
 unfold eh at h2
 rw [Bool.and_eq_true,List.all_eq_true] at h2
 have hr:∀w∈rels,a9 g.toNat w∧w.length≤64:=fun w hw=>by
  have:=h1.2 w hw
  rw [Bool.and_eq_true] at this
  exact kN hge this.1
 have hw:∀w∈ws,a9 g.toNat w∧w.length≤64:=fun w hw=>by
  have:=h2.2 w hw
  rw [Bool.and_eq_true] at this
  exact kN hge this.1
 dsimp only at hg
 exact ⟨g.toNat,hge,by omega,by omega,of_decide_eq_true h1.1.2,of_decide_eq_true h2.1,fun w h=>(hr w h).1,fun w h=>(hw w h).1,fun w h=>by have:=(hr w h).2;omega,fun w h=>by have:=(hw w h).2;omega⟩
def rb (d:dy) (ws:List (List Int)):dc:=cB d.1.toNat d.2 ws
def xM (d:dy) (ws:List (List Int)):Nat:=(bS d.1.toNat (rb d ws).1 (rb d ws).2.1).1.length
def nV (d:dy) (ws:List (List Int)):Int:=if eG d ws=true then (if (rb d ws).2.2=true then 0 else (xM d ws:Int)) else 0
def nr (d:dy) (ws:List (List Int)):Int:=if eG d ws=true then (if (rb d ws).2.2=true then 3 else 0) else 1
theorem gb (ng:Nat) (im:List (List Int)) (less:List Int):(cF ng im less).length=ng:=by simp [cF]
theorem kU {ng g:Nat} (im:List (List Int)) (less:List Int) (h:g < ng):(bu (cF ng im less) g).length=(bS ng im less).1.length:=by
 simp [cF,bu,h]
theorem sZ {d:dy} {ws:List (List Int)} (h:eG d ws=true):fo d ws=0:=if_pos h
theorem tg {d:dy} {ws:List (List Int)} (h:¬eG d ws=true):fo d ws=1:=if_neg h
theorem se {ng:Nat} {rels ws:List (List Int)} (h:Good ng rels ws) (hf:(cB ng rels ws).2.2=true):
  FC Try.prog 24 [(1002,aV ws),(1003,aV rels)] [pA ng rels.length,o1 (.sl 1002 0 ws.length)] [] (.tup [.one (.val (.slice none 0 0)), .one (.val (.bool false))]) []:=
 nx ng rels ws _ _ rfl rfl h.rl h.wl (by have:=h.hi;omega) h.rn h.wn (by have:=h.r;omega) (by have:=h.w;omega) hf
theorem pO {ng:Nat} {rels ws:List (List Int)} (h:Good ng rels ws) (hf:(cB ng rels ws).2.2=false):
  FC Try.prog 24 [(1002,aV ws),(1003,aV rels)] [pA ng rels.length,o1 (.sl 1002 0 ws.length)] [(69,cz (cF ng (cB ng rels ws).1 (cB ng rels ws).2.1))] (.tup [.one (.sl 69 0 ng), .one (.val (.bool true))]) []:=
 pX ng rels ws _ _ rfl rfl h.rl h.wl (by have:=h.hi;omega) h.rn h.wn (by have:=h.r;omega) (by have:=h.w;omega) hf
theorem rB {ng:Nat} {rels ws:List (List Int)} (h:Good ng rels ws) (hf:(cB ng rels ws).2.2=true):
  FC Try.prog 21 [(1002,aV ws),(1003,aV rels)] [pA ng rels.length,o1 (.sl 1002 0 ws.length)] [] (.tup [.one (.val (.slice none 0 0)), .one (.val (.bool false))]) []:=by
 have:=kR ng rels ws _ _ rfl rfl h.rl h.wl h.pos (by have:=h.hi;omega) h.rn h.wn (by have:=h.r;omega) (by have:=h.w;omega) _ rfl
 have hf':(wX ng rels ws).2.2=true:=by
  rcases mx ng rels ws with e | e
  ·rw [←e];exact hf
  ·exact e.2
 rwa [if_pos hf',if_pos hf'] at this
theorem pN {ng:Nat} {rels ws:List (List Int)} (h:Good ng rels ws) (hf:(cB ng rels ws).2.2=false):
  FC Try.prog 21 [(1002,aV ws),(1003,aV rels)] [pA ng rels.length,o1 (.sl 1002 0 ws.length)] [(131,cz (cF ng (cB ng rels ws).1 (cB ng rels ws).2.1))] (.tup [.one (.sl 131 0 ng), .one (.val (.bool true))]) []:=by
 have:=kR ng rels ws _ _ rfl rfl h.rl h.wl h.pos (by have:=h.hi;omega) h.rn h.wn (by have:=h.r;omega) (by have:=h.w;omega) _ rfl
 have he:cB ng rels ws=wX ng rels ws:=by
  rcases mx ng rels ws with e | e
  ·exact e
  ·rw [hf] at e;exact absurd e.1 (by simp)
 rw [←he,if_neg (by rw [hf];simp),if_neg (by rw [hf];simp)] at this
 exact this
set_option maxRecDepth 100000 in
set_option maxHeartbeats 1000000 in
theorem qW (g:Int) (rels ws:List (List Int)) (h1:Fit rels) (h2:Fit ws):
  FC Try.prog 10 [(1002,aV ws),(1003,aV rels)] [pA g rels.length,o1 (.sl 1002 0 ws.length)] [] (.tup [.one (.val (I6 (nV (g,rels) ws))), .one (.val (I6 (nr (g,rels) ws)))]) []:=by
 have hC:=ud g rels ws h1 h2
 refine bc (nt:=27) Try.func10 rfl rfl (by simp) fun w0 ω0=> ?_
 by_cases hok:eG (g,rels) ws=true
 ·obtain ⟨ng,rfl,hG⟩:=rV hok
  rw [sZ hok] at hC
  unfold nV nr
  rw [if_pos hok,if_pos hok]
  (refine ah ?_;refine ab ?_;apply aa rfl;(exact cS rfl rfl rfl rfl);apply aa rfl;(exact ag rfl rfl);apply aa rfl;(exact ag rfl rfl);refine aj ?_;refine ai ?_;refine ah ?_;refine ah ?_;refine ab ?_;apply aa rfl;(exact a3 rfl rfl rfl rfl rfl rfl (by as_aux_lemma=>kernel_rfl));apply aa rfl;(exact ae rfl rfl);apply aa rfl;(apply ak 23;exact aq hC (by as_aux_lemma=>kernel_rfl) rfl rfl ⟨⟨.inl rfl, .inl rfl,trivial⟩,rfl,trivial⟩ ⟨⟨_,rfl, .inl rfl⟩,⟨_,rfl, .inl rfl⟩,trivial⟩ rfl rfl);apply aa rfl;(exact ag rfl rfl);refine aj ?_;refine ai ?_;refine ah ?_;refine ab ?_;apply aa rfl;(exact ae rfl rfl);apply aa rfl;(exact aD rfl rfl rfl rfl);refine aj ?_;refine ai ?_)
  refine au rfl (fun e=>by cases e) (fun _=> ?_)
  show eC _ _ _ _ _ _ _
  have hX:rb ((ng:Int),rels) ws=cB ng rels ws:=by unfold rb;rw [Int.toNat_natCast]
  rw [hX]
  cases hf:(cB ng rels ws).2.2 with
  | true=>
   have hT:=se hG hf
   rw [if_pos rfl,if_pos rfl]
   (refine aI ?_;refine ai ?_;refine ah ?_;refine ab ?_;apply aa rfl;(exact a3 rfl rfl rfl rfl rfl rfl (by as_aux_lemma=>kernel_rfl));apply aa rfl;(exact ae rfl rfl);apply aa rfl;(apply ak 24;exact aq hT (by as_aux_lemma=>kernel_rfl) rfl rfl ⟨⟨.inl rfl, .inl rfl,trivial⟩,rfl,trivial⟩ ⟨⟨_,rfl, .inl rfl⟩,⟨_,rfl, .inl rfl⟩,trivial⟩ rfl rfl);apply aa rfl;(exact ae rfl rfl);apply aa rfl;(exact aZ rfl rfl rfl);apply aa rfl;(exact aZ rfl rfl rfl);apply aa rfl;(exact ag rfl rfl);apply aa rfl;(exact ag rfl rfl);refine aj ?_;refine ai ?_;refine ah ?_;refine ah ?_;refine ab ?_;apply aa rfl;(exact ae rfl rfl);apply aa rfl;(exact cV rfl rfl);refine aj ?_;refine ai ?_)
   refine au rfl (fun _=> ?_) (fun e=>by cases e)
   (refine ah ?_;refine ab ?_;apply aa rfl;(exact ag rfl rfl);apply aa rfl;(exact ag rfl rfl);refine aj ?_;refine ai ?_;refine aW ?_;refine aT ?_)
   exact cH (.inl rfl) rfl (.tmp rfl) (.tmp rfl) trivial trivial
  | false=>
   have hT:=pO hG hf
   have hN:xM ((ng:Int),rels) ws=(bu (cF ng (cB ng rels ws).1 (cB ng rels ws).2.1) 0).length:=by
    unfold xM;rw [hX,Int.toNat_natCast,kU _ _ hG.pos]
   rw [if_neg (by simp),if_neg (by simp),hN]
   have hrow:(bK (cF ng (cB ng rels ws).1 (cB ng rels ws).2.1))[0]? =some (aJ (bu (cF ng (cB ng rels ws).1 (cB ng rels ws).2.1) 0)):=ar (by rw [gb];exact hG.pos)
   have hlen:(bK (cF ng (cB ng rels ws).1 (cB ng rels ws).2.1)).length=ng:=by rw [aw,gb]
   have hpos:=hG.pos
   generalize cF ng (cB ng rels ws).1 (cB ng rels ws).2.1=T at *
   (refine aI ?_;refine ai ?_;refine ah ?_;refine ab ?_;apply aa rfl;(exact a3 rfl rfl rfl rfl rfl rfl (by as_aux_lemma=>kernel_rfl));apply aa rfl;(exact ae rfl rfl);apply aa rfl;(first | (apply ak 24;exact bz hT (by as_aux_lemma=>kernel_rfl) rfl rfl ⟨⟨.inl rfl, .inl rfl,trivial⟩,rfl,trivial⟩ ⟨⟨_,rfl, .inl rfl⟩,⟨_,rfl, .inl rfl⟩,trivial⟩ rfl rfl rfl) | exact aU (j:=0) rfl rfl rfl rfl rfl (by as_aux_lemma=>kernel_rfl) rfl hpos (Nat.le_of_eq hlen.symm));apply aa rfl;(exact ae rfl rfl);apply aa rfl;(exact aZ rfl rfl rfl);apply aa rfl;(exact aZ rfl rfl rfl);apply aa rfl;(exact ag rfl rfl);apply aa rfl;(exact ag rfl rfl);refine aj ?_;refine ai ?_;refine ah ?_;refine ah ?_;refine ab ?_;apply aa rfl;(exact ae rfl rfl);apply aa rfl;(exact cV rfl rfl);refine aj ?_;refine ai ?_)
   refine au rfl (fun e=>by cases e) (fun _=> ?_)
   (refine aI ?_;refine ai ?_;refine ah ?_;refine ab ?_;apply aa rfl;(exact ae rfl rfl);apply aa rfl;(exact aU (j:=0) rfl rfl rfl rfl rfl (by as_aux_lemma=>kernel_rfl) rfl hpos (Nat.le_of_eq hlen.symm));apply aa rfl;(exact bo rfl (by as_aux_lemma=>kernel_rfl) rfl rfl rfl (by first | assumption | exact al (by assumption) | exact ar (by assumption) | exact al (by omega) | exact ar (by omega) | rfl) (by first | exact an _ | assumption | rfl));apply aa rfl;(exact a8 rfl rfl rfl (by as_aux_lemma=>kernel_rfl));apply aa rfl;(exact ag rfl rfl);apply aa rfl;(exact ag rfl rfl);refine aj ?_;refine ai ?_;refine aW ?_)
   exact cH (.inl rfl) rfl (.tmp rfl) (.tmp rfl) trivial trivial
 ·rw [tg hok] at hC
  unfold nV nr
  rw [if_neg hok,if_neg hok]
  (refine ah ?_;refine ab ?_;apply aa rfl;(exact cS rfl rfl rfl rfl);apply aa rfl;(exact ag rfl rfl);apply aa rfl;(exact ag rfl rfl);refine aj ?_;refine ai ?_;refine ah ?_;refine ah ?_;refine ab ?_;apply aa rfl;(exact a3 rfl rfl rfl rfl rfl rfl (by as_aux_lemma=>kernel_rfl));apply aa rfl;(exact ae rfl rfl);apply aa rfl;(apply ak 23;exact aq hC (by as_aux_lemma=>kernel_rfl) rfl rfl ⟨⟨.inl rfl, .inl rfl,trivial⟩,rfl,trivial⟩ ⟨⟨_,rfl, .inl rfl⟩,⟨_,rfl, .inl rfl⟩,trivial⟩ rfl rfl);apply aa rfl;(exact ag rfl rfl);refine aj ?_;refine ai ?_;refine ah ?_;refine ab ?_;apply aa rfl;(exact ae rfl rfl);apply aa rfl;(exact aD rfl rfl rfl rfl);refine aj ?_;refine ai ?_)
  refine au rfl (fun _=> ?_) (fun e=>by cases e)
  (refine ah ?_;refine ab ?_;apply aa rfl;(exact ae rfl rfl);apply aa rfl;(exact ag rfl rfl);apply aa rfl;(exact ag rfl rfl);refine aj ?_;refine ai ?_;refine aW ?_;refine aT ?_)
  exact cH (.inl rfl) rfl (.tmp rfl) (.tmp rfl) trivial trivial
end Go.Proofs.Ytekbhbcgoadciaa
namespace Go.Proofs.Ytekbhbcgoadciaa
open Go.RowKit
set_option maxRecDepth 100000 in
set_option maxHeartbeats 1000000 in
theorem rO (g:Int) (rels ws:List (List Int)) (h1:Fit rels) (h2:Fit ws):
  FC Try.prog 9 [(1002,aV ws),(1003,aV rels)] [pA g rels.length,o1 (.sl 1002 0 ws.length)] [] (.tup [.one (.val (I6 (nV (g,rels) ws))), .one (.val (I6 (nr (g,rels) ws)))]) []:=by
 have hC:=tM g rels ws h1 h2
 refine bc (nt:=27) Try.func9 rfl rfl (by simp) fun w0 ω0=> ?_
 by_cases hok:eG (g,rels) ws=true
 ·obtain ⟨ng,rfl,hG⟩:=rV hok
  rw [sZ hok] at hC
  unfold nV nr
  rw [if_pos hok,if_pos hok]
  (refine ah ?_;refine ab ?_;apply aa rfl;(exact cS rfl rfl rfl rfl);apply aa rfl;(exact ag rfl rfl);apply aa rfl;(exact ag rfl rfl);refine aj ?_;refine ai ?_;refine ah ?_;refine ah ?_;refine ab ?_;apply aa rfl;(exact a3 rfl rfl rfl rfl rfl rfl (by as_aux_lemma=>kernel_rfl));apply aa rfl;(exact ae rfl rfl);apply aa rfl;(apply ak 20;exact aq hC (by as_aux_lemma=>kernel_rfl) rfl rfl ⟨⟨.inl rfl, .inl rfl,trivial⟩,rfl,trivial⟩ ⟨⟨_,rfl, .inl rfl⟩,⟨_,rfl, .inl rfl⟩,trivial⟩ rfl rfl);apply aa rfl;(exact ag rfl rfl);refine aj ?_;refine ai ?_;refine ah ?_;refine ab ?_;apply aa rfl;(exact ae rfl rfl);apply aa rfl;(exact aD rfl rfl rfl rfl);refine aj ?_;refine ai ?_)
  refine au rfl (fun e=>by cases e) (fun _=> ?_)
  have hX:rb ((ng:Int),rels) ws=cB ng rels ws:=by unfold rb;rw [Int.toNat_natCast]
  rw [hX]
  cases hf:(cB ng rels ws).2.2 with
  | true=>
   have hT:=rB hG hf
   rw [if_pos rfl,if_pos rfl]
   (refine aI ?_;refine ai ?_;refine ah ?_;refine ab ?_;apply aa rfl;(exact a3 rfl rfl rfl rfl rfl rfl (by as_aux_lemma=>kernel_rfl));apply aa rfl;(exact ae rfl rfl);apply aa rfl;(apply ak 21;exact aq hT (by as_aux_lemma=>kernel_rfl) rfl rfl ⟨⟨.inl rfl, .inl rfl,trivial⟩,rfl,trivial⟩ ⟨⟨_,rfl, .inl rfl⟩,⟨_,rfl, .inl rfl⟩,trivial⟩ rfl rfl);apply aa rfl;(exact ae rfl rfl);apply aa rfl;(exact aZ rfl rfl rfl);apply aa rfl;(exact aZ rfl rfl rfl);apply aa rfl;(exact ag rfl rfl);apply aa rfl;(exact ag rfl rfl);refine aj ?_;refine ai ?_;refine ah ?_;refine ah ?_;refine ab ?_;apply aa rfl;(exact ae rfl rfl);apply aa rfl;(exact cV rfl rfl);refine aj ?_;refine ai ?_)
   refine au rfl (fun _=> ?_) (fun e=>by cases e)
   (refine ah ?_;refine ab ?_;apply aa rfl;(exact ag rfl rfl);apply aa rfl;(exact ag rfl rfl);refine aj ?_;refine ai ?_;refine aW ?_;refine aT ?_)
   exact cH (.inl rfl) rfl (.tmp rfl) (.tmp rfl) trivial trivial
  | false=>
   have hT:=pN hG hf
   have hN:xM ((ng:Int),rels) ws=(bu (cF ng (cB ng rels ws).1 (cB ng rels ws).2.1) 0).length:=by
    unfold xM;rw [hX,Int.toNat_natCast,kU _ _ hG.pos]
   rw [if_neg (by simp),if_neg (by simp),hN]
   have hrow:(bK (cF ng (cB ng rels ws).1 (cB ng rels ws).2.1))[0]? =some (aJ (bu (cF ng (cB ng rels ws).1 (cB ng rels ws).2.1) 0)):=ar (by rw [gb];exact hG.pos)
   have hlen:(bK (cF ng (cB ng rels ws).1 (cB ng rels ws).2.1)).length=ng:=by rw [aw,gb]
   have hpos:=hG.pos
   generalize cF ng (cB ng rels ws).1 (cB ng rels ws).2.1=T at *
   have hS:=fG 131 0 (bu T 0).length
   (refine aI ?_;refine ai ?_;refine ah ?_;refine ab ?_;apply aa rfl;(exact a3 rfl rfl rfl rfl rfl rfl (by as_aux_lemma=>kernel_rfl));apply aa rfl;(exact ae rfl rfl);apply aa rfl;(apply ak 21;exact bz hT (by as_aux_lemma=>kernel_rfl) rfl rfl ⟨⟨.inl rfl, .inl rfl,trivial⟩,rfl,trivial⟩ ⟨⟨_,rfl, .inl rfl⟩,⟨_,rfl, .inl rfl⟩,trivial⟩ rfl rfl rfl);apply aa rfl;(exact ae rfl rfl);apply aa rfl;(exact aZ rfl rfl rfl);apply aa rfl;(exact aZ rfl rfl rfl);apply aa rfl;(exact ag rfl rfl);apply aa rfl;(exact ag rfl rfl);refine aj ?_;refine ai ?_;refine ah ?_;refine ah ?_;refine ab ?_;apply aa rfl;(exact ae rfl rfl);apply aa rfl;(exact cV rfl rfl);refine aj ?_;refine ai ?_)
   refine au rfl (fun e=>by cases e) (fun _=> ?_)
   (refine aI ?_;refine ai ?_;refine ah ?_;refine ab ?_;apply aa rfl;(exact ae rfl rfl);apply aa rfl;(first | exact aU (j:=0) rfl rfl rfl rfl rfl (by as_aux_lemma=>kernel_rfl) rfl hpos (Nat.le_of_eq hlen.symm) | (apply ak 22;exact aq hS (by as_aux_lemma=>kernel_rfl) rfl rfl ⟨rfl,trivial⟩ trivial rfl rfl));apply aa rfl;(exact bo rfl (by as_aux_lemma=>kernel_rfl) rfl rfl rfl (by first | assumption | exact al (by assumption) | exact ar (by assumption) | exact al (by omega) | exact ar (by omega) | rfl) (by first | exact an _ | assumption | rfl));apply aa rfl;(first | exact aU (j:=0) rfl rfl rfl rfl rfl (by as_aux_lemma=>kernel_rfl) rfl hpos (Nat.le_of_eq hlen.symm) | (apply ak 22;exact aq hS (by as_aux_lemma=>kernel_rfl) rfl rfl ⟨rfl,trivial⟩ trivial rfl rfl));apply aa rfl;(exact ag rfl rfl);apply aa rfl;(exact ag rfl rfl);refine aj ?_;refine ai ?_;refine aW ?_)
   exact cH (.inl rfl) rfl (.tmp rfl) (.tmp rfl) trivial trivial
 ·rw [tg hok] at hC
  unfold nV nr
  rw [if_neg hok,if_neg hok]
  (refine ah ?_;refine ab ?_;apply aa rfl;(exact cS rfl rfl rfl rfl);apply aa rfl;(exact ag rfl rfl);apply aa rfl;(exact ag rfl rfl);refine aj ?_;refine ai ?_;refine ah ?_;refine ah ?_;refine ab ?_;apply aa rfl;(exact a3 rfl rfl rfl rfl rfl rfl (by as_aux_lemma=>kernel_rfl));apply aa rfl;(exact ae rfl rfl);apply aa rfl;(apply ak 20;exact aq hC (by as_aux_lemma=>kernel_rfl) rfl rfl ⟨⟨.inl rfl, .inl rfl,trivial⟩,rfl,trivial⟩ ⟨⟨_,rfl, .inl rfl⟩,⟨_,rfl, .inl rfl⟩,trivial⟩ rfl rfl);apply aa rfl;(exact ag rfl rfl);refine aj ?_;refine ai ?_;refine ah ?_;refine ab ?_;apply aa rfl;(exact ae rfl rfl);apply aa rfl;(exact aD rfl rfl rfl rfl);refine aj ?_;refine ai ?_)
  refine au rfl (fun _=> ?_) (fun e=>by cases e)
  (refine ah ?_;refine ab ?_;apply aa rfl;(exact ae rfl rfl);apply aa rfl;(exact ag rfl rfl);apply aa rfl;(exact ag rfl rfl);refine aj ?_;refine ai ?_;refine aW ?_;refine aT ?_)
  exact cH (.inl rfl) rfl (.tmp rfl) (.tmp rfl) trivial trivial
theorem qb {E1 E E1' E':Nat} {lo hi lo' hi':Nat} {v v':Value} {d:dy} {ws:List (List Int)} (w:World) (h:sf E1 E w lo hi v d) (h':jR E1' E' w lo' hi' v' ws):
  Calls Try.prog 10 #[v,v'] w fun e w'=>e= .returned (.tuple #[.int .i64 (nV d ws), .int .i64 (nr d ws)])∧Below w.heap.size w w':=lM (yZ (fun k1 k2=>qW d.1 d.2 ws k1 k2) h h')
theorem pR {E1 E E1' E':Nat} {lo hi lo' hi':Nat} {v v':Value} {d:dy} {ws:List (List Int)} (w:World) (h:sf E1 E w lo hi v d) (h':jR E1' E' w lo' hi' v' ws):
  Calls Try.prog 9 #[v,v'] w fun e w'=>e= .returned (.tuple #[.int .i64 (nV d ws), .int .i64 (nr d ws)])∧Below w.heap.size w w':=lM (yZ (fun k1 k2=>rO d.1 d.2 ws k1 k2) h h')
end Go.Proofs.Ytekbhbcgoadciaa
namespace Go.Proofs.Ytekbhbcgoadciaa
def eV (I:Nat):Nat→List (List Int)
 | 0=> []
 | i + 1=>eV I i ++ (if I / 2 ^ i % 2=1 then [[(i:Int)]] else [])
theorem yM:∀I:Nat,I < 32→∀i:Nat,i < 5→(lE I (2 ^ i)=true↔I / 2 ^ i % 2=1):=by decide +kernel
theorem mo {I:Nat} {w:List Int} :∀ {n:Nat},w∈eV I n↔∃i,i < n∧I / 2 ^ i % 2=1∧w= [(i:Int)]
 | 0=>by simp [eV]
 | n + 1=>by
  rw [eV,List.mem_append,mo]
  constructor
  ·rintro (⟨i,h,k⟩ | h)
   ·exact ⟨i,by omega,k⟩
   ·split at h
    ·exact ⟨n,by omega,by assumption,by simpa using h⟩
    ·simp at h
  ·rintro ⟨i,h,k,e⟩
   by_cases hi:i=n
   ·subst hi;rw [if_pos k];exact .inr (by simp [e])
   ·exact .inl ⟨i,by omega,k,e⟩
theorem qv (I:Nat):∀n,(eV I n).length≤n
 | 0=>Nat.le_refl _
 | n + 1=>by have:=qv I n;rw [eV,List.length_append];split<;>simp<;>omega
theorem Db {I n:Nat} (hI:I < 32) (hn:n≤5):yg n I (eV I n):=
 ⟨fun w hw=>by
  obtain ⟨i,h,k,e⟩:=mo.1 hw
  exact ⟨i,h,(yM I hI i (by omega)).2 k,e⟩,fun i hi hb=>mo.2 ⟨i,hi,(yM I hI i (by omega)).1 hb,rfl⟩⟩
theorem wZ {d:dy} {ws:List (List Int)} (h:nr d ws=0):eG d ws=true∧(rb d ws).2.2=false:=by
 unfold nr at h
 split at h
 ·split at h
  ·cases h
  ·rename_i h1 h2
   exact ⟨h1,by simpa using h2⟩
 ·cases h
theorem xI (ng:Nat) (R W:List (List Int)):xM ((ng:Int),R) W=iA ng R W:=rfl
structure Du (zs:List Int) (I w o:Nat):Prop where
 whole:kW zs (ew zs)=(w:Int)
 own:kW zs I=(o:Int)
 pos:0 < o
 dvd:o ∣ w
 idx:nr (kK zs) (eV I (zs.length + 1))=0→∃k:Nat,nV (kK zs) (eV I (zs.length + 1))=(k:Int)∧k * o=w
theorem De {zs:List Int} (hA:CJ zs) (hd:cf zs=true) (hf:iv zs (ew zs)=true) {I:Nat} (hI:I≤ew zs):∃w o,Du zs I w o:=by
 obtain ⟨tw,D,hm⟩:=Cb (AD hA hd hf)
 obtain ⟨p1,p2⟩:=BS hm
 obtain ⟨q1,q2,q3⟩:=p2 I hI
 have h4:=dz hd
 have hlt:2 ^ (zs.length + 1)≤2 ^ 5:=Nat.pow_le_pow_right (by decide) (by omega)
 have hall:ew zs < 32:=by unfold ew;omega
 refine ⟨eP tw,mG I tw,p1.symm,q1.symm,q2,q3,fun hc=> ?_⟩
 obtain ⟨hw,hnf⟩:=wZ hc
 have hr:kK zs=bB zs:=by unfold kK;rw [if_pos hd]
 rw [hr] at hw hnf
 obtain ⟨ng,e,hG⟩:=rV (g:=((zs.length + 1:Nat):Int)) (rels:=(bB zs).2) hw
 rw [hr]
 have e1:((zs.length + 1:Nat):Int)=(ng:Int):=e
 obtain rfl:ng=zs.length + 1:=by omega
 have hran:pP (zs.length + 1) (bB zs).2 (eV I (zs.length + 1)):=⟨hG.rl,hG.wl,hnf⟩
 refine ⟨iA (zs.length + 1) (bB zs).2 (eV I (zs.length + 1)), ?_,xq D hran (Db (by omega) (by omega))⟩
 unfold nV
 rw [if_pos hw,hnf,if_neg (by simp)]
 exact congrArg _ (xI (zs.length + 1) (bB zs).2 (eV I (zs.length + 1)))
end Go.Proofs.Ytekbhbcgoadciaa
namespace Go.Proofs.Ytekbhbcgoadciaa
open Go.RowKit
theorem sK {zs:List Int} (h:CJ zs):zs.length≤7:=by
 rcases h with h | ⟨ys,z,h,_,rfl⟩ | ⟨ys,h,rfl⟩<;>have:=nB h<;>simp<;>omega
theorem xX:∀g:Nat,g < 8→2≤wrap64 (2 * 2 ^ g)∧wrap64 (2 * 2 ^ g)≤256:=by decide +kernel
def AH (w:World) (e:Ending) (w':World):Prop:=∃(ao:Option Addr) (c:Nat) (zs:List Int) (m:Int),e= .returned (.tuple #[.slice ao zs.length c, .int .i64 m])∧CJ zs∧jD 2 w' w.heap.size w'.heap.size (.slice ao zs.length c) zs∧Below w.heap.size w w'
set_option maxRecDepth 100000 in
set_option maxHeartbeats 1600000 in
theorem va (ao:Option Addr) (n c:Nat) (w:World) (h:ya w ao n w.heap.size):Calls Try.prog 5 #[.slice ao n c] w (AH w):=by
 go_enter Try.func5,Try.ntmps5
 go_wp2_with fail
 refine (yX ao n c w h).mono ?_
 rintro e w1 ⟨rfl,s1,z1,b1⟩
 go_wp2_with fail
 refine (rJ _ w1 s1 z1).mono ?_
 rintro e w2 ⟨a2,n2,c2,zs,rfl,hA,o2,s2,O2⟩
 have h7:=sK hA
 have hl:n2=zs.length:=by have:=o2.len;simpa using this.symm
 subst hl
 have z2:=O2.size
 have O2':=Lib.hid O2
 have hcv:IntKind.u64.wrap (zs.length:Int)=(zs.length:Int):=by rw [IntKind.wrap_u64];omega
 obtain ⟨P,hP,hP0,hP1⟩:∃P:Int,wrap64 (2 * 2 ^ zs.length)=P∧2≤P∧P≤256:=⟨_,rfl,xX _ (by omega)⟩
 have hP2:IntKind.i64.wrap (P + 2)=P + 2:=IntWalk.i64_in _ (by omega)
 have S2:=Lib.hid s2
 have OO:=Lib.hid o2
 clear O2 s2 o2
 go_wp2_with fail
 refine (ie _ (P + 2) _ S2.out (by omega)).mono ?_
 rintro e w3 ⟨r,rfl, -,r2,s3,o3⟩
 have hr:=r2 (by omega)
 have hw:IntKind.i64.wrap ((r:Int) - 1)=(r:Int) - 1:=IntWalk.i64_in _ (by omega)
 have O3:=Lib.hid ((O2'.out.trans o3).below (Nat.le_refl _) (by omega))
 have P3:=Lib.hid (OO.out.tS o3 (by omega))
 clear r2 s3 o3 O2' OO S2 hP hP2 hcv
 go_wp2
 exact bodyPost_ret (v:= .tuple #[.slice a2 zs.length c2, .int .i64 ((r:Int) - 1)]) (by simp [results,Try.f5,go_sem]) rfl ⟨a2,c2,zs,_,rfl,hA,jD.of (P3.out.mono (by omega)),b1.trans O3.out⟩
end Go.Proofs.Ytekbhbcgoadciaa
namespace Go.Proofs.Ytekbhbcgoadciaa
open Go.RowKit
theorem sQ {zs:List Int} {m:Int} (hd:cf zs=false):eI zs m=1:=by unfold eI;rw [hd,if_neg (by simp)]
theorem qC {zs:List Int} {m:Int} (hd:cf zs=true) (hb:jF m 0 (ew zs)=false):eI zs m=2:=by unfold eI;rw [hd,if_pos rfl,hb,if_neg (by simp)]
theorem ot {zs:List Int} {k:Nat} (hd:cf zs=true) (hb:jF (k:Int) 0 (ew zs)=true):eI zs k=if iv zs k=true then 0 else 5:=by unfold eI;rw [hd,if_pos rfl,hb,if_pos rfl,Int.toNat_natCast]
theorem od {zs:List Int} {m:Int} (h:eI zs m=0):cf zs=true∧∃k:Nat,m=k∧k < 1000∧iv zs k=true:=by
 cases hd:cf zs with
 | false=>rw [sQ hd] at h;cases h
 | true=>
  refine ⟨rfl, ?_⟩
  cases hb:jF m 0 (ew zs) with
  | false=>rw [qC hd hb] at h;cases h
  | true=>
   have hbb:=eX.1 hb
   have hlt:=rH (zs:=zs) (dz hd)
   obtain ⟨k,rfl⟩:=Int.eq_ofNat_of_zero_le hbb.1
   refine ⟨k,rfl,by omega, ?_⟩
   rw [ot hd hb] at h
   cases hf:iv zs k with
   | true=>rfl
   | false=>rw [hf,if_neg (by simp)] at h;cases h
set_option maxRecDepth 100000 in
theorem Cr (zs:List Int) (m:Int) (hn:zs.length≤4398046511104):
  FC Try.prog 6 [(1003,de zs)] [o1 (.sl 1003 0 zs.length),vv (I6 m)] [] (.tup [.one (.val (I6 (lR zs m))), .one (.val (I6 (eI zs m)))]) []:=by
 have hI:=zd zs zs.length rfl hn
 unfold lR
 refine bc (nt:=26) Try.func6 rfl rfl (by simp) fun w0 ω0=> ?_
 cases hd:cf zs with
 | false=>
  rw [hd] at hI
  rw [sQ hd,if_neg (by decide)]
  (refine ah ?_;refine ab ?_;apply aa rfl;(exact ag rfl rfl);apply aa rfl;(exact ag rfl rfl);refine aj ?_;refine ai ?_;refine ah ?_;refine aB ?_;refine ah ?_;refine ab ?_;apply aa rfl;(exact ae rfl rfl);apply aa rfl;(apply ak 14;exact aq hI (by as_aux_lemma=>kernel_rfl) rfl rfl ⟨rfl,trivial⟩ ⟨⟨_,rfl, .inl rfl⟩,trivial⟩ rfl rfl);apply aa rfl;(exact cV rfl rfl);apply aa rfl;(exact ag rfl rfl);refine aj ?_;refine ai ?_)
  refine au rfl (fun _=> ?_) (fun e=>by cases e)
  (refine ah ?_;refine ab ?_;apply aa rfl;(exact ag rfl rfl);apply aa rfl;(exact ag rfl rfl);refine aj ?_;refine ai ?_;refine aW ?_;refine bj ?_;refine aT ?_)
  exact cH (.inl rfl) rfl (.tmp rfl) (.tmp rfl) trivial trivial
 | true=>
  rw [hd] at hI
  have h4:=dz hd
  have hM:=wT zs zs.length m rfl h4
  cases hb:jF m 0 (ew zs) with
  | false=>
   rw [hb] at hM
   rw [qC hd hb,if_neg (by decide)]
   (refine ah ?_;refine ab ?_;apply aa rfl;(exact ag rfl rfl);apply aa rfl;(exact ag rfl rfl);refine aj ?_;refine ai ?_;refine ah ?_;refine aB ?_;refine ah ?_;refine ab ?_;apply aa rfl;(exact ae rfl rfl);apply aa rfl;(apply ak 14;exact aq hI (by as_aux_lemma=>kernel_rfl) rfl rfl ⟨rfl,trivial⟩ ⟨⟨_,rfl, .inl rfl⟩,trivial⟩ rfl rfl);apply aa rfl;(exact cV rfl rfl);apply aa rfl;(exact ag rfl rfl);refine aj ?_;refine ai ?_)
   refine au rfl (fun e=>by cases e) (fun _=> ?_)
   (refine ah ?_;refine ab ?_;apply aa rfl;(exact ae rfl rfl);apply aa rfl;(exact ae rfl rfl);apply aa rfl;(apply ak 15;exact aq hM (by as_aux_lemma=>kernel_rfl) rfl rfl ⟨rfl,rfl,trivial⟩ ⟨⟨_,rfl, .inl rfl⟩,trivial⟩ rfl rfl);apply aa rfl;(exact cV rfl rfl);apply aa rfl;(exact ag rfl rfl);refine aj ?_;refine ai ?_)
   refine au rfl (fun _=> ?_) (fun e=>by cases e)
   (refine ah ?_;refine ab ?_;apply aa rfl;(exact ag rfl rfl);apply aa rfl;(exact ag rfl rfl);refine aj ?_;refine ai ?_;refine aW ?_;refine bj ?_;refine aT ?_)
   exact cH (.inl rfl) rfl (.tmp rfl) (.tmp rfl) trivial trivial
  | true=>
   rw [hb] at hM
   have hbb:=eX.1 hb
   have hlt:=rH h4
   obtain ⟨k,rfl⟩:=Int.eq_ofNat_of_zero_le hbb.1
   rw [ot hd hb,Int.toNat_natCast]
   cases hf:iv zs k with
   | false=>
    have hO:=zQ zs zs.length k rfl hd (by omega) hf
    rw [if_neg (show ¬(false=true) by simp),if_neg (by decide)]
    (refine ah ?_;refine ab ?_;apply aa rfl;(exact ag rfl rfl);apply aa rfl;(exact ag rfl rfl);refine aj ?_;refine ai ?_;refine ah ?_;refine aB ?_;refine ah ?_;refine ab ?_;apply aa rfl;(exact ae rfl rfl);apply aa rfl;(apply ak 14;exact aq hI (by as_aux_lemma=>kernel_rfl) rfl rfl ⟨rfl,trivial⟩ ⟨⟨_,rfl, .inl rfl⟩,trivial⟩ rfl rfl);apply aa rfl;(exact cV rfl rfl);apply aa rfl;(exact ag rfl rfl);refine aj ?_;refine ai ?_)
    refine au rfl (fun e=>by cases e) (fun _=> ?_)
    (refine ah ?_;refine ab ?_;apply aa rfl;(exact ae rfl rfl);apply aa rfl;(exact ae rfl rfl);apply aa rfl;(apply ak 15;exact aq hM (by as_aux_lemma=>kernel_rfl) rfl rfl ⟨rfl,rfl,trivial⟩ ⟨⟨_,rfl, .inl rfl⟩,trivial⟩ rfl rfl);apply aa rfl;(exact cV rfl rfl);apply aa rfl;(exact ag rfl rfl);refine aj ?_;refine ai ?_)
    refine au rfl (fun e=>by cases e) (fun _=> ?_)
    (refine aI ?_;refine aK ?_;refine ai ?_;refine ah ?_;refine ab ?_;apply aa rfl;(exact ae rfl rfl);apply aa rfl;(exact ae rfl rfl);apply aa rfl;(apply ak 16;exact aq hO (by as_aux_lemma=>kernel_rfl) rfl rfl ⟨rfl,rfl,trivial⟩ ⟨⟨_,rfl, .inl rfl⟩,trivial⟩ rfl rfl);apply aa rfl;(exact ae rfl rfl);apply aa rfl;(exact aZ rfl rfl rfl);apply aa rfl;(exact aZ rfl rfl rfl);apply aa rfl;(exact ag rfl rfl);apply aa rfl;(exact ag rfl rfl);refine aj ?_;refine ai ?_;refine ah ?_;refine ah ?_;refine ab ?_;apply aa rfl;(exact ae rfl rfl);apply aa rfl;(exact cV rfl rfl);refine aj ?_;refine ai ?_)
    refine au rfl (fun _=> ?_) (fun e=>by cases e)
    (refine ah ?_;refine ab ?_;apply aa rfl;(exact ag rfl rfl);apply aa rfl;(exact ag rfl rfl);refine aj ?_;refine ai ?_;refine aW ?_;refine aT ?_)
    exact cH (.inl rfl) rfl (.tmp rfl) (.tmp rfl) trivial trivial
   | true=>
    have hO:=xO zs zs.length k rfl hd (by omega) hf
    rw [if_pos rfl,if_pos rfl]
    (refine ah ?_;refine ab ?_;apply aa rfl;(exact ag rfl rfl);apply aa rfl;(exact ag rfl rfl);refine aj ?_;refine ai ?_;refine ah ?_;refine aB ?_;refine ah ?_;refine ab ?_;apply aa rfl;(exact ae rfl rfl);apply aa rfl;(apply ak 14;exact aq hI (by as_aux_lemma=>kernel_rfl) rfl rfl ⟨rfl,trivial⟩ ⟨⟨_,rfl, .inl rfl⟩,trivial⟩ rfl rfl);apply aa rfl;(exact cV rfl rfl);apply aa rfl;(exact ag rfl rfl);refine aj ?_;refine ai ?_)
    refine au rfl (fun e=>by cases e) (fun _=> ?_)
    (refine ah ?_;refine ab ?_;apply aa rfl;(exact ae rfl rfl);apply aa rfl;(exact ae rfl rfl);apply aa rfl;(apply ak 15;exact aq hM (by as_aux_lemma=>kernel_rfl) rfl rfl ⟨rfl,rfl,trivial⟩ ⟨⟨_,rfl, .inl rfl⟩,trivial⟩ rfl rfl);apply aa rfl;(exact cV rfl rfl);apply aa rfl;(exact ag rfl rfl);refine aj ?_;refine ai ?_)
    refine au rfl (fun e=>by cases e) (fun _=> ?_)
    (refine aI ?_;refine aK ?_;refine ai ?_;refine ah ?_;refine ab ?_;apply aa rfl;(exact ae rfl rfl);apply aa rfl;(exact ae rfl rfl);apply aa rfl;(apply ak 16;exact aq hO (by as_aux_lemma=>kernel_rfl) rfl rfl ⟨rfl,rfl,trivial⟩ ⟨⟨_,rfl, .inl rfl⟩,trivial⟩ rfl rfl);apply aa rfl;(exact ae rfl rfl);apply aa rfl;(exact aZ rfl rfl rfl);apply aa rfl;(exact aZ rfl rfl rfl);apply aa rfl;(exact ag rfl rfl);apply aa rfl;(exact ag rfl rfl);refine aj ?_;refine ai ?_;refine ah ?_;refine ah ?_;refine ab ?_;apply aa rfl;(exact ae rfl rfl);apply aa rfl;(exact cV rfl rfl);refine aj ?_;refine ai ?_)
    refine au rfl (fun e=>by cases e) (fun _=> ?_)
    (refine aI ?_;refine ai ?_;refine ah ?_;refine ab ?_;apply aa rfl;(exact ae rfl rfl);apply aa rfl;(exact ag rfl rfl);apply aa rfl;(exact ag rfl rfl);refine aj ?_;refine ai ?_;refine aW ?_)
    exact cH (.inl rfl) rfl (.tmp rfl) (.tmp rfl) trivial trivial
set_option maxRecDepth 100000 in
theorem Bv (zs:List Int) (m:Int) (hn:zs.length≤4398046511104):
  FC Try.prog 7 [(1003,de zs)] [o1 (.sl 1003 0 zs.length),vv (I6 m)] [] (.tup [.one (.val (I6 (lR zs m))), .one (.val (I6 (eI zs m)))]) []:=by
 have hM:=yj zs zs.length m rfl hn
 unfold lR
 refine bc (nt:=16) Try.func7 rfl rfl (by simp) fun w0 ω0=> ?_
 (refine ah ?_;refine ab ?_;apply aa rfl;(exact ag rfl rfl);apply aa rfl;(exact ag rfl rfl);refine aj ?_;refine ai ?_;refine ah ?_;refine ah ?_;refine ab ?_;apply aa rfl;(exact ae rfl rfl);apply aa rfl;(exact ae rfl rfl);apply aa rfl;(apply ak 17;exact aq hM (by as_aux_lemma=>kernel_rfl) rfl rfl ⟨rfl,rfl,trivial⟩ ⟨⟨_,rfl, .inl rfl⟩,trivial⟩ rfl rfl);apply aa rfl;(exact ag rfl rfl);refine aj ?_;refine ai ?_;refine ah ?_;refine ab ?_;apply aa rfl;(exact ae rfl rfl);apply aa rfl;(exact aD rfl rfl rfl rfl);refine aj ?_;refine ai ?_)
 refine au rfl (fun h=> ?_) (fun h=> ?_)
 ·have h0:eI zs m≠0:=by simpa using h
  rw [if_neg h0]
  (refine ah ?_;refine ab ?_;apply aa rfl;(exact ae rfl rfl);apply aa rfl;(exact ag rfl rfl);apply aa rfl;(exact ag rfl rfl);refine aj ?_;refine ai ?_;refine aW ?_;refine aT ?_)
  exact cH (.inl rfl) rfl (.tmp rfl) (.tmp rfl) trivial trivial
 have h0:eI zs m=0:=by simpa using h
 rw [if_pos h0,h0]
 obtain ⟨hd,k,rfl,hk,hf⟩:=od h0
 have hO:=AP zs zs.length k rfl hd hk hf
 rw [Int.toNat_natCast]
 (refine aI ?_;refine ai ?_;refine ah ?_;refine ab ?_;apply aa rfl;(exact ae rfl rfl);apply aa rfl;(exact ae rfl rfl);apply aa rfl;(apply ak 18;exact aq hO (by as_aux_lemma=>kernel_rfl) rfl rfl ⟨rfl,rfl,trivial⟩ ⟨⟨_,rfl, .inl rfl⟩,trivial⟩ rfl rfl);apply aa rfl;(exact ag rfl rfl);apply aa rfl;(exact ag rfl rfl);refine aj ?_;refine ai ?_;refine aW ?_)
 exact cH (.inl rfl) rfl (.tmp rfl) (.tmp rfl) trivial trivial
theorem vf {E:Nat} {lo hi:Nat} {v:Value} {zs:List Int} (m:Int) (w:World) (h:jD E w lo hi v zs):
  Calls Try.prog 7 #[v, .int .i64 m] w fun e w'=>e= .returned (.tuple #[.int .i64 (lR zs m), .int .i64 (eI zs m)])∧Below w.heap.size w w':=lM (yN m (fun k=>Bv zs m k) h)
theorem n5 {E:Nat} {lo hi:Nat} {v:Value} {zs:List Int} (m:Int) (w:World) (h:jD E w lo hi v zs):
  Calls Try.prog 6 #[v, .int .i64 m] w fun e w'=>e= .returned (.tuple #[.int .i64 (lR zs m), .int .i64 (eI zs m)])∧Below w.heap.size w w':=lM (yN m (fun k=>Cr zs m k) h)
end Go.Proofs.Ytekbhbcgoadciaa
namespace Go.Proofs.Ytekbhbcgoadciaa
open Go.RowKit
theorem v9 (ao:Option Addr) (n c:Nat) (w:World):Calls Try.prog 4 #[.slice ao n c] w fun e w'=>e= .returned (.bool (decide (4096 < n)))∧w'=w:=by
 by_cases h:4096 < n
 ·have e0:decide ((4096:Int) < n)=true:=by simp;omega
  go_enter Try.func4,Try.ntmps4
  go_wp2
  go_ret
  exact ⟨by simp [h],rfl⟩
 ·have e0:decide ((4096:Int) < n)=false:=by simp;omega
  go_enter Try.func4,Try.ntmps4
  go_wp2
  go_ret
  exact ⟨by simp [h],rfl⟩
end Go.Proofs.Ytekbhbcgoadciaa
namespace Go.Proofs.Ytekbhbcgoadciaa
open Go.RowKit
theorem jD.mw {E:Nat} {w w':World} {lo hi k:Nat} {v:Value} {zs:List Int} (h:jD E w lo hi v zs) (hb:Below k w w') (hk:hi≤k):jD E w' lo hi v zs:=
 ⟨(dD E).loc h.1 fun g hg=>hb.block g (by have:=h.2 g hg;omega),h.2⟩
theorem ve {T1 E lo hi:Nat} {w2 w3 w4:World} {ao ao' ao2:Option Addr} {m c n' c' c2:Nat} {us:List Value} {ds:List (List Int)} {zs:List Int}
  (hR:iC (pL T1) w2 lo hi E ao m c us ds) (hlo:lo≤hi) (hhi:hi≤w2.heap.size) (hu:Own w2 hi T1 ao' n' c' (zs.map (Value.int .i64))) (hb3:Below w2.heap.size w2 w3)
  (hown:Own w4 lo E ao2 (m + 1) c2 (us ++ [.slice ao' n' c'])) (hg:w3.grownBy w4 (bk ao)) (hat:bk ao2=bk ao∨bk ao2=some w3.heap.size):
  iC (pL T1) w4 lo w4.heap.size E ao2 (m + 1) c2 (us ++ [.slice ao' n' c']) (ds ++ [zs]):=by
 have hR3:iC (pL T1) w3 lo hi E ao m c us ds:=hR.below (dD _) hb3
 have s2:=hb3.size
 have s3:=hg.size
 have hub:∀g,bk ao'=some g→hi≤g∧g < w2.heap.size:=hu.lt
 have hne:∀g,bk ao'=some g→bk ao≠some g:=fun g h1 h2=>by have:=hub g h1;have:=hR.top g h2;omega
 have hu4:pL T1 w4 (.slice ao' n' c') zs:=(dD T1).loc (w:=w2) ⟨ao',n',c',rfl,hu.mono (Nat.zero_le _)⟩ fun g h=>by
  rw [bN] at h
  have:=hub g h
  rw [hg.block g (by omega) (fun e=>hne g h e.symm)]
  exact hb3.block g this.2
 refine hR3.push (dD _) hown hg hu4 (oH fun g h=>⟨by have:=hub g h;omega,by have:=hub g h;omega⟩) (fun g h=>(hown.lt g h).2) (by omega) ?_ ?_
 ·intro g h
  rcases hat with h1 | h1
  ·exact .inl (h1 ▸ h)
  ·refine .inr fun j u hj e=> ?_
   rw [h1] at h;obtain rfl:=Option.some.inj h
   have:=(hR3.rng j u hj _ e).2
   omega
 ·intro g h
  rw [bN] at h
  have hh:=hub g h
  refine ⟨fun e=> ?_,fun j v hj e=> ?_⟩
  ·rcases hat with h1 | h1
   ·exact hne g h (h1 ▸ e)
   ·rw [h1] at e;have:=Option.some.inj e;omega
  ·have:=(hR3.rng j v hj _ e).2;omega
structure z8 (w wr:World) (hi lo:Nat) (v:Value) (zs:List Int) (ao:Option Addr) (m c:Nat) (us:List Value) (ds:List (List Int)):Prop where
 lab:jD 2 wr w.heap.size hi v zs
 row:iC (pL 2) wr lo wr.heap.size 24 ao m c us ds
 lo:hi≤lo∧w.heap.size≤lo∧lo≤wr.heap.size
 bel:Below w.heap.size w wr
theorem z8.push {w wr w3 w4:World} {hi lo m c n1 c1 c2:Nat} {v:Value} {zs ws:List Int} {ao a1 ao2:Option Addr} {us:List Value} {ds:List (List Int)} (st:z8 w wr hi lo v zs ao m c us ds)
  {w2:World} (b2:Below wr.heap.size wr w2) (o1:Own w2 wr.heap.size 2 a1 n1 c1 (ws.map (Value.int .i64))) (b3:Below w2.heap.size w2 w3) (o4:Own w4 lo 24 ao2 (m + 1) c2 (us ++ [.slice a1 n1 c1]))
  (g4:w3.grownBy w4 (bk ao)) (hat:bk ao2=bk ao∨bk ao2=some w3.heap.size):z8 w w4 hi lo v zs ao2 (m + 1) c2 (us ++ [.slice a1 n1 c1]) (ds ++ [ws]):=by
 have hl:=st.lo
 have z2:=b2.size
 have z3:=b3.size
 have z4:=g4.size
 have hR:=ve (st.row.below (dD _) b2) hl.2.2 z2 o1 b3 o4 g4 hat
 have B4:Below lo wr w4:=((b2.mono hl.2.2).trans (b3.mono (by omega))).grown g4 (by omega) (fun g hg=>(st.row.own.lt g hg).1)
 exact ⟨st.lab.mw B4 hl.1,hR,⟨hl.1,hl.2.1,by omega⟩,st.bel.trans (B4.mono hl.2.1)⟩
theorem wI {w:World} {b:Nat} {u:Value} (h:w.cell? ⟨b,0,none⟩=some u):Af w (some ⟨b,0,none⟩) 1 [u]:=
 ⟨rfl,by omega,fun _=>⟨b,0,rfl,fun j v hv=>by
  cases j with
  | zero=>simp at hv;subst hv;exact h
  | succ j=>simp at hv⟩⟩
theorem yw (I:Nat) (hI:I < 32) (k:Nat):(bits .and .i64 ((I:Int) / 2 ^ k) 1 == 1)=decide (I / 2 ^ k % 2=1):=by
 have h1:(I:Int) / 2 ^ k=((I / 2 ^ k:Nat):Int):=by rw [Int.natCast_ediv,Int.natCast_pow];rfl
 have h2:I / 2 ^ k≤I:=Nat.div_le_self _ _
 have h3:bits .and .i64 ((I / 2 ^ k:Nat):Int) 1=((I / 2 ^ k &&& 1:Nat):Int):=lO (I / 2 ^ k) 1 (by omega) (by omega)
 rw [h1,h3,Nat.and_one_is_mod]
 rcases (by omega:I / 2 ^ k % 2=0∨I / 2 ^ k % 2=1) with h | h<;>rw [h]<;>rfl
theorem z8.mw {w wr w':World} {hi lo m c:Nat} {v:Value} {zs:List Int} {ao:Option Addr} {us:List Value} {ds:List (List Int)} (st:z8 w wr hi lo v zs ao m c us ds) (hb:Below wr.heap.size wr w'):z8 w w' hi lo v zs ao m c us ds:=
 have hl:=st.lo
 ⟨st.lab.below hb,(st.row.below (dD _) hb).mono (Nat.le_refl _) hb.size,⟨hl.1,hl.2.1,Nat.le_trans hl.2.2 hb.size⟩,st.bel.trans (hb.mono st.bel.size)⟩
theorem z8.words {w wr:World} {hi lo m c:Nat} {v:Value} {zs:List Int} {ao:Option Addr} {us:List Value} {ds:List (List Int)} (st:z8 w wr hi lo v zs ao m c us ds):jR 2 24 wr lo wr.heap.size (.slice ao m c) ds:=
 ⟨ao,m,c,us,rfl,st.row⟩
theorem wU {E1 E:Nat} {w:World} {lo hi:Nat} {v:Value} {d:dy} (h:sf E1 E w lo hi v d):∃ao n c,v= .agg #[.int .i64 d.1, .slice ao n c]:=by
 obtain ⟨ao,n,c,us,rfl,_⟩:=h
 exact ⟨ao,n,c,rfl⟩
theorem yJ {zs:List Int} (hd:cf zs=true) {I:Nat} :kW zs I≤1000000000:=by
 have h1:=mB (rG (mask:=I) hd) _ (Nat.le_refl _)
 have h2:=rR (mask:=I) hd
 unfold kW
 have h3:32 ^ (km zs I).length≤32 ^ 5:=Nat.pow_le_pow_right (by decide) (by omega)
 have h4:(32:Nat) ^ 5=33554432:=rfl
 omega
theorem uX {zs:List Int} (hd:cf zs=true):eI zs ((ew zs:Nat):Int)=if iv zs (ew zs)=true then 0 else 5:=by
 generalize hA:ew zs=A
 exact ot hd (eX.2 ⟨Int.natCast_nonneg _,by rw [hA];exact Int.le_refl _⟩)
theorem uO:∀g:Nat,g < 5→wrap64 (2 ^ (g + 1))=((2 ^ (g + 1):Nat):Int):=by decide +kernel
set_option maxRecDepth 100000 in
set_option maxHeartbeats 6400000 in
theorem pB {ao:Option Addr} {n c:Nat} (w:World) (h:ya w ao n w.heap.size):
  Calls Try.prog 3 #[.slice ao n c] w fun e w'=>e= .returned (.bool true)∧Below w.heap.size w w':=by
 by_cases hbig:4096 < n
 ·have e0:decide (4096 < n)=true:=by simp;omega
  go_enter Try.func3,Try.ntmps3
  go_wp2_with (go_at_call 4;refine (v9 ao n c w).mono ?_;rintro e w1 ⟨rfl,hw⟩;rw [hw,e0];clear hw w1)
  go_ret
  exact ⟨rfl,Below.refl _ _⟩
 ·have e0:decide (4096 < n)=false:=by simp;omega
  go_enter Try.func3,Try.ntmps3
  go_wp2_with (go_at_call 4;refine (v9 ao n c w).mono ?_;rintro e w1 ⟨rfl,hw⟩;rw [hw,e0];clear hw w1)
  refine (va ao n c w h).mono ?_
  rintro e w1 ⟨av,cv,zs,m,rfl,hA,o1,B1⟩
  clear hbig e0 h
  have HA:=Lib.hid hA
  have h7:=sK hA
  clear hA
  obtain ⟨hi,hhi⟩:∃hi,w1.heap.size=hi:=⟨_,rfl⟩
  have z1:=B1.size
  have hz1:hi≤w1.heap.size:=by omega
  rw [hhi] at o1
  clear hhi
  go_wp2_with fail
  refine (n5 m _ o1).mono ?_
  rintro e w2 ⟨rfl,b2⟩
  have o2:=o1.below b2
  have B2:=B1.trans (b2.mono B1.size)
  have z2:=b2.size
  clear o1 b2 B1
  go_wp2_with fail
  refine (vf m _ o2).mono ?_
  rintro e w3 ⟨rfl,b3⟩
  have o3:=o2.below b3
  have B3:=B2.trans (b3.mono B2.size)
  have z3:=b3.size
  clear o2 b3 B2
  have ec:(eI zs m != eI zs m)=false:=by simp
  have eo:(lR zs m != lR zs m)=false:=by simp
  by_cases hC:eI zs m=0
  ·obtain ⟨hd,I,rfl,hI,hf⟩:=od hC
   have h4:=dz hd
   have hI2:I≤ew zs:=by
    have:=hC
    unfold eI at this
    rw [if_pos hd] at this
    split at this
    ·rename_i hb
     have:=(eX.1 hb).2
     omega
    ·cases this
   have hor:lR zs (I:Int)=kW zs I:=by unfold lR;rw [if_pos hC,Int.toNat_natCast]
   have hall:ew zs < 32:=by
    have:2 ^ (zs.length + 1)≤2 ^ 5:=Nat.pow_le_pow_right (by decide) (by omega)
    unfold ew;omega
   have hwh:wrap64 (2 ^ (zs.length + 1))=((ew zs + 1:Nat):Int):=by
    rw [uO _ (by omega)]
    have:=Nat.pow_pos (n:=zs.length + 1) (show 0 < 2 by decide)
    unfold ew;omega
   have HC:=Lib.hid hC
   have HD:=Lib.hid hd
   have HOR:=Lib.hid hor
   have HWC:=Lib.hid (uX hd)
   rw [hC]
   obtain ⟨A,hAe⟩:∃A,ew zs=A:=⟨_,rfl⟩
   rw [hAe] at hwh hI2 hall
   have HAE:=Lib.hid hAe
   clear hC hd hor ec hAe
   have hcv:IntKind.u64.wrap (zs.length:Int)=(zs.length:Int):=by rw [IntKind.wrap_u64];omega
   have hc2:IntKind.u64.wrap ((zs.length:Int) + 1)=(zs.length:Int) + 1:=by rw [IntKind.wrap_u64];omega
   have hw1:IntKind.i64.wrap (((A + 1:Nat):Int) - 1)=(A:Int):=by rw [IntWalk.i64_in _ (by omega)];omega
   go_wp2_with fail
   refine (n5 _ _ o3).mono ?_
   rintro e w4 ⟨rfl,b4⟩
   have o4:=o3.below b4
   have B4:=B3.trans (b4.mono B3.size)
   have z4:=b4.size
   clear o3 b4 B3 hwh hw1
   have hwc:=HWC.out
   rw [HAE.out] at hwc
   have hora:eI zs (A:Int)=0→lR zs (A:Int)=kW zs A:=fun h0=>by unfold lR;rw [if_pos h0,Int.toNat_natCast]
   cases hfa:iv zs A with
   | false=>
    rw [hfa,if_neg (by simp)] at hwc
    rw [hwc]
    clear hora hfa hwc eo
    go_wp2
    go_ret
    exact ⟨rfl,B4⟩
   | true=>
    rw [hfa,if_pos rfl] at hwc
    have hoa:=hora hwc
    obtain ⟨wN,o,PA⟩:=De HA.out HD.out (by rw [HAE.out];exact hfa) (I:=I) (by rw [HAE.out];exact hI2)
    have hw0:=PA.whole
    rw [HAE.out] at hw0
    rw [hwc,hoa,hw0,HOR.out,PA.own]
    have hpos:=PA.pos
    have PA:=Lib.hid PA
    clear hwc hoa hw0 hora hfa eo
    go_upto_region 15 with fail
    have S0:z8 w (w4.alloc (.cells #[] 24)) hi w4.heap.size (.slice av zs.length cv) zs (some ⟨w4.heap.size,0,none⟩) 0 0 [] []:=
     ⟨o4.below (below_alloc1 _ _),iC.jL (Own.jL w4 24 (Nat.le_refl _)) (fun g hg=>by simp [bk] at hg;simp;omega),⟨by omega,by omega,by simp⟩,B4.trans ((below_alloc1 _ _).mono (by omega))⟩
    generalize w4.alloc (.cells #[] 24)=w5 at *
    have SS:=Lib.hid S0
    clear S0 o4 B4
    go_wp2_with fail
    go_loopw [12,13] (fun ov kv wr=>∃(k m:Nat) (a:Option Addr) (c:Nat) (us:List Value),kv= .int .i64 k∧ov= .slice a m c∧k≤zs.length + 1∧z8 w wr hi w4.heap.size (.slice av zs.length cv) zs a m c us (eV I k)) (fun _ kv _=>zs.length + 1 - (intOf kv).toNat)
    case atStart=>exact ⟨0,0,_,0, [],rfl,rfl,by omega,SS.out⟩
    case round=>
     clear SS
     obtain ⟨k,m,a,c1,us,rfl,rfl,hk,ss⟩:=hrel
     have hz:=ss.lo
     have hm5:m≤zs.length + 1:=by
      have h1:=ss.row.len
      have h2:=qv I k
      omega
     have SS:=Lib.hid ss
     clear ss
     have hcn:IntKind.i64.wrap ((zs.length:Int) + 1)=(zs.length:Int) + 1:=IntWalk.i64_in _ (by omega)
     by_cases hkn:k < zs.length + 1
     ·have hck:IntKind.u64.wrap (k:Int)=(k:Int):=by rw [IntKind.wrap_u64];omega
      have hbt:=yw I (by omega) k
      by_cases hb:I / 2 ^ k % 2=1
      ·have hl:eV I (k + 1)=eV I k ++ [[(k:Int)]]:=by rw [eV,if_pos hb]
       rw [decide_eq_true hb] at hbt
       have HL:=Lib.hid hl
       clear hb hl
       have b2:=Lib.hid (below_alloc1 wr (.cells #[.int .i64 k] 2))
       have o1:Own (wr.alloc (.cells #[.int .i64 k] 2)) wr.heap.size 2 (some ⟨wr.heap.size,0,none⟩) 1 1 ([(k:Int)].map (Value.int .i64)):=ri (us:= [.int .i64 k]) rfl (Nat.le_refl _) (by simp)
       have O1:=Lib.hid o1
       have hV:Af ((wr.alloc (.cells #[.int .i64 k] 2)).alloc (.cells #[.slice (some ⟨wr.heap.size,0,none⟩) 1 1] 24)) (some ⟨wr.heap.size + 1,0,none⟩) 1 [.slice (some ⟨wr.heap.size,0,none⟩) 1 1]:=by
        have:=wI ((fU (w:=wr.alloc (.cells #[.int .i64 k] 2)) (cs:= #[.slice (some ⟨wr.heap.size,0,none⟩) 1 1]) (t:=24) rfl).cell 0)
        simpa using this
       have hO:Own ((wr.alloc (.cells #[.int .i64 k] 2)).alloc (.cells #[.slice (some ⟨wr.heap.size,0,none⟩) 1 1] 24)) w4.heap.size 24 a m c1 us:=((SS.out.row.own).alloc _).alloc _
       have hS:w4.heap.size≤((wr.alloc (.cells #[.int .i64 k] 2)).alloc (.cells #[.slice (some ⟨wr.heap.size,0,none⟩) 1 1] 24)).heap.size:=by simp;omega
       have HV:=Lib.hid hV
       have HO:=Lib.hid hO
       clear hV hO o1
       go_wp2_with (at_builtin;refine nR BF _ rfl _ _ rfl w4.heap.size a m c1 us rfl HO.out (some ⟨wr.heap.size + 1,0,none⟩) 1 1 [.slice (some ⟨wr.heap.size,0,none⟩) 1 1] rfl HV.out (by intro u hu;simp at hu;subst hu;rfl) (by omega) hS ?_;intro ao2 c3 w8 o8 g8 hat)
       have S8:=SS.out.push b2.out O1.out (below_alloc1 _ _) o8 g8 (by simpa using hat)
       rw [←HL.out] at S8
       clear o8 g8 hat HO HV O1 hS SS b2
       go_wp2_with fail
       go_roundw
       case rel=>exact ⟨k + 1,m + 1,ao2,c3,_,by go_num,rfl,by omega,S8⟩
       case measure=>first | (simp [intOf];done) | (simp [intOf];omega)
      ·have hl:eV I (k + 1)=eV I k:=by rw [eV,if_neg hb,List.append_nil]
       rw [decide_eq_false hb] at hbt
       have S8:=SS.out
       rw [←hl] at S8
       clear hb hl
       go_wp2_with fail
       go_roundw
       case rel=>exact ⟨k + 1,m,a,c1,_,by go_num,rfl,by omega,S8⟩
       case measure=>first | (simp [intOf];done) | (simp [intOf];omega)
     ·obtain rfl:k=zs.length + 1:=by omega
      have hcx:sN zs=0:=by unfold sN;rw [if_pos HD.out]
      go_wp2_with fail
      refine (nq _ SS.out.lab.rd).mono ?_
      rintro e w6 ⟨vp,rfl,pp,b6⟩
      rw [hcx]
      obtain ⟨ap,np,cp,rfl⟩:=wU pp
      have S6:=SS.out.mw b6
      have q6:=S6.bel.size
      clear SS b6 hcx
      go_upto_region 21 with (fail)
      have bx:=below_alloc1 w6 (.cells #[.int .i64 (kK zs).1, .slice ap np cp] 32)
      have kb:gF (w6.alloc (.cells #[.int .i64 (kK zs).1, .slice ap np cp] 32)) w6.heap.size 32 #[.int .i64 (kK zs).1, .slice ap np cp]:=fU rfl
      generalize w6.alloc (.cells #[.int .i64 (kK zs).1, .slice ap np cp] 32)=w7 at *
      have S7:=Lib.hid (S6.mw bx)
      have P7:=Lib.hid (pp.below bx)
      clear bx S6 pp
      have x0:=kb.cell 0
      have x1:=kb.cell 1
      simp at x0 x1
      go_wp2_with fail
      refine (pR _ P7.out S7.out.words).mono ?_
      rintro e w8 ⟨rfl,b8⟩
      have S8:=Lib.hid (S7.out.mw b8)
      have P8:=Lib.hid (P7.out.below b8)
      have kb8:=kb.gA b8
      have y0:=kb8.cell 0
      have y1:=kb8.cell 1
      simp at y0 y1
      clear b8 S7 P7 kb x0 x1
      go_wp2_with fail
      refine (qb _ P8.out S8.out.words).mono ?_
      rintro e w9 ⟨rfl,b9⟩
      have B9:=(S8.out.mw b9).bel
      clear b9 S8 P8 kb8 y0 y1
      have hdv:=PA.out.dvd
      have hix:=PA.out.idx
      obtain ⟨C,hC⟩:∃C,nr (kK zs) (eV I (zs.length + 1))=C:=⟨_,rfl⟩
      obtain ⟨R,hR⟩:∃R,nV (kK zs) (eV I (zs.length + 1))=R:=⟨_,rfl⟩
      rw [hC,hR] at hix
      rw [hC,hR]
      clear hC hR
      have g0:((o:Int) == 0)=false:=by simp;omega
      have g1:(wN:Int).tmod o=0:=by
       obtain ⟨q,hq⟩:=hdv
       rw [hq,Int.natCast_mul,Int.mul_tmod_right]
      have g2:(wN:Int) % o=0:=by
       obtain ⟨q,hq⟩:=hdv
       rw [hq,Int.natCast_mul,Int.mul_emod_right]
      have g3:(C != C)=false:=by simp
      clear hdv
      by_cases hC0:C=0
      ·obtain ⟨q,rfl,hq⟩:=hix hC0
       subst hC0
       have hwN:=PA.out.whole
       have hle:(wN:Int)≤1000000000:=by
        rw [←hwN]
        exact yJ HD.out
       have g4:IntKind.i64.wrap ((q:Int) * o)=(wN:Int):=by
        rw [←Int.natCast_mul,hq];exact IntWalk.i64_in _ (by omega)
       clear hwN hq hix g3
       go_wp2
       go_ret
       exact ⟨rfl,B9⟩
      ·have g5:(C != 0)=true:=by simpa using hC0
       clear hix hC0
       go_wp2
       go_ret
       exact ⟨rfl,B9⟩
  ·have hn:lR zs m=0:=by unfold lR;rw [if_neg hC]
   have hc2:(eI zs m != 0)=true:=by simpa using hC
   clear hC HA
   rw [hn]
   clear eo hn
   go_wp2
   go_ret
   exact ⟨rfl,B3⟩
end Go.Proofs.Ytekbhbcgoadciaa
