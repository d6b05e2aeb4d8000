/- The components of a diagram, the reference's: l12Parts. guards: -/
import Derived.Test.YtekbhbcgoadciaaPart4
import Derived.Test.YtekbhbcgoadciaaPart5
import Derived.Test.YtekbhbcgoadciaaPart7
import Derived.Test.YtekbhbcgoadciaaPart6
import Derived.Deep.AppendLies
import Derived.Test.YtekbhbcgoadciaaProg
import Derived.Test.YtekbhbcgoadciaaPart1
namespace Go.Proofs.Ytekbhbcgoadciaa
open Go.RowKit
def dR (ps:dP):List (List Int):=ps.map (·.2)
abbrev jS (ps:dP):Ch:=⟨true,24,1, .rows 2 (bK (dR ps)) []⟩
theorem kA (ps:dP):(dR ps).length=ps.length:=by simp [dR]
theorem mu {ps:dP} {k:Nat} (h:k < ps.length):bu (dR ps) k=(db ps k).2:=by simp [dR,bu,db,h]
theorem kV {ps:dP} {k:Nat} (h:k < ps.length):(bK (dR ps))[k]? =some (aJ (db ps k).2):=by rw [←mu h];exact ar (by rw [kA];exact h)
theorem xd (ps:dP) (k:Nat) (p:Nat×List Int):(bK (dR ps)).set k (aJ p.2)=bK (dR (ps.set k p)):=by
 rw [mR];unfold dR;rw [List.map_set]
set_option maxRecDepth 100000 in
theorem uh (zs:List Int) (L:Nat) (h4:L≤4):FC Try.prog 57 [(1003,de zs)] [o1 (.sl 1003 0 L)] [] (vv (I6 (L + 1:Nat))) []:=by
 have hw:IntKind.i64.wrap ((L:Int) + 1)=((L + 1:Nat):Int):=IntWalk.i64_in _ (by omega)
 refine bc (nt:=6) Try.func57 rfl rfl (by simp) fun w0 ω0=> ?_
 (refine ah ?_;refine ab ?_;apply aa rfl;(exact ag rfl rfl);refine aj ?_;refine ai ?_;refine ah ?_;refine ab ?_;apply aa rfl;(exact ae rfl rfl);apply aa rfl;(exact a8 rfl rfl rfl (by as_aux_lemma=>kernel_rfl));apply aa rfl;(first | exact aR rfl rfl rfl hw | exact di rfl rfl (by as_aux_lemma=>kernel_rfl) (by as_aux_lemma=>kernel_rfl) rfl);apply aa rfl;(exact ag rfl rfl);refine aj ?_;refine ai ?_;refine aW ?_)
 exact bd (.inl rfl) rfl (.tmp rfl) trivial trivial
set_option maxRecDepth 100000 in
set_option maxHeartbeats 2000000 in
theorem sX (zs:List Int) (L mask:Nat) (hL:zs.length=L) (h4:L≤4) (hm:mask < 1000):
  FC Try.prog 58 [(1003,de zs)] [o1 (.sl 1003 0 L),vv (I6 mask)] [(8,jS (comps zs mask))] (o1 (.sl 8 0 (comps zs mask).length)) []:=by
 have hR:=uh zs L h4
 refine bc (nt:=62) Try.func58 rfl rfl (by simp) fun w0 ω0=> ?_
 have hil:L≤(aJ zs).length:=by rw [an,hL];exact Nat.le_refl _
 (refine ah ?_;refine ab ?_;apply aa rfl;(exact ag rfl rfl);refine aj ?_;refine ai ?_;refine ah ?_;refine ab ?_;apply aa rfl;(exact qj (E:=24) (F:=2) rfl (by as_aux_lemma=>kernel_rfl));apply aa rfl;(exact ag rfl rfl);refine aj ?_;refine ai ?_;refine ah ?_;refine ah ?_;refine ab ?_;apply aa rfl;(exact ag rfl rfl);refine aj ?_;refine ai ?_;refine aB ?_)
 refine bl (fun q:Nat×dP=>St.of [(0,o1 (.sl 1003 0 L)),(1,vv (I6 mask)),(5,o1 (.sl 8 0 q.2.length)),(6,vv (I6 q.1))] [(1003,de zs),(8,jS q.2)])
  (fun q=>q.1≤L + 1∧rC zs mask q.1=q.2) (fun q=>L + 1 - q.1) (0, []) ⟨Nat.zero_le _,rfl⟩ (Wk.of ⟨rfl,rfl,rfl,rfl,trivial⟩ ⟨rfl,rfl,trivial⟩ trivial) ?_
 rintro ⟨i,ps⟩ ⟨hi,hp⟩
 dsimp only at hi hp ⊢
 have hps:=rq zs mask i (by omega)
 have hnx:=px zs mask i
 rw [hp] at hps hnx
 have hpl:ps.length≤5:=by have:=iu ps;have:=hps.sum;omega
 have hrx:=kA ps
 (refine ah ?_;refine ah ?_;refine ab ?_;apply aa rfl;(exact ae rfl rfl);apply aa rfl;(exact ae rfl rfl);apply aa rfl;(apply ak 57;exact aq hR (by as_aux_lemma=>kernel_rfl) rfl rfl ⟨rfl,trivial⟩ ⟨⟨_,rfl, .inl rfl⟩,trivial⟩ rfl rfl);apply aa rfl;(exact aD rfl rfl rfl rfl);refine aj ?_;refine ai ?_)
 refine bF rfl (fun hlt=> ?_) (fun hlt=> ?_)
 ·have hiL:i≤L:=by omega
  have hi64:i≤64:=by omega
  have hmm:mask < 1000000:=by omega
  have hcv:IntKind.u64.wrap (i:Int)=(i:Int):=by rw [IntKind.wrap_u64];omega
  (refine aI ?_;refine ai ?_;refine ah ?_;refine aB ?_;refine ah ?_;refine ah ?_;refine ab ?_;apply aa rfl;(exact ae rfl rfl);apply aa rfl;(exact ae rfl rfl);apply aa rfl;(first | exact di rfl rfl (by as_aux_lemma=>kernel_rfl) (by as_aux_lemma=>kernel_rfl) hcv | exact ep (g:=i) rfl rfl rfl hi64 | exact fg rfl rfl hmm | exact fj rfl rfl);apply aa rfl;(first | exact di rfl rfl (by as_aux_lemma=>kernel_rfl) (by as_aux_lemma=>kernel_rfl) hcv | exact ep (g:=i) rfl rfl rfl hi64 | exact fg rfl rfl hmm | exact fj rfl rfl);apply aa rfl;(first | exact di rfl rfl (by as_aux_lemma=>kernel_rfl) (by as_aux_lemma=>kernel_rfl) hcv | exact ep (g:=i) rfl rfl rfl hi64 | exact fg rfl rfl hmm | exact fj rfl rfl);apply aa rfl;(first | exact di rfl rfl (by as_aux_lemma=>kernel_rfl) (by as_aux_lemma=>kernel_rfl) hcv | exact ep (g:=i) rfl rfl rfl hi64 | exact fg rfl rfl hmm | exact fj rfl rfl);refine aj ?_;refine ai ?_)
  refine au rfl (fun hb=> ?_) (fun hb=> ?_)
  ·have hb:k7 mask i=false:=by simpa using hb
   have hv:rC zs mask (i + 1)=ps:=by rw [hnx];unfold oW;rw [if_neg (by rw [hb];simp)]
   (refine a5 ?_;refine ax ?_;refine aM ?_;refine ai ?_;refine ab ?_;apply aa rfl;(exact ae rfl rfl);apply aa rfl;(exact aR rfl rfl rfl (by first | exact IntWalk.i64_in _ (by omega) | rfl));apply aa rfl;(exact ag rfl rfl);refine aj ?_)
   exact aX (i + 1,ps) ⟨by omega,hv⟩ (by show L + 1 - (i + 1) < L + 1 - i;omega) (Wk.of ⟨rfl,rfl,rfl,rfl,trivial⟩ ⟨rfl,rfl,trivial⟩ trivial)
  ·have hb:k7 mask i=true:=by simpa using hb
   unfold oW at hnx
   rw [if_pos hb] at hnx
   (repeat (first | refine ah ?_ | refine ai ?_ | refine aI ?_ | refine aB ?_ | refine aK ?_ | refine a5 ?_ | refine aM ?_ | refine bZ rfl ?_ | refine ax ?_))
   refine cg (St.of [(0,o1 (.sl 1003 0 L)),(1,vv (I6 mask)),(5,o1 (.sl 8 0 ps.length)),(6,vv (I6 i)),(39,vv (.bool (jn zs mask i)))] [(1003,de zs),(8,jS ps)]) ?_ ?_
   ·refine ab ?_
    (apply aa rfl;(exact ae rfl rfl);apply aa rfl;(exact aD rfl rfl rfl rfl);apply aa rfl;(exact ae rfl rfl))
    refine bH 23 rfl (fun h1=> ?_) (fun h1=> ?_)
    ·have hi0:0 < i:=by have:=of_decide_eq_true h1;omega
     have hsb:IntKind.i64.wrap ((i:Int) - 1)=((i - 1:Nat):Int):=(IntWalk.i64_in _ (by omega)).trans (by omega)
     have hcv1:IntKind.u64.wrap ((i - 1:Nat):Int)=((i - 1:Nat):Int):=by rw [IntKind.wrap_u64];omega
     have hi64':i - 1≤64:=by omega
     (apply aH rfl rfl rfl;(exact ae rfl rfl);apply aH rfl rfl rfl;(exact ae rfl rfl);apply aH rfl rfl rfl;(first | exact bJ rfl rfl rfl hsb | exact di rfl rfl (by as_aux_lemma=>kernel_rfl) (by as_aux_lemma=>kernel_rfl) hcv1 | exact ep (g:=i - 1) rfl rfl rfl hi64' | exact fg rfl rfl hmm | exact iX rfl rfl);apply aH rfl rfl rfl;(first | exact bJ rfl rfl rfl hsb | exact di rfl rfl (by as_aux_lemma=>kernel_rfl) (by as_aux_lemma=>kernel_rfl) hcv1 | exact ep (g:=i - 1) rfl rfl rfl hi64' | exact fg rfl rfl hmm | exact iX rfl rfl);apply aH rfl rfl rfl;(first | exact bJ rfl rfl rfl hsb | exact di rfl rfl (by as_aux_lemma=>kernel_rfl) (by as_aux_lemma=>kernel_rfl) hcv1 | exact ep (g:=i - 1) rfl rfl rfl hi64' | exact fg rfl rfl hmm | exact iX rfl rfl);apply aH rfl rfl rfl;(first | exact bJ rfl rfl rfl hsb | exact di rfl rfl (by as_aux_lemma=>kernel_rfl) (by as_aux_lemma=>kernel_rfl) hcv1 | exact ep (g:=i - 1) rfl rfl rfl hi64' | exact fg rfl rfl hmm | exact iX rfl rfl);apply aH rfl rfl rfl;(first | exact bJ rfl rfl rfl hsb | exact di rfl rfl (by as_aux_lemma=>kernel_rfl) (by as_aux_lemma=>kernel_rfl) hcv1 | exact ep (g:=i - 1) rfl rfl rfl hi64' | exact fg rfl rfl hmm | exact iX rfl rfl);apply aa rfl;(exact bf rfl rfl rfl);apply aa rfl;(exact ae rfl rfl))
     refine bH 32 rfl (fun h2=> ?_) (fun h2=> ?_)
     ·have gz:(aJ zs)[i - 1]? =some (I6 (aC zs (i - 1))):=al (by omega)
      have hv:jn zs mask i=(aC zs (i - 1) != 2):=by unfold jn;rw [decide_eq_true hi0,h2];rfl
      rw [hv]
      (apply aH rfl rfl rfl;(exact ae rfl rfl);apply aH rfl rfl rfl;(exact ae rfl rfl);apply aH rfl rfl rfl;(first | exact bJ rfl rfl rfl hsb | exact aU (j:=i - 1) rfl rfl rfl rfl rfl (by as_aux_lemma=>kernel_rfl) rfl (by omega) hil | exact a7 rfl (by as_aux_lemma=>kernel_rfl) rfl rfl rfl gz);apply aH rfl rfl rfl;(first | exact bJ rfl rfl rfl hsb | exact aU (j:=i - 1) rfl rfl rfl rfl rfl (by as_aux_lemma=>kernel_rfl) rfl (by omega) hil | exact a7 rfl (by as_aux_lemma=>kernel_rfl) rfl rfl rfl gz);apply aH rfl rfl rfl;(first | exact bJ rfl rfl rfl hsb | exact aU (j:=i - 1) rfl rfl rfl rfl rfl (by as_aux_lemma=>kernel_rfl) rfl (by omega) hil | exact a7 rfl (by as_aux_lemma=>kernel_rfl) rfl rfl rfl gz);apply aH rfl rfl rfl;(exact aD rfl rfl rfl rfl);apply aa rfl;(exact bf rfl rfl rfl);refine aj ?_)
      exact aL (Wk.of ⟨rfl,rfl,rfl,rfl,rfl,trivial⟩ ⟨rfl,rfl,trivial⟩ trivial)
     ·have hv:jn zs mask i=false:=by unfold jn;rw [h2];simp
      rw [hv]
      (apply aG rfl rfl rfl rfl rfl;apply aG rfl rfl rfl rfl rfl;apply aG rfl rfl rfl rfl rfl;apply aG rfl rfl rfl rfl rfl;apply aG rfl rfl rfl rfl rfl;apply aG rfl rfl rfl rfl rfl;apply aa rfl;(exact br rfl rfl rfl);refine aj ?_)
      exact aL (Wk.of ⟨rfl,rfl,rfl,rfl,rfl,trivial⟩ ⟨rfl,rfl,trivial⟩ trivial)
    ·have hv:jn zs mask i=false:=by
      have:¬0 < i:=by have:=of_decide_eq_false h1;omega
      unfold jn;rw [decide_eq_false this];rfl
     rw [hv]
     (apply aG rfl rfl rfl rfl rfl;apply aG rfl rfl rfl rfl rfl;apply aG rfl rfl rfl rfl rfl;apply aG rfl rfl rfl rfl rfl;apply aG rfl rfl rfl rfl rfl;apply aG rfl rfl rfl rfl rfl;apply aG rfl rfl rfl rfl rfl;apply aa rfl;(exact br rfl rfl rfl);apply aa rfl;(exact ae rfl rfl);apply aG rfl rfl rfl rfl rfl;apply aG rfl rfl rfl rfl rfl;apply aG rfl rfl rfl rfl rfl;apply aG rfl rfl rfl rfl rfl;apply aG rfl rfl rfl rfl rfl;apply aG rfl rfl rfl rfl rfl;apply aa rfl;(exact br rfl rfl rfl);refine aj ?_)
     exact aL (Wk.of ⟨rfl,rfl,rfl,rfl,rfl,trivial⟩ ⟨rfl,rfl,trivial⟩ trivial)
   (refine ai ?_)
   refine au rfl (fun hjb=> ?_) (fun hjb=> ?_)
   ·have hjs:=r9 hjb
    have hne:=hps.ne hjs.1 hjs.2.1
    obtain ⟨j,hjl⟩:∃j,ps.length=j + 1:=⟨ps.length - 1,by omega⟩
    have hjp:j < ps.length:=by omega
    have hv:rC zs mask (i + 1)=ps.set j ((db ps j).1 ||| 2 ^ i,(db ps j).2 ++ [aC zs (i - 1)]):=by
     rw [hnx,if_pos hjb];unfold vJ;rw [show ps.length - 1=j by omega]
    have hsub:IntKind.i64.wrap ((ps.length:Int) - 1)=(j:Int):=by rw [hjl];exact (IntWalk.i64_in _ (by omega)).trans (by omega)
    have hrj:=kV hjp
    have hllt:=nD (kr hjp)
    have hsum:=hps.sum
    have hfin0:=xd ps j ((db ps j).1 ||| 2 ^ i,(db ps j).2 ++ [aC zs (i - 1)])
    generalize (db ps j).1=m at *
    generalize (db ps j).2=labs at *
    have hmj:(aJ labs).length=labs.length:=an _
    have gz:(aJ zs)[i - 1]? =some (I6 (aC zs (i - 1))):=al (by omega)
    have hsb:IntKind.i64.wrap ((i:Int) - 1)=((i - 1:Nat):Int):=(IntWalk.i64_in _ (by omega)).trans (by omega)
    have hi1L:i - 1 < L:=by omega
    have hrl:ps.length≤(bK (dR ps)).length:=by rw [aw,hrx];exact Nat.le_refl _
    have hjl2:j < (bK (dR ps)).length:=by omega
    have hvl:(aJ (labs ++ [aC zs (i - 1)])).length=labs.length + 1:=by rw [an];simp
    have hfin:(bK (dR ps)).set j (aJ (labs ++ [aC zs (i - 1)]))=bK (dR (ps.set j (m ||| 2 ^ i,labs ++ [aC zs (i - 1)]))):=hfin0
    (refine ah ?_;refine ab ?_;apply aa rfl;(exact ae rfl rfl);apply aa rfl;(exact a8 rfl rfl rfl (by as_aux_lemma=>kernel_rfl));apply aa rfl;(exact bJ rfl rfl rfl hsub);apply aa rfl;(exact ag rfl rfl);refine aj ?_;refine ai ?_;refine ah ?_)
    refine cg (St.of [(0,o1 (.sl 1003 0 L)),(1,vv (I6 mask)),(5,o1 (.sl 8 0 ps.length)),(6,vv (I6 i))] [(1003,de zs),(8,jS (ps.set j (m ||| 2 ^ i,labs ++ [aC zs (i - 1)])))]) ?_ ?_
    ·apply lz 12 [] [0,1] [[], [], [], [], [2,3], [2,3,4], [], [], [7], [6,7,8], [6,7,8,9], [6,7,8,9,10], [2,3,4,5,6,7,8,9,10,11], [0,1,2,3,4,5,6,7,8,9,10,11,12], [0,1,2,3,4,5,6,7,8,9,10,11,12,13]] [43,44,45,46,47,48,49,50,51,52,53,54] [54] (by kernel_rfl) (by kernel_rfl) (by kernel_rfl)
     ·(apply aF rfl;(intro S1 hS;exact ae rfl (hS.op rfl));apply aF rfl;(intro S1 hS;exact ae rfl (hS.op rfl));apply aF rfl;(intro S1 hS;exact ae rfl (hS.op rfl));apply aF rfl;(intro S1 hS;exact ae rfl (hS.op rfl));(first | (apply aF rfl;(focus (intro S1 hS;exact aU (j:=j) rfl (hS.op rfl) (hS.op rfl) (hS.ch _ _ rfl) rfl (by as_aux_lemma=>kernel_rfl) rfl hjp hrl))) | (apply aF rfl;(focus (intro S1 hS;exact bo rfl (by as_aux_lemma=>kernel_rfl) (hS.op rfl) (hS.ch _ _ rfl) rfl hrj hmj))) | (apply aF rfl;(focus (intro S1 hS;exact bJ rfl (hS.op rfl) (hS.op rfl) hsb))) | (apply aF rfl;(focus (intro S1 hS;exact aU (j:=i - 1) rfl (hS.op rfl) (hS.op rfl) (hS.ch _ _ rfl) rfl (by as_aux_lemma=>kernel_rfl) rfl hi1L hil))) | (apply aF rfl;(focus (intro S1 hS;exact a7 rfl (by as_aux_lemma=>kernel_rfl) (hS.op rfl) (hS.ch _ _ rfl) rfl gz))));(first | (apply aF rfl;(focus (intro S1 hS;exact aU (j:=j) rfl (hS.op rfl) (hS.op rfl) (hS.ch _ _ rfl) rfl (by as_aux_lemma=>kernel_rfl) rfl hjp hrl))) | (apply aF rfl;(focus (intro S1 hS;exact bo rfl (by as_aux_lemma=>kernel_rfl) (hS.op rfl) (hS.ch _ _ rfl) rfl hrj hmj))) | (apply aF rfl;(focus (intro S1 hS;exact bJ rfl (hS.op rfl) (hS.op rfl) hsb))) | (apply aF rfl;(focus (intro S1 hS;exact aU (j:=i - 1) rfl (hS.op rfl) (hS.op rfl) (hS.ch _ _ rfl) rfl (by as_aux_lemma=>kernel_rfl) rfl hi1L hil))) | (apply aF rfl;(focus (intro S1 hS;exact a7 rfl (by as_aux_lemma=>kernel_rfl) (hS.op rfl) (hS.ch _ _ rfl) rfl gz))));apply aF rfl;(intro S1 hS;exact ae rfl (hS.op rfl));apply aF rfl;(intro S1 hS;exact ae rfl (hS.op rfl));(first | (apply aF rfl;(focus (intro S1 hS;exact aU (j:=j) rfl (hS.op rfl) (hS.op rfl) (hS.ch _ _ rfl) rfl (by as_aux_lemma=>kernel_rfl) rfl hjp hrl))) | (apply aF rfl;(focus (intro S1 hS;exact bo rfl (by as_aux_lemma=>kernel_rfl) (hS.op rfl) (hS.ch _ _ rfl) rfl hrj hmj))) | (apply aF rfl;(focus (intro S1 hS;exact bJ rfl (hS.op rfl) (hS.op rfl) hsb))) | (apply aF rfl;(focus (intro S1 hS;exact aU (j:=i - 1) rfl (hS.op rfl) (hS.op rfl) (hS.ch _ _ rfl) rfl (by as_aux_lemma=>kernel_rfl) rfl hi1L hil))) | (apply aF rfl;(focus (intro S1 hS;exact a7 rfl (by as_aux_lemma=>kernel_rfl) (hS.op rfl) (hS.ch _ _ rfl) rfl gz))));(first | (apply aF rfl;(focus (intro S1 hS;exact aU (j:=j) rfl (hS.op rfl) (hS.op rfl) (hS.ch _ _ rfl) rfl (by as_aux_lemma=>kernel_rfl) rfl hjp hrl))) | (apply aF rfl;(focus (intro S1 hS;exact bo rfl (by as_aux_lemma=>kernel_rfl) (hS.op rfl) (hS.ch _ _ rfl) rfl hrj hmj))) | (apply aF rfl;(focus (intro S1 hS;exact bJ rfl (hS.op rfl) (hS.op rfl) hsb))) | (apply aF rfl;(focus (intro S1 hS;exact aU (j:=i - 1) rfl (hS.op rfl) (hS.op rfl) (hS.ch _ _ rfl) rfl (by as_aux_lemma=>kernel_rfl) rfl hi1L hil))) | (apply aF rfl;(focus (intro S1 hS;exact a7 rfl (by as_aux_lemma=>kernel_rfl) (hS.op rfl) (hS.ch _ _ rfl) rfl gz))));(first | (apply aF rfl;(focus (intro S1 hS;exact aU (j:=j) rfl (hS.op rfl) (hS.op rfl) (hS.ch _ _ rfl) rfl (by as_aux_lemma=>kernel_rfl) rfl hjp hrl))) | (apply aF rfl;(focus (intro S1 hS;exact bo rfl (by as_aux_lemma=>kernel_rfl) (hS.op rfl) (hS.ch _ _ rfl) rfl hrj hmj))) | (apply aF rfl;(focus (intro S1 hS;exact bJ rfl (hS.op rfl) (hS.op rfl) hsb))) | (apply aF rfl;(focus (intro S1 hS;exact aU (j:=i - 1) rfl (hS.op rfl) (hS.op rfl) (hS.ch _ _ rfl) rfl (by as_aux_lemma=>kernel_rfl) rfl hi1L hil))) | (apply aF rfl;(focus (intro S1 hS;exact a7 rfl (by as_aux_lemma=>kernel_rfl) (hS.op rfl) (hS.ch _ _ rfl) rfl gz))));apply fJ rfl;(intro S1 hS;exact bM (E:=2) rfl (by as_aux_lemma=>kernel_rfl) (hS.op rfl));exact ey.nil)
     ·rfl
     ·refine ⟨⟨?_, ?_⟩, ?_, ?_⟩
      ·refine c7 (St.of [(0,o1 (.sl 1003 0 L)),(1,vv (I6 mask)),(5,o1 (.sl 8 0 ps.length)),(6,vv (I6 i))] [(1003,de zs),(8,jS (ps.set j (m ||| 2 ^ i,labs ++ [aC zs (i - 1)])))]) ?_ ?_
       ·((apply aA 12 rfl (by as_aux_lemma=>kernel_rfl) rfl rfl;((first | exact bQ.pre (bC (n:=8) (z:=55) (s:=48) rfl rfl hrj hmj rfl) (bg rfl (by as_aux_lemma=>kernel_rfl) rfl rfl rfl rfl rfl rfl (by omega)) | exact aU (j:=j) rfl rfl rfl rfl rfl (by as_aux_lemma=>kernel_rfl) rfl hjp hrl | exact bn rfl rfl (by simp) rfl rfl hvl rfl hjl2 (by as_aux_lemma=>kernel_rfl))));(apply aA 13 rfl (by as_aux_lemma=>kernel_rfl) rfl rfl;((first | exact bQ.pre (bC (n:=8) (z:=55) (s:=48) rfl rfl hrj hmj rfl) (bg rfl (by as_aux_lemma=>kernel_rfl) rfl rfl rfl rfl rfl rfl (by omega)) | exact aU (j:=j) rfl rfl rfl rfl rfl (by as_aux_lemma=>kernel_rfl) rfl hjp hrl | exact bn rfl rfl (by simp) rfl rfl hvl rfl hjl2 (by as_aux_lemma=>kernel_rfl))));(apply aA 14 rfl (by as_aux_lemma=>kernel_rfl) rfl rfl;((first | exact bQ.pre (bC (n:=8) (z:=55) (s:=48) rfl rfl hrj hmj rfl) (bg rfl (by as_aux_lemma=>kernel_rfl) rfl rfl rfl rfl rfl rfl (by omega)) | exact aU (j:=j) rfl rfl rfl rfl rfl (by as_aux_lemma=>kernel_rfl) rfl hjp hrl | exact bn rfl rfl (by simp) rfl rfl hvl rfl hjl2 (by as_aux_lemma=>kernel_rfl))));(refine aY (by as_aux_lemma=>kernel_rfl) ?_;exact aL (Wk.of ⟨rfl,rfl,rfl,rfl,trivial⟩ ⟨rfl,congrArg (fun l=>some (⟨true,24,1, .rows 2 l []⟩:Ch)) hfin,trivial⟩ trivial)))
       ·(skip)
        exact aL (Wk.of ⟨rfl,rfl,rfl,rfl,trivial⟩ ⟨rfl,rfl,trivial⟩ trivial)
      ·refine c7 (St.of [(0,o1 (.sl 1003 0 L)),(1,vv (I6 mask)),(5,o1 (.sl 8 0 ps.length)),(6,vv (I6 i))] [(1003,de zs),(8,jS (ps.set j (m ||| 2 ^ i,labs ++ [aC zs (i - 1)])))]) ?_ ?_
       ·((apply bL 1 12 rfl (by as_aux_lemma=>kernel_rfl) rfl rfl rfl rfl;(exact ae rfl rfl);((first | exact bQ.pre (bC (n:=8) (z:=55) (s:=48) rfl rfl hrj hmj rfl) (bg rfl (by as_aux_lemma=>kernel_rfl) rfl rfl rfl rfl rfl rfl (by omega)) | exact aU (j:=j) rfl rfl rfl rfl rfl (by as_aux_lemma=>kernel_rfl) rfl hjp hrl | exact bn rfl rfl (by simp) rfl rfl hvl rfl hjl2 (by as_aux_lemma=>kernel_rfl)));(focus ((apply aA 12 rfl (by as_aux_lemma=>kernel_rfl) rfl rfl;((first | exact bQ.pre (bC (n:=8) (z:=55) (s:=48) rfl rfl hrj hmj rfl) (bg rfl (by as_aux_lemma=>kernel_rfl) rfl rfl rfl rfl rfl rfl (by omega)) | exact aU (j:=j) rfl rfl rfl rfl rfl (by as_aux_lemma=>kernel_rfl) rfl hjp hrl | exact bn rfl rfl (by simp) rfl rfl hvl rfl hjl2 (by as_aux_lemma=>kernel_rfl))));(apply aA 13 rfl (by as_aux_lemma=>kernel_rfl) rfl rfl;((first | exact bQ.pre (bC (n:=8) (z:=55) (s:=48) rfl rfl hrj hmj rfl) (bg rfl (by as_aux_lemma=>kernel_rfl) rfl rfl rfl rfl rfl rfl (by omega)) | exact aU (j:=j) rfl rfl rfl rfl rfl (by as_aux_lemma=>kernel_rfl) rfl hjp hrl | exact bn rfl rfl (by simp) rfl rfl hvl rfl hjl2 (by as_aux_lemma=>kernel_rfl))));(apply aA 14 rfl (by as_aux_lemma=>kernel_rfl) rfl rfl;((first | exact bQ.pre (bC (n:=8) (z:=55) (s:=48) rfl rfl hrj hmj rfl) (bg rfl (by as_aux_lemma=>kernel_rfl) rfl rfl rfl rfl rfl rfl (by omega)) | exact aU (j:=j) rfl rfl rfl rfl rfl (by as_aux_lemma=>kernel_rfl) rfl hjp hrl | exact bn rfl rfl (by simp) rfl rfl hvl rfl hjl2 (by as_aux_lemma=>kernel_rfl))));(refine aY (by as_aux_lemma=>kernel_rfl) ?_;exact aL (Wk.of ⟨rfl,rfl,rfl,rfl,trivial⟩ ⟨rfl,congrArg (fun l=>some (⟨true,24,1, .rows 2 l []⟩:Ch)) hfin,trivial⟩ trivial))));(focus ((apply aA 1 rfl (by as_aux_lemma=>kernel_rfl) rfl rfl;(exact ae rfl rfl));(apply aA 13 rfl (by as_aux_lemma=>kernel_rfl) rfl rfl;((first | exact bQ.pre (bC (n:=8) (z:=55) (s:=48) rfl rfl hrj hmj rfl) (bg rfl (by as_aux_lemma=>kernel_rfl) rfl rfl rfl rfl rfl rfl (by omega)) | exact aU (j:=j) rfl rfl rfl rfl rfl (by as_aux_lemma=>kernel_rfl) rfl hjp hrl | exact bn rfl rfl (by simp) rfl rfl hvl rfl hjl2 (by as_aux_lemma=>kernel_rfl))));(apply aA 14 rfl (by as_aux_lemma=>kernel_rfl) rfl rfl;((first | exact bQ.pre (bC (n:=8) (z:=55) (s:=48) rfl rfl hrj hmj rfl) (bg rfl (by as_aux_lemma=>kernel_rfl) rfl rfl rfl rfl rfl rfl (by omega)) | exact aU (j:=j) rfl rfl rfl rfl rfl (by as_aux_lemma=>kernel_rfl) rfl hjp hrl | exact bn rfl rfl (by simp) rfl rfl hvl rfl hjl2 (by as_aux_lemma=>kernel_rfl))));(refine aY (by as_aux_lemma=>kernel_rfl) ?_;exact aL (Wk.of ⟨rfl,rfl,rfl,rfl,trivial⟩ ⟨rfl,congrArg (fun l=>some (⟨true,24,1, .rows 2 l []⟩:Ch)) hfin,trivial⟩ trivial))))))
       ·(skip)
        exact aL (Wk.of ⟨rfl,rfl,rfl,rfl,trivial⟩ ⟨rfl,rfl,trivial⟩ trivial)
      ·refine c7 (St.of [(0,o1 (.sl 1003 0 L)),(1,vv (I6 mask)),(5,o1 (.sl 8 0 ps.length)),(6,vv (I6 i))] [(1003,de zs),(8,jS (ps.set j (m ||| 2 ^ i,labs ++ [aC zs (i - 1)])))]) ?_ ?_
       ·((apply bL 0 12 rfl (by as_aux_lemma=>kernel_rfl) rfl rfl rfl rfl;(exact ae rfl rfl);((first | exact bQ.pre (bC (n:=8) (z:=55) (s:=48) rfl rfl hrj hmj rfl) (bg rfl (by as_aux_lemma=>kernel_rfl) rfl rfl rfl rfl rfl rfl (by omega)) | exact aU (j:=j) rfl rfl rfl rfl rfl (by as_aux_lemma=>kernel_rfl) rfl hjp hrl | exact bn rfl rfl (by simp) rfl rfl hvl rfl hjl2 (by as_aux_lemma=>kernel_rfl)));(focus ((apply aA 12 rfl (by as_aux_lemma=>kernel_rfl) rfl rfl;((first | exact bQ.pre (bC (n:=8) (z:=55) (s:=48) rfl rfl hrj hmj rfl) (bg rfl (by as_aux_lemma=>kernel_rfl) rfl rfl rfl rfl rfl rfl (by omega)) | exact aU (j:=j) rfl rfl rfl rfl rfl (by as_aux_lemma=>kernel_rfl) rfl hjp hrl | exact bn rfl rfl (by simp) rfl rfl hvl rfl hjl2 (by as_aux_lemma=>kernel_rfl))));(apply aA 13 rfl (by as_aux_lemma=>kernel_rfl) rfl rfl;((first | exact bQ.pre (bC (n:=8) (z:=55) (s:=48) rfl rfl hrj hmj rfl) (bg rfl (by as_aux_lemma=>kernel_rfl) rfl rfl rfl rfl rfl rfl (by omega)) | exact aU (j:=j) rfl rfl rfl rfl rfl (by as_aux_lemma=>kernel_rfl) rfl hjp hrl | exact bn rfl rfl (by simp) rfl rfl hvl rfl hjl2 (by as_aux_lemma=>kernel_rfl))));(apply aA 14 rfl (by as_aux_lemma=>kernel_rfl) rfl rfl;((first | exact bQ.pre (bC (n:=8) (z:=55) (s:=48) rfl rfl hrj hmj rfl) (bg rfl (by as_aux_lemma=>kernel_rfl) rfl rfl rfl rfl rfl rfl (by omega)) | exact aU (j:=j) rfl rfl rfl rfl rfl (by as_aux_lemma=>kernel_rfl) rfl hjp hrl | exact bn rfl rfl (by simp) rfl rfl hvl rfl hjl2 (by as_aux_lemma=>kernel_rfl))));(refine aY (by as_aux_lemma=>kernel_rfl) ?_;exact aL (Wk.of ⟨rfl,rfl,rfl,rfl,trivial⟩ ⟨rfl,congrArg (fun l=>some (⟨true,24,1, .rows 2 l []⟩:Ch)) hfin,trivial⟩ trivial))));(focus ((apply aA 0 rfl (by as_aux_lemma=>kernel_rfl) rfl rfl;(exact ae rfl rfl));(apply aA 13 rfl (by as_aux_lemma=>kernel_rfl) rfl rfl;((first | exact bQ.pre (bC (n:=8) (z:=55) (s:=48) rfl rfl hrj hmj rfl) (bg rfl (by as_aux_lemma=>kernel_rfl) rfl rfl rfl rfl rfl rfl (by omega)) | exact aU (j:=j) rfl rfl rfl rfl rfl (by as_aux_lemma=>kernel_rfl) rfl hjp hrl | exact bn rfl rfl (by simp) rfl rfl hvl rfl hjl2 (by as_aux_lemma=>kernel_rfl))));(apply aA 14 rfl (by as_aux_lemma=>kernel_rfl) rfl rfl;((first | exact bQ.pre (bC (n:=8) (z:=55) (s:=48) rfl rfl hrj hmj rfl) (bg rfl (by as_aux_lemma=>kernel_rfl) rfl rfl rfl rfl rfl rfl (by omega)) | exact aU (j:=j) rfl rfl rfl rfl rfl (by as_aux_lemma=>kernel_rfl) rfl hjp hrl | exact bn rfl rfl (by simp) rfl rfl hvl rfl hjl2 (by as_aux_lemma=>kernel_rfl))));(refine aY (by as_aux_lemma=>kernel_rfl) ?_;exact aL (Wk.of ⟨rfl,rfl,rfl,rfl,trivial⟩ ⟨rfl,congrArg (fun l=>some (⟨true,24,1, .rows 2 l []⟩:Ch)) hfin,trivial⟩ trivial))))))
       ·(skip)
        exact aL (Wk.of ⟨rfl,rfl,rfl,rfl,trivial⟩ ⟨rfl,rfl,trivial⟩ trivial)
      ·refine c7 (St.of [(0,o1 (.sl 1003 0 L)),(1,vv (I6 mask)),(5,o1 (.sl 8 0 ps.length)),(6,vv (I6 i))] [(1003,de zs),(8,jS (ps.set j (m ||| 2 ^ i,labs ++ [aC zs (i - 1)])))]) ?_ ?_
       ·((apply jO 0 1 12 rfl (by as_aux_lemma=>kernel_rfl) rfl rfl rfl rfl rfl rfl;(exact ae rfl rfl);(exact ae rfl rfl);((first | exact bQ.pre (bC (n:=8) (z:=55) (s:=48) rfl rfl hrj hmj rfl) (bg rfl (by as_aux_lemma=>kernel_rfl) rfl rfl rfl rfl rfl rfl (by omega)) | exact aU (j:=j) rfl rfl rfl rfl rfl (by as_aux_lemma=>kernel_rfl) rfl hjp hrl | exact bn rfl rfl (by simp) rfl rfl hvl rfl hjl2 (by as_aux_lemma=>kernel_rfl)));(focus ((apply bL 1 12 rfl (by as_aux_lemma=>kernel_rfl) rfl rfl rfl rfl;(exact ae rfl rfl);((first | exact bQ.pre (bC (n:=8) (z:=55) (s:=48) rfl rfl hrj hmj rfl) (bg rfl (by as_aux_lemma=>kernel_rfl) rfl rfl rfl rfl rfl rfl (by omega)) | exact aU (j:=j) rfl rfl rfl rfl rfl (by as_aux_lemma=>kernel_rfl) rfl hjp hrl | exact bn rfl rfl (by simp) rfl rfl hvl rfl hjl2 (by as_aux_lemma=>kernel_rfl)));(focus ((apply aA 12 rfl (by as_aux_lemma=>kernel_rfl) rfl rfl;((first | exact bQ.pre (bC (n:=8) (z:=55) (s:=48) rfl rfl hrj hmj rfl) (bg rfl (by as_aux_lemma=>kernel_rfl) rfl rfl rfl rfl rfl rfl (by omega)) | exact aU (j:=j) rfl rfl rfl rfl rfl (by as_aux_lemma=>kernel_rfl) rfl hjp hrl | exact bn rfl rfl (by simp) rfl rfl hvl rfl hjl2 (by as_aux_lemma=>kernel_rfl))));(apply aA 13 rfl (by as_aux_lemma=>kernel_rfl) rfl rfl;((first | exact bQ.pre (bC (n:=8) (z:=55) (s:=48) rfl rfl hrj hmj rfl) (bg rfl (by as_aux_lemma=>kernel_rfl) rfl rfl rfl rfl rfl rfl (by omega)) | exact aU (j:=j) rfl rfl rfl rfl rfl (by as_aux_lemma=>kernel_rfl) rfl hjp hrl | exact bn rfl rfl (by simp) rfl rfl hvl rfl hjl2 (by as_aux_lemma=>kernel_rfl))));(apply aA 14 rfl (by as_aux_lemma=>kernel_rfl) rfl rfl;((first | exact bQ.pre (bC (n:=8) (z:=55) (s:=48) rfl rfl hrj hmj rfl) (bg rfl (by as_aux_lemma=>kernel_rfl) rfl rfl rfl rfl rfl rfl (by omega)) | exact aU (j:=j) rfl rfl rfl rfl rfl (by as_aux_lemma=>kernel_rfl) rfl hjp hrl | exact bn rfl rfl (by simp) rfl rfl hvl rfl hjl2 (by as_aux_lemma=>kernel_rfl))));(refine aY (by as_aux_lemma=>kernel_rfl) ?_;exact aL (Wk.of ⟨rfl,rfl,rfl,rfl,trivial⟩ ⟨rfl,congrArg (fun l=>some (⟨true,24,1, .rows 2 l []⟩:Ch)) hfin,trivial⟩ trivial))));(focus ((apply aA 1 rfl (by as_aux_lemma=>kernel_rfl) rfl rfl;(exact ae rfl rfl));(apply aA 13 rfl (by as_aux_lemma=>kernel_rfl) rfl rfl;((first | exact bQ.pre (bC (n:=8) (z:=55) (s:=48) rfl rfl hrj hmj rfl) (bg rfl (by as_aux_lemma=>kernel_rfl) rfl rfl rfl rfl rfl rfl (by omega)) | exact aU (j:=j) rfl rfl rfl rfl rfl (by as_aux_lemma=>kernel_rfl) rfl hjp hrl | exact bn rfl rfl (by simp) rfl rfl hvl rfl hjl2 (by as_aux_lemma=>kernel_rfl))));(apply aA 14 rfl (by as_aux_lemma=>kernel_rfl) rfl rfl;((first | exact bQ.pre (bC (n:=8) (z:=55) (s:=48) rfl rfl hrj hmj rfl) (bg rfl (by as_aux_lemma=>kernel_rfl) rfl rfl rfl rfl rfl rfl (by omega)) | exact aU (j:=j) rfl rfl rfl rfl rfl (by as_aux_lemma=>kernel_rfl) rfl hjp hrl | exact bn rfl rfl (by simp) rfl rfl hvl rfl hjl2 (by as_aux_lemma=>kernel_rfl))));(refine aY (by as_aux_lemma=>kernel_rfl) ?_;exact aL (Wk.of ⟨rfl,rfl,rfl,rfl,trivial⟩ ⟨rfl,congrArg (fun l=>some (⟨true,24,1, .rows 2 l []⟩:Ch)) hfin,trivial⟩ trivial)))))));(focus ((apply bL 0 12 rfl (by as_aux_lemma=>kernel_rfl) rfl rfl rfl rfl;(exact ae rfl rfl);((first | exact bQ.pre (bC (n:=8) (z:=55) (s:=48) rfl rfl hrj hmj rfl) (bg rfl (by as_aux_lemma=>kernel_rfl) rfl rfl rfl rfl rfl rfl (by omega)) | exact aU (j:=j) rfl rfl rfl rfl rfl (by as_aux_lemma=>kernel_rfl) rfl hjp hrl | exact bn rfl rfl (by simp) rfl rfl hvl rfl hjl2 (by as_aux_lemma=>kernel_rfl)));(focus ((apply aA 12 rfl (by as_aux_lemma=>kernel_rfl) rfl rfl;((first | exact bQ.pre (bC (n:=8) (z:=55) (s:=48) rfl rfl hrj hmj rfl) (bg rfl (by as_aux_lemma=>kernel_rfl) rfl rfl rfl rfl rfl rfl (by omega)) | exact aU (j:=j) rfl rfl rfl rfl rfl (by as_aux_lemma=>kernel_rfl) rfl hjp hrl | exact bn rfl rfl (by simp) rfl rfl hvl rfl hjl2 (by as_aux_lemma=>kernel_rfl))));(apply aA 13 rfl (by as_aux_lemma=>kernel_rfl) rfl rfl;((first | exact bQ.pre (bC (n:=8) (z:=55) (s:=48) rfl rfl hrj hmj rfl) (bg rfl (by as_aux_lemma=>kernel_rfl) rfl rfl rfl rfl rfl rfl (by omega)) | exact aU (j:=j) rfl rfl rfl rfl rfl (by as_aux_lemma=>kernel_rfl) rfl hjp hrl | exact bn rfl rfl (by simp) rfl rfl hvl rfl hjl2 (by as_aux_lemma=>kernel_rfl))));(apply aA 14 rfl (by as_aux_lemma=>kernel_rfl) rfl rfl;((first | exact bQ.pre (bC (n:=8) (z:=55) (s:=48) rfl rfl hrj hmj rfl) (bg rfl (by as_aux_lemma=>kernel_rfl) rfl rfl rfl rfl rfl rfl (by omega)) | exact aU (j:=j) rfl rfl rfl rfl rfl (by as_aux_lemma=>kernel_rfl) rfl hjp hrl | exact bn rfl rfl (by simp) rfl rfl hvl rfl hjl2 (by as_aux_lemma=>kernel_rfl))));(refine aY (by as_aux_lemma=>kernel_rfl) ?_;exact aL (Wk.of ⟨rfl,rfl,rfl,rfl,trivial⟩ ⟨rfl,congrArg (fun l=>some (⟨true,24,1, .rows 2 l []⟩:Ch)) hfin,trivial⟩ trivial))));(focus ((apply aA 0 rfl (by as_aux_lemma=>kernel_rfl) rfl rfl;(exact ae rfl rfl));(apply aA 13 rfl (by as_aux_lemma=>kernel_rfl) rfl rfl;((first | exact bQ.pre (bC (n:=8) (z:=55) (s:=48) rfl rfl hrj hmj rfl) (bg rfl (by as_aux_lemma=>kernel_rfl) rfl rfl rfl rfl rfl rfl (by omega)) | exact aU (j:=j) rfl rfl rfl rfl rfl (by as_aux_lemma=>kernel_rfl) rfl hjp hrl | exact bn rfl rfl (by simp) rfl rfl hvl rfl hjl2 (by as_aux_lemma=>kernel_rfl))));(apply aA 14 rfl (by as_aux_lemma=>kernel_rfl) rfl rfl;((first | exact bQ.pre (bC (n:=8) (z:=55) (s:=48) rfl rfl hrj hmj rfl) (bg rfl (by as_aux_lemma=>kernel_rfl) rfl rfl rfl rfl rfl rfl (by omega)) | exact aU (j:=j) rfl rfl rfl rfl rfl (by as_aux_lemma=>kernel_rfl) rfl hjp hrl | exact bn rfl rfl (by simp) rfl rfl hvl rfl hjl2 (by as_aux_lemma=>kernel_rfl))));(refine aY (by as_aux_lemma=>kernel_rfl) ?_;exact aL (Wk.of ⟨rfl,rfl,rfl,rfl,trivial⟩ ⟨rfl,congrArg (fun l=>some (⟨true,24,1, .rows 2 l []⟩:Ch)) hfin,trivial⟩ trivial)))))));(focus ((apply bL 0 1 rfl (by as_aux_lemma=>kernel_rfl) rfl rfl rfl rfl;(exact ae rfl rfl);(exact ae rfl rfl);(focus ((apply aA 1 rfl (by as_aux_lemma=>kernel_rfl) rfl rfl;(exact ae rfl rfl));(apply aA 13 rfl (by as_aux_lemma=>kernel_rfl) rfl rfl;((first | exact bQ.pre (bC (n:=8) (z:=55) (s:=48) rfl rfl hrj hmj rfl) (bg rfl (by as_aux_lemma=>kernel_rfl) rfl rfl rfl rfl rfl rfl (by omega)) | exact aU (j:=j) rfl rfl rfl rfl rfl (by as_aux_lemma=>kernel_rfl) rfl hjp hrl | exact bn rfl rfl (by simp) rfl rfl hvl rfl hjl2 (by as_aux_lemma=>kernel_rfl))));(apply aA 14 rfl (by as_aux_lemma=>kernel_rfl) rfl rfl;((first | exact bQ.pre (bC (n:=8) (z:=55) (s:=48) rfl rfl hrj hmj rfl) (bg rfl (by as_aux_lemma=>kernel_rfl) rfl rfl rfl rfl rfl rfl (by omega)) | exact aU (j:=j) rfl rfl rfl rfl rfl (by as_aux_lemma=>kernel_rfl) rfl hjp hrl | exact bn rfl rfl (by simp) rfl rfl hvl rfl hjl2 (by as_aux_lemma=>kernel_rfl))));(refine aY (by as_aux_lemma=>kernel_rfl) ?_;exact aL (Wk.of ⟨rfl,rfl,rfl,rfl,trivial⟩ ⟨rfl,congrArg (fun l=>some (⟨true,24,1, .rows 2 l []⟩:Ch)) hfin,trivial⟩ trivial))));(focus ((apply aA 0 rfl (by as_aux_lemma=>kernel_rfl) rfl rfl;(exact ae rfl rfl));(apply aA 13 rfl (by as_aux_lemma=>kernel_rfl) rfl rfl;((first | exact bQ.pre (bC (n:=8) (z:=55) (s:=48) rfl rfl hrj hmj rfl) (bg rfl (by as_aux_lemma=>kernel_rfl) rfl rfl rfl rfl rfl rfl (by omega)) | exact aU (j:=j) rfl rfl rfl rfl rfl (by as_aux_lemma=>kernel_rfl) rfl hjp hrl | exact bn rfl rfl (by simp) rfl rfl hvl rfl hjl2 (by as_aux_lemma=>kernel_rfl))));(apply aA 14 rfl (by as_aux_lemma=>kernel_rfl) rfl rfl;((first | exact bQ.pre (bC (n:=8) (z:=55) (s:=48) rfl rfl hrj hmj rfl) (bg rfl (by as_aux_lemma=>kernel_rfl) rfl rfl rfl rfl rfl rfl (by omega)) | exact aU (j:=j) rfl rfl rfl rfl rfl (by as_aux_lemma=>kernel_rfl) rfl hjp hrl | exact bn rfl rfl (by simp) rfl rfl hvl rfl hjl2 (by as_aux_lemma=>kernel_rfl))));(refine aY (by as_aux_lemma=>kernel_rfl) ?_;exact aL (Wk.of ⟨rfl,rfl,rfl,rfl,trivial⟩ ⟨rfl,congrArg (fun l=>some (⟨true,24,1, .rows 2 l []⟩:Ch)) hfin,trivial⟩ trivial)))))))))
       ·(skip)
        exact aL (Wk.of ⟨rfl,rfl,rfl,rfl,trivial⟩ ⟨rfl,rfl,trivial⟩ trivial)
    (refine ai ?_;refine a5 ?_;refine ax ?_;refine aM ?_;refine ai ?_;refine ab ?_;apply aa rfl;(exact ae rfl rfl);apply aa rfl;(exact aR rfl rfl rfl (by first | exact IntWalk.i64_in _ (by omega) | rfl));apply aa rfl;(exact ag rfl rfl);refine aj ?_)
    exact aX (i + 1,ps.set j (m ||| 2 ^ i,labs ++ [aC zs (i - 1)])) ⟨by omega,hv⟩ (by show L + 1 - (i + 1) < L + 1 - i;omega) (Wk.of ⟨rfl,rfl,congrArg (fun n=>some (o1 (.sl 8 0 n))) (by simp),rfl,trivial⟩ ⟨rfl,rfl,trivial⟩ trivial)
   ·have hv:rC zs mask (i + 1)=ps ++ [(2 ^ i, [])]:=by rw [hnx,if_neg (by rw [hjb];simp)]
    have hrl:(bK (dR ps)).length=ps.length:=by rw [aw,hrx]
    have hfin:bK (dR ps) ++ [[]]=bK (dR (ps ++ [(2 ^ i, [])])):=by simp [dR,bK,aJ]
    (refine aI ?_;refine ai ?_;refine ab ?_;apply aa rfl;(exact ae rfl rfl);apply aa rfl;(first | exact du (E:=2) (k:=1) rfl (by as_aux_lemma=>kernel_rfl) | exact iT (vs:= []) rfl (by as_aux_lemma=>kernel_rfl) rfl rfl hrl rfl rfl rfl rfl rfl (by omega));apply aa rfl;(exact lX (E:=24) rfl (by as_aux_lemma=>kernel_rfl) rfl rfl rfl);apply aa rfl;(first | exact du (E:=2) (k:=1) rfl (by as_aux_lemma=>kernel_rfl) | exact iT (vs:= []) rfl (by as_aux_lemma=>kernel_rfl) rfl rfl hrl rfl rfl rfl rfl rfl (by omega));apply aa rfl;(exact ag rfl rfl);refine aj ?_;refine aK ?_;refine ai ?_;refine ab ?_;apply aa rfl;(exact ae rfl rfl);apply aa rfl;(exact aR rfl rfl rfl (by first | exact IntWalk.i64_in _ (by omega) | rfl));apply aa rfl;(exact ag rfl rfl);refine aj ?_)
    exact aX (i + 1,ps ++ [(2 ^ i, [])]) ⟨by omega,hv⟩ (by show L + 1 - (i + 1) < L + 1 - i;omega) (Wk.of ⟨rfl,rfl,congrArg (fun n=>some (o1 (.sl 8 0 n))) (by simp),rfl,trivial⟩ ⟨rfl,congrArg (fun l=>some (⟨true,24,1, .rows 2 l []⟩:Ch)) hfin,trivial⟩ trivial)
 ·obtain rfl:i=L + 1:=by omega
  have hv:comps zs mask=ps:=by unfold comps;rw [hL];exact hp
  rw [hv]
  (refine a5 ?_;refine ax ?_;refine ax ?_;refine aM ?_;refine ai ?_;refine ah ?_;refine ab ?_;apply aa rfl;(exact ae rfl rfl);apply aa rfl;(exact ag rfl rfl);refine aj ?_;refine ai ?_;refine aW ?_)
  exact bd (.inl rfl) rfl (.tmp rfl) ⟨rfl,trivial⟩ trivial
end Go.Proofs.Ytekbhbcgoadciaa
namespace Go.Proofs.Ytekbhbcgoadciaa
open Go.RowKit
set_option maxRecDepth 100000 in
theorem xK (zs:List Int) (L:Nat) (hL:zs.length=L) (h4:L≤4):FC Try.prog 34 [(1003,de zs)] [o1 (.sl 1003 0 L)] [] (vv (I6 (ew zs))) []:=by
 have hR:=uh zs L h4
 have h5:L + 1≤5:=by omega
 have hp:2 ^ (L + 1)≤2 ^ 5:=Nat.pow_le_pow_right (by decide) (by omega)
 have h1:=s8 (L + 1)
 have hcv:IntKind.u64.wrap ((L + 1:Nat):Int)=((L + 1:Nat):Int):=by rw [IntKind.wrap_u64];omega
 have hw:IntKind.i64.wrap (((2 ^ (L + 1):Nat):Int) - 1)=((ew zs:Nat):Int):=by
  rw [IntWalk.i64_in _ (by omega)]
  unfold ew;rw [hL];omega
 refine bc (nt:=8) Try.func34 rfl rfl (by simp) fun w0 ω0=> ?_
 (refine ah ?_;refine ab ?_;apply aa rfl;(exact ag rfl rfl);refine aj ?_;refine ai ?_;refine ah ?_;refine ab ?_;apply aa rfl;(exact ae rfl rfl);apply aa rfl;(first | (apply ak 57;exact aq hR (by as_aux_lemma=>kernel_rfl) rfl rfl ⟨rfl,trivial⟩ ⟨⟨_,rfl, .inl rfl⟩,trivial⟩ rfl rfl) | exact di rfl rfl (by as_aux_lemma=>kernel_rfl) (by as_aux_lemma=>kernel_rfl) hcv | exact eD (g:=L + 1) rfl rfl rfl h5 | exact bJ rfl rfl rfl hw);apply aa rfl;(first | (apply ak 57;exact aq hR (by as_aux_lemma=>kernel_rfl) rfl rfl ⟨rfl,trivial⟩ ⟨⟨_,rfl, .inl rfl⟩,trivial⟩ rfl rfl) | exact di rfl rfl (by as_aux_lemma=>kernel_rfl) (by as_aux_lemma=>kernel_rfl) hcv | exact eD (g:=L + 1) rfl rfl rfl h5 | exact bJ rfl rfl rfl hw);apply aa rfl;(first | (apply ak 57;exact aq hR (by as_aux_lemma=>kernel_rfl) rfl rfl ⟨rfl,trivial⟩ ⟨⟨_,rfl, .inl rfl⟩,trivial⟩ rfl rfl) | exact di rfl rfl (by as_aux_lemma=>kernel_rfl) (by as_aux_lemma=>kernel_rfl) hcv | exact eD (g:=L + 1) rfl rfl rfl h5 | exact bJ rfl rfl rfl hw);apply aa rfl;(first | (apply ak 57;exact aq hR (by as_aux_lemma=>kernel_rfl) rfl rfl ⟨rfl,trivial⟩ ⟨⟨_,rfl, .inl rfl⟩,trivial⟩ rfl rfl) | exact di rfl rfl (by as_aux_lemma=>kernel_rfl) (by as_aux_lemma=>kernel_rfl) hcv | exact eD (g:=L + 1) rfl rfl rfl h5 | exact bJ rfl rfl rfl hw);apply aa rfl;(exact ag rfl rfl);refine aj ?_;refine ai ?_;refine aW ?_)
 exact bd (.inl rfl) rfl (.tmp rfl) trivial trivial
set_option maxRecDepth 100000 in
set_option maxHeartbeats 2000000 in
theorem yc (zs:List Int) (L mask:Nat) (hL:zs.length=L) (hd:cf zs=true) (hmk:mask < 1000):
  FC Try.prog 35 [(1003,de zs)] [o1 (.sl 1003 0 L),vv (I6 mask)] [] (vv (I6 (eQ (comps zs mask) (comps zs mask).length:Nat))) []:=by
 have h4:L≤4:=by have:=dz hd;omega
 have hC:=(sX zs L mask hL h4 hmk).nm [(1003,1003),(8,10)] (by kernel_rfl)
 have hC:FC Try.prog 58 [(1003,de zs)] [o1 (.sl 1003 0 L),vv (I6 mask)] [(10,jS (comps zs mask))] (o1 (.sl 10 0 (comps zs mask).length)) []:=hC
 have hlab:∀k,k < (comps zs mask).length→mh (db (comps zs mask) k).2:=fun k hk=>kJ hd hk
 have hnp:(comps zs mask).length≤5:=by
  have h1:=iu (comps zs mask);have h2:=(jh zs mask).sum;omega
 refine bc (nt:=36) Try.func35 rfl rfl (by simp) fun w0 ω0=> ?_
 generalize comps zs mask=ps at *
 generalize hN:ps.length=N at *
 have hrx:=kA ps
 rw [hN] at hrx
 (refine ah ?_;refine ab ?_;apply aa rfl;(exact ag rfl rfl);refine aj ?_;refine ai ?_;refine ah ?_;refine ab ?_;apply aa rfl;(exact ae rfl rfl);apply aa rfl;(exact ae rfl rfl);apply aa rfl;(apply ak 58;exact bz hC (by as_aux_lemma=>kernel_rfl) rfl rfl ⟨rfl,rfl,trivial⟩ ⟨⟨_,rfl, .inl rfl⟩,trivial⟩ rfl rfl rfl);apply aa rfl;(exact ag rfl rfl);apply aa rfl;(exact ag rfl rfl);refine aj ?_;refine ai ?_;refine ah ?_;refine ah ?_;refine ab ?_;apply aa rfl;(exact ag rfl rfl);refine aj ?_;refine ai ?_;refine aB ?_)
 refine bl (fun j:Nat=>St.of [(5,o1 (.sl 10 0 N)),(6,vv (I6 (eQ ps j:Nat))),(7,vv (I6 j))] [(10,jS ps)]) (fun j=>j≤N) (fun j=>N - j) 0 (Nat.zero_le _) (Wk.of ⟨rfl,rfl,rfl,trivial⟩ ⟨rfl,trivial⟩ trivial) ?_
 rintro j hj
 (refine ah ?_;refine ah ?_;refine ab ?_;apply aa rfl;(exact ae rfl rfl);apply aa rfl;(exact ae rfl rfl);apply aa rfl;(exact a8 rfl rfl rfl (by as_aux_lemma=>kernel_rfl));apply aa rfl;(exact aD rfl rfl rfl rfl);refine aj ?_;refine ai ?_)
 refine bF rfl (fun hlt=> ?_) (fun hlt=> ?_)
 ·have hjN:j < N:=by omega
  have hjp:j < ps.length:=by omega
  have hL:=hlab j hjN
  have hk:=lp hjp
  have hk2:=yD ps j
  have hrj:=kV hjp
  have hrg:=mu hjp
  have hjr:j < (dR ps).length:=by omega
  have hix:N≤(bK (dR ps)).length:=by rw [aw,hrx];exact Nat.le_refl _
  generalize (db ps j).2=labs at *
  have hm4:=hL.1
  have hlm:(aJ labs).length=labs.length:=an _
  have hAf:=(uq (dR ps) j labs.length labs hjr hrg rfl hm4).nm [(1000,10)] (by kernel_rfl)
  have hAf:FC Try.prog 60 [(10,aV (dR ps))] [o1 (.esl 10 j 0 labs.length)] [] (vv (.bool (As labs))) []:=hAf
  have hrest:(cX labs).length=0→∀(S:St),S=S→True:=fun _ _ _=>trivial
  rcases vU (dR ps) j labs.length labs hjr hrg rfl hm4 with ⟨hnil,hD⟩ | hD
  ·have hD:=hD.nm [(1000,10)] (by kernel_rfl)
   have hD:FC Try.prog 59 [(10,aV (dR ps))] [o1 (.esl 10 j 0 labs.length)] [] (vv (.slice none 0 0)) []:=hD
   unfold oc at hk
   rw [if_pos (by rw [hnil];rfl)] at hk
   (refine aI ?_;refine ai ?_;refine ah ?_;refine aB ?_;refine aB ?_;refine ah ?_;refine ab ?_;apply aa rfl;(exact ae rfl rfl);apply aa rfl;(exact ae rfl rfl);apply aa rfl;(first | exact aU (j:=j) rfl rfl rfl rfl rfl (by as_aux_lemma=>kernel_rfl) rfl hjN hix | exact bo rfl (by as_aux_lemma=>kernel_rfl) rfl rfl rfl hrj hlm | (apply ak 59;exact aq hD (by as_aux_lemma=>kernel_rfl) rfl rfl ⟨rfl,trivial⟩ ⟨⟨_,rfl, .inr rfl⟩,trivial⟩ rfl rfl));apply aa rfl;(first | exact aU (j:=j) rfl rfl rfl rfl rfl (by as_aux_lemma=>kernel_rfl) rfl hjN hix | exact bo rfl (by as_aux_lemma=>kernel_rfl) rfl rfl rfl hrj hlm | (apply ak 59;exact aq hD (by as_aux_lemma=>kernel_rfl) rfl rfl ⟨rfl,trivial⟩ ⟨⟨_,rfl, .inr rfl⟩,trivial⟩ rfl rfl));apply aa rfl;(first | exact aU (j:=j) rfl rfl rfl rfl rfl (by as_aux_lemma=>kernel_rfl) rfl hjN hix | exact bo rfl (by as_aux_lemma=>kernel_rfl) rfl rfl rfl hrj hlm | (apply ak 59;exact aq hD (by as_aux_lemma=>kernel_rfl) rfl rfl ⟨rfl,trivial⟩ ⟨⟨_,rfl, .inr rfl⟩,trivial⟩ rfl rfl));apply aa rfl;(exact a8 rfl rfl rfl (by as_aux_lemma=>kernel_rfl));apply aa rfl;(exact aD rfl rfl rfl rfl);apply aa rfl;(exact ag rfl rfl);refine aj ?_;refine ai ?_)
   refine au rfl (fun e=> ?_) (fun _=> ?_)
   ·exfalso;simp at e
   (refine ah ?_;refine ab ?_;apply aa rfl;(exact ae rfl rfl);apply aa rfl;(exact ae rfl rfl);apply aa rfl;(first | exact aU (j:=j) rfl rfl rfl rfl rfl (by as_aux_lemma=>kernel_rfl) rfl hjN hix | exact bo rfl (by as_aux_lemma=>kernel_rfl) rfl rfl rfl hrj hlm | (apply ak 60;exact aq hAf (by as_aux_lemma=>kernel_rfl) rfl rfl ⟨rfl,trivial⟩ ⟨⟨_,rfl, .inr rfl⟩,trivial⟩ rfl rfl));apply aa rfl;(first | exact aU (j:=j) rfl rfl rfl rfl rfl (by as_aux_lemma=>kernel_rfl) rfl hjN hix | exact bo rfl (by as_aux_lemma=>kernel_rfl) rfl rfl rfl hrj hlm | (apply ak 60;exact aq hAf (by as_aux_lemma=>kernel_rfl) rfl rfl ⟨rfl,trivial⟩ ⟨⟨_,rfl, .inr rfl⟩,trivial⟩ rfl rfl));apply aa rfl;(first | exact aU (j:=j) rfl rfl rfl rfl rfl (by as_aux_lemma=>kernel_rfl) rfl hjN hix | exact bo rfl (by as_aux_lemma=>kernel_rfl) rfl rfl rfl hrj hlm | (apply ak 60;exact aq hAf (by as_aux_lemma=>kernel_rfl) rfl rfl ⟨rfl,trivial⟩ ⟨⟨_,rfl, .inr rfl⟩,trivial⟩ rfl rfl));apply aa rfl;(exact ae rfl rfl))
   refine bH 31 rfl (fun h1=> ?_) (fun h1=> ?_)
   ·rw [h1] at hk
    (apply aH rfl rfl rfl;(exact ae rfl rfl);apply aH rfl rfl rfl;(exact aD rfl rfl rfl rfl);apply aa rfl;(exact bf rfl rfl rfl);apply aa rfl;(exact ag rfl rfl);refine aj ?_;refine ai ?_)
    refine au rfl (fun h2=> ?_) (fun h2=> ?_)
    ·have h2:eQ ps j≠2:=by
      have:(eQ ps j:Int)≠2:=by simpa using h2
      omega
     rw [if_pos ⟨rfl,h2⟩] at hk
     (refine ab ?_;apply aa rfl;(exact ag rfl rfl);refine aj ?_;refine aK ?_;refine aK ?_;refine ai ?_;refine ab ?_;apply aa rfl;(exact ae rfl rfl);apply aa rfl;(exact aR rfl rfl rfl (by first | exact IntWalk.i64_in _ (by omega) | rfl));apply aa rfl;(exact ag rfl rfl);refine aj ?_)
     exact aX (j + 1) (by omega) (by omega) (Wk.of ⟨rfl,congrArg (fun k:Nat=>some (vv (I6 (k:Int)))) hk.symm,rfl,trivial⟩ ⟨rfl,trivial⟩ trivial)
    ·have h2:eQ ps j=2:=by
      have:(eQ ps j:Int)=2:=by simpa using h2
      omega
     rw [if_neg (fun h=>h.2 h2)] at hk
     (refine ab ?_;apply aa rfl;(exact ag rfl rfl);refine aj ?_;refine aK ?_;refine aK ?_;refine ai ?_;refine ab ?_;apply aa rfl;(exact ae rfl rfl);apply aa rfl;(exact aR rfl rfl rfl (by first | exact IntWalk.i64_in _ (by omega) | rfl));apply aa rfl;(exact ag rfl rfl);refine aj ?_)
     exact aX (j + 1) (by omega) (by omega) (Wk.of ⟨rfl,congrArg (fun k:Nat=>some (vv (I6 (k:Int)))) hk.symm,rfl,trivial⟩ ⟨rfl,trivial⟩ trivial)
   ·rw [h1,if_neg (by simp)] at hk
    (apply aG rfl rfl rfl rfl rfl;apply aG rfl rfl rfl rfl rfl;apply aa rfl;(exact br rfl rfl rfl);apply aa rfl;(exact ag rfl rfl);refine aj ?_;refine ai ?_)
    refine au rfl (fun e=>by cases e) (fun _=> ?_)
    (refine ab ?_;apply aa rfl;(exact ag rfl rfl);refine aj ?_;refine aK ?_;refine aK ?_;refine ai ?_;refine ab ?_;apply aa rfl;(exact ae rfl rfl);apply aa rfl;(exact aR rfl rfl rfl (by first | exact IntWalk.i64_in _ (by omega) | rfl));apply aa rfl;(exact ag rfl rfl);refine aj ?_)
    exact aX (j + 1) (by omega) (by omega) (Wk.of ⟨rfl,congrArg (fun k:Nat=>some (vv (I6 (k:Int)))) hk.symm,rfl,trivial⟩ ⟨rfl,trivial⟩ trivial)
  ·have hD:=hD.nm [(1000,10),(2100,22)] (by kernel_rfl)
   have hD:FC Try.prog 59 [(10,aV (dR ps))] [o1 (.esl 10 j 0 labs.length)] [(22,bw (cX labs))] (o1 (.sl 22 0 (cX labs).length)) []:=hD
   unfold oc at hk
   (refine aI ?_;refine ai ?_;refine ah ?_;refine aB ?_;refine aB ?_;refine ah ?_;refine ab ?_;apply aa rfl;(exact ae rfl rfl);apply aa rfl;(exact ae rfl rfl);apply aa rfl;(first | exact aU (j:=j) rfl rfl rfl rfl rfl (by as_aux_lemma=>kernel_rfl) rfl hjN hix | exact bo rfl (by as_aux_lemma=>kernel_rfl) rfl rfl rfl hrj hlm | (apply ak 59;exact bz hD (by as_aux_lemma=>kernel_rfl) rfl rfl ⟨rfl,trivial⟩ ⟨⟨_,rfl, .inr rfl⟩,trivial⟩ rfl rfl rfl));apply aa rfl;(first | exact aU (j:=j) rfl rfl rfl rfl rfl (by as_aux_lemma=>kernel_rfl) rfl hjN hix | exact bo rfl (by as_aux_lemma=>kernel_rfl) rfl rfl rfl hrj hlm | (apply ak 59;exact bz hD (by as_aux_lemma=>kernel_rfl) rfl rfl ⟨rfl,trivial⟩ ⟨⟨_,rfl, .inr rfl⟩,trivial⟩ rfl rfl rfl));apply aa rfl;(first | exact aU (j:=j) rfl rfl rfl rfl rfl (by as_aux_lemma=>kernel_rfl) rfl hjN hix | exact bo rfl (by as_aux_lemma=>kernel_rfl) rfl rfl rfl hrj hlm | (apply ak 59;exact bz hD (by as_aux_lemma=>kernel_rfl) rfl rfl ⟨rfl,trivial⟩ ⟨⟨_,rfl, .inr rfl⟩,trivial⟩ rfl rfl rfl));apply aa rfl;(exact a8 rfl rfl rfl (by as_aux_lemma=>kernel_rfl));apply aa rfl;(exact aD rfl rfl rfl rfl);apply aa rfl;(exact ag rfl rfl);refine aj ?_;refine ai ?_)
   refine au rfl (fun e=> ?_) (fun e=> ?_)
   ·have e:¬(cX labs).length=0:=by
     have:=of_decide_eq_true e;omega
    rw [if_neg e] at hk
    (refine aI ?_;refine aK ?_;refine aK ?_;refine ai ?_;refine ab ?_;apply aa rfl;(exact ae rfl rfl);apply aa rfl;(exact aR rfl rfl rfl (by first | exact IntWalk.i64_in _ (by omega) | rfl));apply aa rfl;(exact ag rfl rfl);refine aj ?_)
    exact aX (j + 1) (by omega) (by omega) (Wk.of ⟨rfl,congrArg (fun k:Nat=>some (vv (I6 (k:Int)))) hk.symm,rfl,trivial⟩ ⟨rfl,trivial⟩ trivial)
   have e:(cX labs).length=0:=by
    have:=of_decide_eq_false e;omega
   rw [if_pos e] at hk
   (refine ah ?_;refine ab ?_;apply aa rfl;(exact ae rfl rfl);apply aa rfl;(exact ae rfl rfl);apply aa rfl;(first | exact aU (j:=j) rfl rfl rfl rfl rfl (by as_aux_lemma=>kernel_rfl) rfl hjN hix | exact bo rfl (by as_aux_lemma=>kernel_rfl) rfl rfl rfl hrj hlm | (apply ak 60;exact aq hAf (by as_aux_lemma=>kernel_rfl) rfl rfl ⟨rfl,trivial⟩ ⟨⟨_,rfl, .inr rfl⟩,trivial⟩ rfl rfl));apply aa rfl;(first | exact aU (j:=j) rfl rfl rfl rfl rfl (by as_aux_lemma=>kernel_rfl) rfl hjN hix | exact bo rfl (by as_aux_lemma=>kernel_rfl) rfl rfl rfl hrj hlm | (apply ak 60;exact aq hAf (by as_aux_lemma=>kernel_rfl) rfl rfl ⟨rfl,trivial⟩ ⟨⟨_,rfl, .inr rfl⟩,trivial⟩ rfl rfl));apply aa rfl;(first | exact aU (j:=j) rfl rfl rfl rfl rfl (by as_aux_lemma=>kernel_rfl) rfl hjN hix | exact bo rfl (by as_aux_lemma=>kernel_rfl) rfl rfl rfl hrj hlm | (apply ak 60;exact aq hAf (by as_aux_lemma=>kernel_rfl) rfl rfl ⟨rfl,trivial⟩ ⟨⟨_,rfl, .inr rfl⟩,trivial⟩ rfl rfl));apply aa rfl;(exact ae rfl rfl))
   refine bH 31 rfl (fun h1=> ?_) (fun h1=> ?_)
   ·rw [h1] at hk
    (apply aH rfl rfl rfl;(exact ae rfl rfl);apply aH rfl rfl rfl;(exact aD rfl rfl rfl rfl);apply aa rfl;(exact bf rfl rfl rfl);apply aa rfl;(exact ag rfl rfl);refine aj ?_;refine ai ?_)
    refine au rfl (fun h2=> ?_) (fun h2=> ?_)
    ·have h2:eQ ps j≠2:=by
      have:(eQ ps j:Int)≠2:=by simpa using h2
      omega
     rw [if_pos ⟨rfl,h2⟩] at hk
     (refine ab ?_;apply aa rfl;(exact ag rfl rfl);refine aj ?_;refine aK ?_;refine aK ?_;refine ai ?_;refine ab ?_;apply aa rfl;(exact ae rfl rfl);apply aa rfl;(exact aR rfl rfl rfl (by first | exact IntWalk.i64_in _ (by omega) | rfl));apply aa rfl;(exact ag rfl rfl);refine aj ?_)
     exact aX (j + 1) (by omega) (by omega) (Wk.of ⟨rfl,congrArg (fun k:Nat=>some (vv (I6 (k:Int)))) hk.symm,rfl,trivial⟩ ⟨rfl,trivial⟩ trivial)
    ·have h2:eQ ps j=2:=by
      have:(eQ ps j:Int)=2:=by simpa using h2
      omega
     rw [if_neg (fun h=>h.2 h2)] at hk
     (refine ab ?_;apply aa rfl;(exact ag rfl rfl);refine aj ?_;refine aK ?_;refine aK ?_;refine ai ?_;refine ab ?_;apply aa rfl;(exact ae rfl rfl);apply aa rfl;(exact aR rfl rfl rfl (by first | exact IntWalk.i64_in _ (by omega) | rfl));apply aa rfl;(exact ag rfl rfl);refine aj ?_)
     exact aX (j + 1) (by omega) (by omega) (Wk.of ⟨rfl,congrArg (fun k:Nat=>some (vv (I6 (k:Int)))) hk.symm,rfl,trivial⟩ ⟨rfl,trivial⟩ trivial)
   ·rw [h1,if_neg (by simp)] at hk
    (apply aG rfl rfl rfl rfl rfl;apply aG rfl rfl rfl rfl rfl;apply aa rfl;(exact br rfl rfl rfl);apply aa rfl;(exact ag rfl rfl);refine aj ?_;refine ai ?_)
    refine au rfl (fun e=>by cases e) (fun _=> ?_)
    (refine ab ?_;apply aa rfl;(exact ag rfl rfl);refine aj ?_;refine aK ?_;refine aK ?_;refine ai ?_;refine ab ?_;apply aa rfl;(exact ae rfl rfl);apply aa rfl;(exact aR rfl rfl rfl (by first | exact IntWalk.i64_in _ (by omega) | rfl));apply aa rfl;(exact ag rfl rfl);refine aj ?_)
    exact aX (j + 1) (by omega) (by omega) (Wk.of ⟨rfl,congrArg (fun k:Nat=>some (vv (I6 (k:Int)))) hk.symm,rfl,trivial⟩ ⟨rfl,trivial⟩ trivial)
 ·obtain rfl:j=N:=by omega
  (refine a5 ?_;refine ax ?_;refine ax ?_;refine aM ?_;refine ai ?_;refine ah ?_;refine ab ?_;apply aa rfl;(exact ae rfl rfl);apply aa rfl;(exact ag rfl rfl);refine aj ?_;refine ai ?_;refine aW ?_)
  exact bd (.inl rfl) rfl (.tmp rfl) trivial trivial
end Go.Proofs.Ytekbhbcgoadciaa
namespace Go.Proofs.Ytekbhbcgoadciaa
open Go.RowKit
theorem tU {us:List Value} {u0 u1 u2:Value} (hl:us.length=3) (g0:us[0]? =some u0) (g1:us[1]? =some u1) (g2:us[2]? =some u2):us= [u0,u1,u2]:=by
 match us,hl with
 | [p,q,r],_=>simp at g0 g1 g2;rw [g0,g1,g2]
theorem xS (a b c:Int):FC Try.prog 29 [] [vv (I6 a),vv (I6 b),vv (I6 c)] [] (vv (.bool (jF a b c))) []:=
 dL fun w η ω us hm ⟨hl,ha⟩=>by
  obtain ⟨u0,g0,d0⟩:=ha 0 _ rfl
  obtain ⟨u1,g1,d1⟩:=ha 1 _ rfl
  obtain ⟨u2,g2,d2⟩:=ha 2 _ rfl
  have d0:u0=I6 a:=d0
  have d1:u1=I6 b:=d1
  have d2:u2=I6 c:=d2
  subst d0 d1 d2
  rw [tU hl g0 g1 g2]
  refine (fZ a b c w).mono ?_
  rintro e w' ⟨rfl,rfl⟩
  exact ⟨rfl,Below.refl _ _⟩
end Go.Proofs.Ytekbhbcgoadciaa
namespace Go.Proofs.Ytekbhbcgoadciaa
open Go.RowKit
def eI (zs:List Int) (m:Int):Int:=if cf zs=true then (if jF m 0 (ew zs)=true then (if iv zs m.toNat=true then 0 else 5) else 2) else 1
theorem C4 (a b c:Int):FC Try.prog 33 [] [vv (I6 a),vv (I6 b),vv (I6 c)] [] (vv (.bool (jF a b c))) []:=
 dL fun w η ω us hm ⟨hl,ha⟩=>by
  obtain ⟨u0,g0,d0⟩:=ha 0 _ rfl
  obtain ⟨u1,g1,d1⟩:=ha 1 _ rfl
  obtain ⟨u2,g2,d2⟩:=ha 2 _ rfl
  have d0:u0=I6 a:=d0
  have d1:u1=I6 b:=d1
  have d2:u2=I6 c:=d2
  subst d0 d1 d2
  rw [tU hl g0 g1 g2]
  refine (fm a b c w).mono ?_
  rintro e w' ⟨rfl,rfl⟩
  exact ⟨rfl,Below.refl _ _⟩
set_option maxRecDepth 100000 in
theorem yj (zs:List Int) (L:Nat) (m:Int) (hL:zs.length=L) (hn:L≤4398046511104):FC Try.prog 17 [(1003,de zs)] [o1 (.sl 1003 0 L),vv (I6 m)] [] (vv (I6 (eI zs m))) []:=by
 have hI:=zH zs L hL hn
 unfold eI
 refine bc (nt:=20) Try.func17 rfl rfl (by simp) fun w0 ω0=> ?_
 cases hd:cf zs with
 | false=>
  rw [hd] at hI
  rw [if_neg (by simp)]
  (refine ah ?_;refine ab ?_;apply aa rfl;(exact ag rfl rfl);refine aj ?_;refine ai ?_;refine ah ?_;refine aB ?_;refine ah ?_;refine ab ?_;apply aa rfl;(exact ae rfl rfl);apply aa rfl;(apply ak 32;exact aq hI (by as_aux_lemma=>kernel_rfl) rfl rfl ⟨rfl,trivial⟩ ⟨⟨_,rfl, .inl rfl⟩,trivial⟩ rfl rfl);apply aa rfl;(exact cV rfl rfl);apply aa rfl;(exact ag rfl rfl);refine aj ?_;refine ai ?_)
  refine au rfl (fun _=> ?_) (fun e=>by cases e)
  (refine ah ?_;refine ab ?_;apply aa rfl;(exact ag rfl rfl);refine aj ?_;refine ai ?_;refine aW ?_;refine bj ?_;refine aT ?_)
  exact bd (.inl rfl) rfl (.tmp rfl) trivial trivial
 | true=>
  rw [hd] at hI
  rw [if_pos rfl]
  have h4:L≤4:=by have:=dz hd;omega
  have hW:=xK zs L hL h4
  have hIn:=C4 m 0 (ew zs)
  (refine ah ?_;refine ab ?_;apply aa rfl;(exact ag rfl rfl);refine aj ?_;refine ai ?_;refine ah ?_;refine aB ?_;refine ah ?_;refine ab ?_;apply aa rfl;(exact ae rfl rfl);apply aa rfl;(apply ak 32;exact aq hI (by as_aux_lemma=>kernel_rfl) rfl rfl ⟨rfl,trivial⟩ ⟨⟨_,rfl, .inl rfl⟩,trivial⟩ rfl rfl);apply aa rfl;(exact cV rfl rfl);apply aa rfl;(exact ag rfl rfl);refine aj ?_;refine ai ?_)
  refine au rfl (fun e=>by cases e) (fun _=> ?_)
  (refine ah ?_;refine ab ?_;apply aa rfl;(exact ae rfl rfl);apply aa rfl;(exact ae rfl rfl);apply aa rfl;(first | (apply ak 34;exact aq hW (by as_aux_lemma=>kernel_rfl) rfl rfl ⟨rfl,trivial⟩ ⟨⟨_,rfl, .inl rfl⟩,trivial⟩ rfl rfl) | (apply ak 33;exact aq hIn (by as_aux_lemma=>kernel_rfl) rfl rfl ⟨rfl,rfl,rfl,trivial⟩ trivial rfl rfl));apply aa rfl;(first | (apply ak 34;exact aq hW (by as_aux_lemma=>kernel_rfl) rfl rfl ⟨rfl,trivial⟩ ⟨⟨_,rfl, .inl rfl⟩,trivial⟩ rfl rfl) | (apply ak 33;exact aq hIn (by as_aux_lemma=>kernel_rfl) rfl rfl ⟨rfl,rfl,rfl,trivial⟩ trivial rfl rfl));apply aa rfl;(exact cV rfl rfl);apply aa rfl;(exact ag rfl rfl);refine aj ?_;refine ai ?_)
  refine au rfl (fun h=> ?_) (fun h=> ?_)
  ·have hb:jF m 0 (ew zs)=false:=by simpa using h
   rw [hb,if_neg (by simp)]
   (refine ah ?_;refine ab ?_;apply aa rfl;(exact ag rfl rfl);refine aj ?_;refine ai ?_;refine aW ?_;refine bj ?_;refine aT ?_)
   exact bd (.inl rfl) rfl (.tmp rfl) trivial trivial
  have hb:jF m 0 (ew zs)=true:=by simpa using h
  rw [hb,if_pos rfl]
  have hlt:=rH (zs:=zs) (by omega)
  have hbb:=eX.1 hb
  obtain ⟨k,hk⟩:=Int.eq_ofNat_of_zero_le hbb.1
  subst hk
  rw [Int.toNat_natCast]
  have hK:=yc zs L k hL hd (by omega)
  (refine ah ?_;refine ab ?_;apply aa rfl;(exact ae rfl rfl);apply aa rfl;(exact ae rfl rfl);apply aa rfl;(apply ak 35;exact aq hK (by as_aux_lemma=>kernel_rfl) rfl rfl ⟨rfl,rfl,trivial⟩ ⟨⟨_,rfl, .inl rfl⟩,trivial⟩ rfl rfl);apply aa rfl;(exact aD rfl rfl rfl rfl);apply aa rfl;(exact ag rfl rfl);refine aj ?_;refine ai ?_)
  refine au rfl (fun h=> ?_) (fun h=> ?_)
  ·have hf:iv zs k=false:=by
    have:((eQ (comps zs k) (comps zs k).length:Nat):Int)≠0:=by simpa using h
    unfold iv;rw [decide_eq_false_iff_not];omega
   rw [hf,if_neg (by simp)]
   (refine ah ?_;refine ab ?_;apply aa rfl;(exact ag rfl rfl);refine aj ?_;refine ai ?_;refine aW ?_;refine bj ?_;refine aT ?_)
   exact bd (.inl rfl) rfl (.tmp rfl) trivial trivial
  have hf:iv zs k=true:=by
   have:((eQ (comps zs k) (comps zs k).length:Nat):Int)=0:=by simpa using h
   unfold iv;rw [decide_eq_true_iff];omega
  rw [hf,if_pos rfl]
  (refine aI ?_;refine aK ?_;refine ai ?_;refine ah ?_;refine ab ?_;apply aa rfl;(exact ag rfl rfl);refine aj ?_;refine ai ?_;refine aW ?_)
  exact bd (.inl rfl) rfl (.tmp rfl) trivial trivial
end Go.Proofs.Ytekbhbcgoadciaa
namespace Go.Proofs.Ytekbhbcgoadciaa
open Go.RowKit
section
variable {P:Program} {nt:Nat} {S:St} {t:Nat} {ty:TypeId} {ps:String} {af:Array Edge} {gd:Option (Nat×Bool)} {x y:Operand}
theorem pk {x y:Nm} {s E k m:Nat} {vs:List Value} (hc:S.ch x=some ⟨true,E,k, .bG vs⟩) (hs0:S.sl s=some (o1 (.sl x 0 m))):
  Wk S (((S.rm x).new y ⟨true,E,k, .bG vs⟩).put s (o1 (.sl y 0 m))):=by
 refine ⟨fun w0 ω0 nt a w ⟨η,ω,h⟩=> ?_⟩
 obtain ⟨u,hu,hdu⟩:=h.slots s _ hs0
 have hdu:cq η (.sl x 0 m) u:=hdu
 obtain ⟨hd,e1,e2,e3⟩:=h.chunk hc
 have e3:dh ω w (x,none) hd E vs.length (bW η ω w true x (.bG vs)):=e3
 obtain ⟨ao,rfl,q1,_⟩:=hdu.2 hd e1
 let ω':bE:=fun b=>if ω b=some (x,none) then some (y,none) else ω b
 have calm:Calm (S.rm x) ω w ω' w:=⟨rfl,rfl,rfl,Nat.le_refl _,fun b _ hl=>⟨rfl,by
  have h1:ω b≠some (x,none):=by
   rcases hl with h0 | ⟨y,j,c,h0,h1⟩
   ·rw [h0];simp
   ·rw [h0];intro e;simp at e;rw [e.1,eH,if_pos rfl] at h1;cases h1
  exact if_neg h1⟩⟩
 have h2:=(h.drop x).lay (x:=y) (c:=⟨true,E,k, .bG vs⟩) (hd:=hd) (r:=fun _=>⟨none,0,1⟩) calm ⟨e2,by
  show dh ω' w (y,none) hd E vs.length _
  rcases e3 with h0 | ⟨b,o,cs,f1,f2,f3,f4,f5,f6,f7⟩
  ·exact .inl h0
  ·exact .inr ⟨b,o,cs,f1,if_pos f2,f3,f4,f5,f6,f7⟩⟩
 refine ⟨_,ω', { h2 with slots:=fun t' av ht'=> ?_ }⟩
 rw [gy] at ht'
 by_cases e:t'=s
 ·subst e
  rw [if_pos rfl] at ht'
  obtain rfl:=Option.some.inj ht'
  refine ⟨_,hu,⟨_,_,rfl⟩,fun hd' he=> ?_⟩
  simp [Env.new] at he
  subst he
  exact ⟨_,rfl,fun _=>q1 rfl,fun h0=>absurd h0 (by omega)⟩
 ·rw [if_neg e] at ht'
  exact h2.slots t' av ht'
theorem gZ {T E n q off len:Nat} {c:Ch} {zs:List Int} (ht:Nat.blt t nt=true) (hT:mY P T E 1=true) (hx:S.op x=some (o1 (.sl n 0 len))) (hc:S.ch n=some c) (hce:c=⟨true,E,1, .bG (aJ zs)⟩) (hl:zs.length=len) (hy:S.op y=some (o1 (.sl q off 0))):
  bQ P nt ⟨some t, .call { callee:= .builtin .append,args:= #[x,y],argTypes:= #[T,T] },ty,ps,af,gd⟩ S (S.put t (o1 (.sl n 0 len))):=
 bQ.pure rfl ht fun w0 ω0 η ω a w hs=>by
  subst hce hl
  obtain ⟨hd,e1,e2,e3⟩:=hs.chunk hc
  have e2:hd.k=1:=e2
  have e3:dh ω w (n,none) hd E (aJ zs).length (bW η ω w true n (.bG (aJ zs))):=e3
  have hu:cq η (.sl n 0 zs.length) (a.eval x):=hs.gk hx
  obtain ⟨ao,hev,_,_⟩:=hu.2 hd e1
  rw [Nat.sub_zero] at hev
  have hroom:zs.length≤hd.c:=by
   rcases e3 with ⟨_,_,h3⟩ | ⟨b,o,cs,f1,f2,f3,f4,f5,f6,f7⟩
   ·rw [an] at h3;omega
   ·rw [an,e2] at f5;omega
  obtain ⟨⟨ay,cy,hey⟩,_⟩:cq η (.sl q off 0) (a.eval y):=hs.gk hy
  obtain ⟨i,z,g1,g2,g3,g4,g5,g6⟩:=dA hT
  refine ⟨.slice ao zs.length hd.c, ?_,by rw [←hev];exact hu⟩
  cases ay<;>cases ao<;>simp [execOp,resolve,invoke,builtin,hev,hey,Builtin.append_,run_underlying g1,sizeOf,typeInfo,g2,Builtin.lenOf,hroom,Builtin.firstCells,loadCells,loadCellsFrom,storeCells]
end
end Go.Proofs.Ytekbhbcgoadciaa
namespace Go.Proofs.Ytekbhbcgoadciaa
open Go.RowKit
theorem tl {S:St} {n:Nm} {at_ m:Nat} {c:Ch} {zs:List Int} (hc:S.ch n=some c) (hd:c.d= .bG (aJ zs)) (hk:c.k=1) (hl:at_ + m=zs.length):Reads S (.sl n at_ m) m 1 (aJ (zs.drop at_)):=by
 have:=eB (S:=S) (n:=n) (off:=at_) (m:=m) (k:=1) hc hd hk rfl (by rw [an];omega)
 rwa [Nat.mul_one,Nat.mul_one,show ((aJ zs).drop at_).take m=aJ (zs.drop at_) by
  unfold aJ;rw [←List.map_drop,List.take_of_length_le (by simp;omega)]] at this
theorem fp {S:St} {n:Nm} {m:Nat} {c:Ch} {zs:List Int} (hc:S.ch n=some c) (hd:c.d= .bG (aJ zs)) (hk:c.k=1) (hl:m≤zs.length):Reads S (.sl n 0 m) m 1 (aJ (zs.take m)):=by
 have:=eB (S:=S) (n:=n) (off:=0) (m:=m) (k:=1) hc hd hk rfl (by rw [an];omega)
 rwa [Nat.zero_mul,List.drop_zero,Nat.mul_one,show (aJ zs).take m=aJ (zs.take m) by unfold aJ;rw [List.map_take]] at this
theorem xH (A:List Int):(bV A).Pairwise (· ≤·):=by
 have:=List.pairwise_mergeSort (le:=fun a b:Int=>decide (a≤b)) (fun a b c h1 h2=>by simp at *;omega) (fun a b=>by simp;omega) A
 exact this.imp (by simp)
theorem Cu {A:List Int} {e:Int} {i:Nat} (hi:i≤(bV A).length) (h1:∀x,x < i→aC (bV A) x≤e) (h2:i=(bV A).length∨e < aC (bV A) i):
  (bV A).take i ++ ([e] ++ (bV A).drop i)=bV (A ++ [e]):=by
 have hs:=xH A
 have hp:(bV A).Perm A:=List.mergeSort_perm A _
 generalize bV A=l at *
 apply oQ
 ·have q1:(l.take i ++ ([e] ++ l.drop i)).Perm (e :: (l.take i ++ l.drop i)):=by
   rw [List.singleton_append];exact List.perm_middle
  rw [List.take_append_drop] at q1
  exact q1.trans ((hp.cons e).trans (List.perm_append_singleton e A).symm)
 ·rw [←List.take_append_drop i l,List.pairwise_append] at hs
  obtain ⟨s1,s2,s3⟩:=hs
  have ha:∀a∈l.take i,a≤e:=fun a ha=>by
   obtain ⟨x,hx,rfl⟩:=List.getElem_of_mem ha
   have hx':x < i:=by rw [List.length_take] at hx;omega
   have:=h1 x hx'
   rw [cG (by omega)] at this
   rw [List.getElem_take];exact this
  have hb:∀b∈l.drop i,e≤b:=fun b hb=>by
   rcases h2 with h2 | h2
   ·rw [List.drop_of_length_le (by omega)] at hb;cases hb
   ·have hil:i < l.length:=by
     rcases Nat.lt_or_ge i l.length with h | h
     ·exact h
     ·rw [List.drop_of_length_le h] at hb;cases hb
    rw [cG hil] at h2
    rw [List.drop_eq_getElem_cons hil] at s2 hb
    rcases List.mem_cons.1 hb with rfl | hb
    ·omega
    ·have:=(List.pairwise_cons.1 s2).1 b hb;omega
  rw [List.pairwise_append,List.singleton_append,List.pairwise_cons]
  refine ⟨s1,⟨hb,s2⟩,fun a h3 b h4=> ?_⟩
  rcases List.mem_cons.1 h4 with rfl | h4
  ·exact ha a h3
  ·exact s3 a h3 b h4
section
variable {P:Program} {nt:Nat} {S:St} {t:Nat} {ty:TypeId} {ps:String} {af:Array Edge} {gd:Option (Nat×Bool)} {x:Operand}
theorem c5 {T:TypeId} {n:Nm} {len l h m:Nat} {c:Ch} {lo hi:Option Operand} (hm:l + m=h) (ht:Nat.blt t nt=true) (hx:S.op x=some (o1 (.sl n 0 len))) (hc:S.ch n=some c) (hk:c.k=1) (hT:jQ P T 1=true)
  (hlo:z9 S lo 0 l) (hhi:z9 S hi len h) (hhl:h≤len) (hl:len≤c.d.len):bQ P nt ⟨some t, .slice T x lo hi none,ty,ps,af,gd⟩ S (S.put t (o1 (.sl n l m))):=by
 have:=mM (P:=P) (nt:=nt) (ty:=ty) (ps:=ps) (af:=af) (gd:=gd) (k:=1) ht hx hc hk hT (by omega) hlo hhi (by omega) hhl (by omega)
 rwa [Nat.zero_add,show h - l=m by omega] at this
end
set_option maxRecDepth 100000 in
set_option maxHeartbeats 4000000 in
theorem AA (zs:List Int) (L mask:Nat) (hL:zs.length=L) (hd:cf zs=true) (hmk:mask < 1000) (hf:iv zs mask=true):
  FC Try.prog 36 [(1003,de zs)] [o1 (.sl 1003 0 L),vv (I6 mask)] [(2300,bw (km zs mask))] (o1 (.sl 2300 0 (eT (comps zs mask) (comps zs mask).length).length)) []:=by
 have h4:L≤4:=by have:=dz hd;omega
 have hC:=(sX zs L mask hL h4 hmk).nm [(1003,1003),(8,14)] (by kernel_rfl)
 have hC:FC Try.prog 58 [(1003,de zs)] [o1 (.sl 1003 0 L),vv (I6 mask)] [(14,jS (comps zs mask))] (o1 (.sl 14 0 (comps zs mask).length)) []:=hC
 have hlab:∀k,k < (comps zs mask).length→mh (db (comps zs mask) k).2:=fun k hk=>kJ hd hk
 have hcs:fW (comps zs mask)≤5:=by have:=(jh zs mask).sum;omega
 have hnp:(comps zs mask).length≤5:=by have:=iu (comps zs mask);omega
 have hfa:=(nE (ps:=comps zs mask) (comps zs mask).length (Nat.le_refl _)).1 (by simpa [iv] using hf)
 have hcl:∀j,j≤(comps zs mask).length→(eT (comps zs mask) j).length≤5:=fun j hj=>Nat.le_trans (j9 hlab j hj) (Nat.le_trans (kH _ _) hcs)
 unfold km
 refine bc (nt:=67) Try.func36 rfl rfl (by simp) fun w0 ω0=> ?_
 generalize comps zs mask=ps at *
 generalize hN:ps.length=N at *
 have hrx:=kA ps
 rw [hN] at hrx
 (refine ah ?_;refine ab ?_;apply aa rfl;(exact ag rfl rfl);refine aj ?_;refine ai ?_;refine ah ?_;refine ab ?_;apply aa rfl;(exact ae rfl rfl);apply aa rfl;(exact ae rfl rfl);apply aa rfl;(apply ak 58;exact bz hC (by as_aux_lemma=>kernel_rfl) rfl rfl ⟨rfl,rfl,trivial⟩ ⟨⟨_,rfl, .inl rfl⟩,trivial⟩ rfl rfl rfl);apply aa rfl;(exact du (E:=2) (k:=1) rfl (by as_aux_lemma=>kernel_rfl));apply aa rfl;(exact ag rfl rfl);apply aa rfl;(exact ag rfl rfl);refine aj ?_;refine ai ?_;refine ah ?_;refine ah ?_;refine ab ?_;apply aa rfl;(exact ag rfl rfl);refine aj ?_;refine ai ?_;refine aB ?_)
 refine bl (fun j:Nat=>St.of [(5,o1 (.sl 14 0 N)),(6,o1 (.sl 2300 0 (eT ps j).length)),(7,vv (I6 j))] [(14,jS ps),(2300,bw (bV (eT ps j)))]) (fun j=>j≤N) (fun j=>N - j) 0 (Nat.zero_le _) (Wk.trans (pk (x:=15) (y:=2300) (s:=6) (m:=0) rfl rfl) (Wk.of ⟨rfl,rfl,rfl,trivial⟩ ⟨rfl,congrArg (fun z=>some (bw z)) (show []=bV (eT ps 0) by simp [eT,bV]),trivial⟩ trivial)) ?_
 rintro j hj
 (refine ah ?_;refine ah ?_;refine ab ?_;apply aa rfl;(exact ae rfl rfl);apply aa rfl;(exact ae rfl rfl);apply aa rfl;(exact a8 rfl rfl rfl (by as_aux_lemma=>kernel_rfl));apply aa rfl;(exact aD rfl rfl rfl rfl);refine aj ?_;refine ai ?_)
 refine bF rfl (fun hlt=> ?_) (fun hlt=> ?_)
 ·have hjN:j < N:=by omega
  have hjp:j < ps.length:=by omega
  have hL:=hlab j hjN
  have hne:=hfa j hjN
  have hcat:=jk hjp
  have hc5:=hcl (j + 1) (by omega)
  have hrj:=kV hjp
  have hrg:=mu hjp
  have hjr:j < (dR ps).length:=by omega
  have hix:N≤(bK (dR ps)).length:=by rw [aw,hrx];exact Nat.le_refl _
  generalize (db ps j).2=labs at *
  have hm4:=hL.1
  have hlm:(aJ labs).length=labs.length:=an _
  rcases vU (dR ps) j labs.length labs hjr hrg rfl hm4 with ⟨hnil,_⟩ | hD
  ·exact absurd (by rw [hnil];rfl) hne
  have hD:=hD.nm [(1000,14),(2100,26)] (by kernel_rfl)
  have hD:FC Try.prog 59 [(14,aV (dR ps))] [o1 (.esl 14 j 0 labs.length)] [(26,bw (cX labs))] (o1 (.sl 26 0 (cX labs).length)) []:=hD
  rw [hcat,List.length_append] at hc5
  generalize hA:eT ps j=A at *
  generalize hM:cX labs=ds at *
  (refine aI ?_;refine ai ?_;refine ah ?_;refine aB ?_;refine ah ?_;refine ab ?_;apply aa rfl;(exact ae rfl rfl);apply aa rfl;(exact ae rfl rfl);apply aa rfl;(first | exact aU (j:=j) rfl rfl rfl rfl rfl (by as_aux_lemma=>kernel_rfl) rfl hjN hix | exact bo rfl (by as_aux_lemma=>kernel_rfl) rfl rfl rfl hrj hlm | (apply ak 59;exact bz hD (by as_aux_lemma=>kernel_rfl) rfl rfl ⟨rfl,trivial⟩ ⟨⟨_,rfl, .inr rfl⟩,trivial⟩ rfl rfl rfl));apply aa rfl;(first | exact aU (j:=j) rfl rfl rfl rfl rfl (by as_aux_lemma=>kernel_rfl) rfl hjN hix | exact bo rfl (by as_aux_lemma=>kernel_rfl) rfl rfl rfl hrj hlm | (apply ak 59;exact bz hD (by as_aux_lemma=>kernel_rfl) rfl rfl ⟨rfl,trivial⟩ ⟨⟨_,rfl, .inr rfl⟩,trivial⟩ rfl rfl rfl));apply aa rfl;(first | exact aU (j:=j) rfl rfl rfl rfl rfl (by as_aux_lemma=>kernel_rfl) rfl hjN hix | exact bo rfl (by as_aux_lemma=>kernel_rfl) rfl rfl rfl hrj hlm | (apply ak 59;exact bz hD (by as_aux_lemma=>kernel_rfl) rfl rfl ⟨rfl,trivial⟩ ⟨⟨_,rfl, .inr rfl⟩,trivial⟩ rfl rfl rfl));apply aa rfl;(exact ag rfl rfl);refine aj ?_;refine ai ?_;refine ah ?_;refine ab ?_;apply aa rfl;(exact ag rfl rfl);refine aj ?_;refine ai ?_;refine aB ?_)
  refine bl (fun k:Nat=>St.of [(5,o1 (.sl 14 0 N)),(6,o1 (.sl 2300 0 (A.length + k))),(7,vv (I6 j)),(8,o1 (.sl 26 0 ds.length)),(9,vv (I6 k))] [(14,jS ps),(2300,bw (bV (A ++ ds.take k))),(26,bw ds)]) (fun k=>k≤ds.length) (fun k=>ds.length - k) 0 (Nat.zero_le _) (Wk.of ⟨rfl,rfl,rfl,rfl,rfl,trivial⟩ ⟨rfl,congrArg (fun z=>some (bw (bV z))) (by rw [List.take_zero,List.append_nil]),rfl,trivial⟩ trivial) ?_
  rintro k hk
  (refine ah ?_;refine ah ?_;refine ab ?_;apply aa rfl;(exact ae rfl rfl);apply aa rfl;(exact ae rfl rfl);apply aa rfl;(exact a8 rfl rfl rfl (by as_aux_lemma=>kernel_rfl));apply aa rfl;(exact aD rfl rfl rfl rfl);refine aj ?_;refine ai ?_)
  refine bF rfl (fun hlt=> ?_) (fun hlt=> ?_)
  ·have hkm:k < ds.length:=by omega
   have hln:(bV (A ++ ds.take k)).length=A.length + k:=by rw [mI,List.length_append,List.length_take];omega
   have hol:A.length + k≤(aJ (bV (A ++ ds.take k))).length:=by rw [an,hln];exact Nat.le_refl _
   have hdl:ds.length≤(aJ ds).length:=by rw [an];exact Nat.le_refl _
   have hg2:(aJ ds)[k]? =some (I6 (aC ds k)):=al hkm
   (refine aI ?_;refine ai ?_;refine ah ?_;refine aB ?_;refine ah ?_;refine ab ?_;apply aa rfl;(exact ag rfl rfl);refine aj ?_;refine ai ?_;refine ah ?_;refine aB ?_)
   refine bl (fun i:Nat=>St.of [(5,o1 (.sl 14 0 N)),(6,o1 (.sl 2300 0 (A.length + k))),(7,vv (I6 j)),(8,o1 (.sl 26 0 ds.length)),(9,vv (I6 k)),(10,vv (I6 i))] [(14,jS ps),(2300,bw (bV (A ++ ds.take k))),(26,bw ds)]) (fun i=>i≤A.length + k∧∀x,x < i→aC (bV (A ++ ds.take k)) x≤aC ds k) (fun i=>A.length + k - i) 0 ⟨Nat.zero_le _,fun x hx=>absurd hx (by omega)⟩ (Wk.of ⟨rfl,rfl,rfl,rfl,rfl,rfl,trivial⟩ ⟨rfl,rfl,rfl,trivial⟩ trivial) ?_
   rintro at_ ⟨hat,hall⟩
   have hstop:(at_=A.length + k∨aC ds k < aC (bV (A ++ ds.take k)) at_)→(bV (A ++ ds.take k)).take at_ ++ ([aC ds k] ++ (bV (A ++ ds.take k)).drop at_)=bV (A ++ ds.take (k + 1)):=fun h=>by
    rw [Cu (by rw [hln];exact hat) hall (by rw [hln];exact h),List.append_assoc,List.take_add_one,List.getElem?_eq_getElem hkm,cG hkm];rfl
   by_cases hatl:at_ < A.length + k
   ·have hb1:dB .i64 .lss (at_:Int) ((A.length + k:Nat):Int)=some (.bool true):=by simp [dB];omega
    have hg1:(aJ (bV (A ++ ds.take k)))[at_]? =some (I6 (aC (bV (A ++ ds.take k)) at_)):=al (by omega)
    by_cases hle:aC (bV (A ++ ds.take k)) at_≤aC ds k
    ·have hb2:dB .i64 .leq (aC (bV (A ++ ds.take k)) at_) (aC ds k)=some (.bool true):=by simp [dB];exact hle
     (refine ah ?_;refine ah ?_)
     apply ly 15 [] [[], [], [1], [0,1,2], [0,1,2,3], [0,1,2,3,4], [0,1,2,3,4], [0,1,2,3,4,5,6], [0,1,2,3,4,5,6,7], [0,1,2,3,4], [0,1,2,3,4], [0,1,2,3,4,9,10], [0,1,2,3,4,9,10,11], [0,1,2,3,4,5,6,7,8,9,10,11,12], [0,1,2,3,4,5,6,7,8,9,10,11,12,13]] [33,34,35,36,37,38,39,40,41,42,43,44,45,46,47] [] (by kernel_rfl) (by kernel_rfl)
     ·(apply cN rfl;(intro S1 hS;exact ae rfl (hS.op rfl)))
      (apply cN rfl;(intro S1 hS;exact ae rfl (hS.op rfl)))
      (apply cN rfl;(intro S1 hS;exact a8 rfl (hS.op rfl) rfl (by as_aux_lemma=>kernel_rfl)))
      (apply cN rfl;(intro S1 hS;exact aD rfl (hS.op rfl) (hS.op rfl) hb1))
      (apply cN rfl;(intro S1 hS;exact ae rfl (hS.op rfl)))
      (apply cP rfl rfl rfl;(intro S1 hS;exact ae rfl (hS.op rfl)))
      (apply cP rfl rfl rfl;(intro S1 hS;exact ae rfl (hS.op rfl)))
      (apply cP rfl rfl rfl;(intro S1 hS;exact aU (j:=at_) rfl (hS.op rfl) (hS.op rfl) (hS.ch _ _ rfl) rfl (by as_aux_lemma=>kernel_rfl) rfl hatl hol))
      (apply cP rfl rfl rfl;(intro S1 hS;exact a7 rfl (by as_aux_lemma=>kernel_rfl) (hS.op rfl) (hS.ch _ _ rfl) rfl hg1))
      (apply cP rfl rfl rfl;(intro S1 hS;exact ae rfl (hS.op rfl)))
      (apply cP rfl rfl rfl;(intro S1 hS;exact ae rfl (hS.op rfl)))
      (apply cP rfl rfl rfl;(intro S1 hS;exact aU (j:=k) rfl (hS.op rfl) (hS.op rfl) (hS.ch _ _ rfl) rfl (by as_aux_lemma=>kernel_rfl) rfl hkm hdl))
      (apply cP rfl rfl rfl;(intro S1 hS;exact a7 rfl (by as_aux_lemma=>kernel_rfl) (hS.op rfl) (hS.ch _ _ rfl) rfl hg2))
      (apply cP rfl rfl rfl;(intro S1 hS;exact aD rfl (hS.op rfl) (hS.op rfl) hb2))
      (apply cN rfl;(intro S1 hS;exact bf rfl (hS.op rfl) (hS.op rfl)))
      exact fP.nil
     ·rfl
     ((refine aY (by as_aux_lemma=>kernel_rfl) ?_;skip))
     (refine ai ?_)
     refine au rfl (fun _=> ?_) (fun e=>by cases e)
     (refine aI ?_;refine ai ?_;refine aB ?_;refine ab ?_;apply aa rfl;(exact ae rfl rfl);apply aa rfl;(exact aR rfl rfl rfl (by first | exact IntWalk.i64_in _ (by omega) | rfl));apply aa rfl;(exact ag rfl rfl);refine aj ?_;refine aK ?_)
     exact aX (at_ + 1) ⟨hatl,fun x hx=>by
      rcases Nat.lt_succ_iff_lt_or_eq.1 hx with h | rfl
      ·exact hall x h
      ·exact hle⟩ (by omega) (Wk.of ⟨rfl,rfl,rfl,rfl,rfl,rfl,trivial⟩ ⟨rfl,rfl,rfl,trivial⟩ trivial)
    ·have hb2:dB .i64 .leq (aC (bV (A ++ ds.take k)) at_) (aC ds k)=some (.bool false):=by simp [dB];omega
     have hins:=hstop (.inr (by omega))
     (refine ah ?_;refine ah ?_)
     apply ly 15 [] [[], [], [1], [0,1,2], [0,1,2,3], [0,1,2,3,4], [0,1,2,3,4], [0,1,2,3,4,5,6], [0,1,2,3,4,5,6,7], [0,1,2,3,4], [0,1,2,3,4], [0,1,2,3,4,9,10], [0,1,2,3,4,9,10,11], [0,1,2,3,4,5,6,7,8,9,10,11,12], [0,1,2,3,4,5,6,7,8,9,10,11,12,13]] [33,34,35,36,37,38,39,40,41,42,43,44,45,46,47] [] (by kernel_rfl) (by kernel_rfl)
     ·(apply cN rfl;(intro S1 hS;exact ae rfl (hS.op rfl)))
      (apply cN rfl;(intro S1 hS;exact ae rfl (hS.op rfl)))
      (apply cN rfl;(intro S1 hS;exact a8 rfl (hS.op rfl) rfl (by as_aux_lemma=>kernel_rfl)))
      (apply cN rfl;(intro S1 hS;exact aD rfl (hS.op rfl) (hS.op rfl) hb1))
      (apply cN rfl;(intro S1 hS;exact ae rfl (hS.op rfl)))
      (apply cP rfl rfl rfl;(intro S1 hS;exact ae rfl (hS.op rfl)))
      (apply cP rfl rfl rfl;(intro S1 hS;exact ae rfl (hS.op rfl)))
      (apply cP rfl rfl rfl;(intro S1 hS;exact aU (j:=at_) rfl (hS.op rfl) (hS.op rfl) (hS.ch _ _ rfl) rfl (by as_aux_lemma=>kernel_rfl) rfl hatl hol))
      (apply cP rfl rfl rfl;(intro S1 hS;exact a7 rfl (by as_aux_lemma=>kernel_rfl) (hS.op rfl) (hS.ch _ _ rfl) rfl hg1))
      (apply cP rfl rfl rfl;(intro S1 hS;exact ae rfl (hS.op rfl)))
      (apply cP rfl rfl rfl;(intro S1 hS;exact ae rfl (hS.op rfl)))
      (apply cP rfl rfl rfl;(intro S1 hS;exact aU (j:=k) rfl (hS.op rfl) (hS.op rfl) (hS.ch _ _ rfl) rfl (by as_aux_lemma=>kernel_rfl) rfl hkm hdl))
      (apply cP rfl rfl rfl;(intro S1 hS;exact a7 rfl (by as_aux_lemma=>kernel_rfl) (hS.op rfl) (hS.ch _ _ rfl) rfl hg2))
      (apply cP rfl rfl rfl;(intro S1 hS;exact aD rfl (hS.op rfl) (hS.op rfl) hb2))
      (apply cN rfl;(intro S1 hS;exact bf rfl (hS.op rfl) (hS.op rfl)))
      exact fP.nil
     ·rfl
     ((refine aY (by as_aux_lemma=>kernel_rfl) ?_;skip))
     (refine ai ?_)
     refine au rfl (fun e=>by cases e) (fun _=> ?_)
     obtain ⟨m,hm⟩:∃m,at_ + m=A.length + k:=⟨A.length + k - at_,by omega⟩
     have hm0:0 < m:=by omega
     have hdm:at_ + m=(bV (A ++ ds.take k)).length:=by rw [hln];exact hm
     have hat2:at_≤(bV (A ++ ds.take k)).length:=by omega
     refine vA (S':=St.of [(5,o1 (.sl 14 0 N)),(6,o1 (.sl 2300 0 (A.length + k))),(7,vv (I6 j)),(8,o1 (.sl 26 0 ds.length)),(9,vv (I6 k)),(10,vv (I6 at_))] [(14,jS ps),(2300,bw (bV (A ++ ds.take k))),(26,bw ds)]) (Wk.of ⟨rfl,rfl,rfl,rfl,rfl,rfl,trivial⟩ ⟨rfl,rfl,rfl,trivial⟩ trivial) ?_
     (refine a5 ?_;refine ax ?_;refine ax ?_;refine aM ?_;refine ai ?_;refine ah ?_)
     apply dG 8 [] [[], [], [0,1], [0,1,2], [0,1,2,3], [], [], [5,6], [0,1,2,3,4,5,6,7], [0,1,2,3,4,5,6,7,8]] [50,51,52,53,54,55,56,57] [54] (by kernel_rfl) (by kernel_rfl)
     ·(apply aF rfl;(focus (intro S1 hS;exact ae rfl (hS.op rfl))))
      (apply aF rfl;(focus (intro S1 hS;exact ae rfl (hS.op rfl))))
      (apply aF rfl;(focus (intro S1 hS;exact aU (j:=k) rfl (hS.op rfl) (hS.op rfl) (hS.ch _ _ rfl) rfl (by as_aux_lemma=>kernel_rfl) rfl hkm hdl)))
      (apply aF rfl;(focus (intro S1 hS;exact a7 rfl (by as_aux_lemma=>kernel_rfl) (hS.op rfl) (hS.ch _ _ rfl) rfl hg2)))
      (apply fJ rfl;(focus (intro S1 hS;exact bM (E:=2) rfl (by as_aux_lemma=>kernel_rfl) (hS.op rfl))))
      (apply aF rfl;(focus (intro S1 hS;exact ae rfl (hS.op rfl))))
      (apply aF rfl;(focus (intro S1 hS;exact ae rfl (hS.op rfl))))
      (apply aF rfl;(focus (intro S1 hS;exact c5 (l:=at_) (m:=m) hm rfl (hS.op rfl) (hS.ch _ _ rfl) rfl (by as_aux_lemma=>kernel_rfl) (eu (hS.op rfl) rfl) dk (Nat.le_refl _) hol)))
      exact ey.nil
     ·rfl
     refine c7 (St.of [(5,o1 (.sl 14 0 N)),(6,o1 (.sl 2300 0 (A.length + k))),(7,vv (I6 j)),(8,o1 (.sl 26 0 ds.length)),(9,vv (I6 k)),(10,vv (I6 at_)),(11,o1 (.sl 54 0 (1 + m)))] [(14,jS ps),(2300,bw (bV (A ++ ds.take k))),(26,bw ds),(54,bw ([aC ds k] ++ (bV (A ++ ds.take k)).drop at_))]) ?_ ?_
     ·((apply aA 8 rfl (by as_aux_lemma=>kernel_rfl) rfl rfl;(exact b5 (E:=2) (zs:= [aC ds k]) (m:=m) rfl (by as_aux_lemma=>kernel_rfl) rfl rfl rfl rfl rfl (tl rfl rfl rfl hdm) hm0 (by omega)));(apply aA 9 rfl (by as_aux_lemma=>kernel_rfl) rfl rfl;(exact ag rfl rfl));(refine aY (by as_aux_lemma=>kernel_rfl) ?_;exact aL (Wk.of ⟨rfl,rfl,rfl,rfl,rfl,rfl,rfl,trivial⟩ ⟨rfl,rfl,rfl,rfl,trivial⟩ trivial)))
     have hrl:(aJ ([aC ds k] ++ (bV (A ++ ds.take k)).drop at_)).length=1 + m:=by rw [an,List.length_append,List.length_drop];simp;omega
     rcases Nat.eq_zero_or_pos at_ with h0 | h0
     ·have hs0:∀ {S:St} {o:Operand},S.op o=some (vv (I6 at_))→z9 S (some o) (A.length + k) 0:=fun h=>eu h (by omega)
      rw [h0] at hins
      (refine ai ?_;refine ab ?_;apply aa rfl;(exact du (E:=2) (k:=1) rfl (by as_aux_lemma=>kernel_rfl));apply aa rfl;(exact ae rfl rfl);apply aa rfl;(exact ae rfl rfl);apply aa rfl;(first | exact c5 (l:=0) (h:=0) (m:=0) rfl rfl rfl rfl rfl (by as_aux_lemma=>kernel_rfl) dk (hs0 rfl) (Nat.zero_le _) hol | exact gZ (zs:= []) rfl (by as_aux_lemma=>kernel_rfl) rfl rfl rfl rfl rfl | exact b5 (E:=2) (zs:= []) (m:=1 + m) rfl (by as_aux_lemma=>kernel_rfl) rfl rfl rfl rfl rfl (cj rfl rfl rfl hrl) (by omega) (by omega));apply aa rfl;(first | exact c5 (l:=0) (h:=0) (m:=0) rfl rfl rfl rfl rfl (by as_aux_lemma=>kernel_rfl) dk (hs0 rfl) (Nat.zero_le _) hol | exact gZ (zs:= []) rfl (by as_aux_lemma=>kernel_rfl) rfl rfl rfl rfl rfl | exact b5 (E:=2) (zs:= []) (m:=1 + m) rfl (by as_aux_lemma=>kernel_rfl) rfl rfl rfl rfl rfl (cj rfl rfl rfl hrl) (by omega) (by omega));apply aa rfl;(exact ae rfl rfl);apply aa rfl;(first | exact c5 (l:=0) (h:=0) (m:=0) rfl rfl rfl rfl rfl (by as_aux_lemma=>kernel_rfl) dk (hs0 rfl) (Nat.zero_le _) hol | exact gZ (zs:= []) rfl (by as_aux_lemma=>kernel_rfl) rfl rfl rfl rfl rfl | exact b5 (E:=2) (zs:= []) (m:=1 + m) rfl (by as_aux_lemma=>kernel_rfl) rfl rfl rfl rfl rfl (cj rfl rfl rfl hrl) (by omega) (by omega));apply aa rfl;(exact ag rfl rfl);refine aj ?_;refine aK ?_;refine ai ?_;refine ab ?_;apply aa rfl;(exact ae rfl rfl);apply aa rfl;(exact aR rfl rfl rfl (by first | exact IntWalk.i64_in _ (by omega) | rfl));apply aa rfl;(exact ag rfl rfl);refine aj ?_)
      exact aX (k + 1) (by omega) (by omega) (Wk.trans (pk (x:=59) (y:=2300) (s:=6) rfl rfl) (Wk.of ⟨rfl,congrArg (fun z:Nat=>some (o1 (.sl 2300 0 z))) (show 0 + (1 + m)=A.length + (k + 1) by omega),rfl,rfl,rfl,trivial⟩ ⟨rfl,congrArg (fun z=>some (bw z)) (show [] ++ ([aC ds k] ++ (bV (A ++ ds.take k)).drop at_)=_ by rw [List.nil_append,←hins,List.take_zero,List.nil_append,h0]),rfl,trivial⟩ trivial))
     ·have hz:(0:Nat) + at_=at_:=Nat.zero_add _
      have htl:([] ++ (bV (A ++ ds.take k)).take at_).length=0 + at_:=by rw [List.nil_append,List.length_take];omega
      (refine ai ?_;refine ab ?_;apply aa rfl;(exact du (E:=2) (k:=1) rfl (by as_aux_lemma=>kernel_rfl));apply aa rfl;(exact ae rfl rfl);apply aa rfl;(exact ae rfl rfl);apply aa rfl;(first | exact c5 (l:=0) (h:=at_) (m:=at_) hz rfl rfl rfl rfl (by as_aux_lemma=>kernel_rfl) dk (eu rfl rfl) (by omega) hol | exact b5 (E:=2) (zs:= []) (m:=at_) rfl (by as_aux_lemma=>kernel_rfl) rfl rfl rfl rfl rfl (fp rfl rfl rfl hat2) h0 (by omega) | exact b5 (E:=2) (zs:= [] ++ (bV (A ++ ds.take k)).take at_) (m:=1 + m) rfl (by as_aux_lemma=>kernel_rfl) rfl rfl rfl htl rfl (cj rfl rfl rfl hrl) (by omega) (by omega));apply aa rfl;(first | exact c5 (l:=0) (h:=at_) (m:=at_) hz rfl rfl rfl rfl (by as_aux_lemma=>kernel_rfl) dk (eu rfl rfl) (by omega) hol | exact b5 (E:=2) (zs:= []) (m:=at_) rfl (by as_aux_lemma=>kernel_rfl) rfl rfl rfl rfl rfl (fp rfl rfl rfl hat2) h0 (by omega) | exact b5 (E:=2) (zs:= [] ++ (bV (A ++ ds.take k)).take at_) (m:=1 + m) rfl (by as_aux_lemma=>kernel_rfl) rfl rfl rfl htl rfl (cj rfl rfl rfl hrl) (by omega) (by omega));apply aa rfl;(exact ae rfl rfl);apply aa rfl;(first | exact c5 (l:=0) (h:=at_) (m:=at_) hz rfl rfl rfl rfl (by as_aux_lemma=>kernel_rfl) dk (eu rfl rfl) (by omega) hol | exact b5 (E:=2) (zs:= []) (m:=at_) rfl (by as_aux_lemma=>kernel_rfl) rfl rfl rfl rfl rfl (fp rfl rfl rfl hat2) h0 (by omega) | exact b5 (E:=2) (zs:= [] ++ (bV (A ++ ds.take k)).take at_) (m:=1 + m) rfl (by as_aux_lemma=>kernel_rfl) rfl rfl rfl htl rfl (cj rfl rfl rfl hrl) (by omega) (by omega));apply aa rfl;(exact ag rfl rfl);refine aj ?_;refine aK ?_;refine ai ?_;refine ab ?_;apply aa rfl;(exact ae rfl rfl);apply aa rfl;(exact aR rfl rfl rfl (by first | exact IntWalk.i64_in _ (by omega) | rfl));apply aa rfl;(exact ag rfl rfl);refine aj ?_)
      exact aX (k + 1) (by omega) (by omega) (Wk.trans (pk (x:=59) (y:=2300) (s:=6) rfl rfl) (Wk.of ⟨rfl,congrArg (fun z:Nat=>some (o1 (.sl 2300 0 z))) (show 0 + at_ + (1 + m)=A.length + (k + 1) by omega),rfl,rfl,rfl,trivial⟩ ⟨rfl,congrArg (fun z=>some (bw z)) (show [] ++ (bV (A ++ ds.take k)).take at_ ++ ([aC ds k] ++ (bV (A ++ ds.take k)).drop at_)=_ by rw [List.nil_append];exact hins),rfl,trivial⟩ trivial))
   ·obtain rfl:at_=A.length + k:=by omega
    have hb1:dB .i64 .lss ((A.length + k:Nat):Int) ((A.length + k:Nat):Int)=some (.bool false):=by simp [dB]
    have hins:=hstop (.inl rfl)
    (refine ah ?_;refine ah ?_)
    apply ly 15 [] [[], [], [1], [0,1,2], [0,1,2,3], [0,1,2,3,4], [0,1,2,3,4], [0,1,2,3,4,5,6], [0,1,2,3,4,5,6,7], [0,1,2,3,4], [0,1,2,3,4], [0,1,2,3,4,9,10], [0,1,2,3,4,9,10,11], [0,1,2,3,4,5,6,7,8,9,10,11,12], [0,1,2,3,4,5,6,7,8,9,10,11,12,13]] [33,34,35,36,37,38,39,40,41,42,43,44,45,46,47] [] (by kernel_rfl) (by kernel_rfl)
    ·(apply cN rfl;(intro S1 hS;exact ae rfl (hS.op rfl)))
     (apply cN rfl;(intro S1 hS;exact ae rfl (hS.op rfl)))
     (apply cN rfl;(intro S1 hS;exact a8 rfl (hS.op rfl) rfl (by as_aux_lemma=>kernel_rfl)))
     (apply cN rfl;(intro S1 hS;exact aD rfl (hS.op rfl) (hS.op rfl) hb1))
     (apply cN rfl;(intro S1 hS;exact ae rfl (hS.op rfl)))
     apply fE rfl rfl rfl rfl rfl
     apply fE rfl rfl rfl rfl rfl
     apply fE rfl rfl rfl rfl rfl
     apply fE rfl rfl rfl rfl rfl
     apply fE rfl rfl rfl rfl rfl
     apply fE rfl rfl rfl rfl rfl
     apply fE rfl rfl rfl rfl rfl
     apply fE rfl rfl rfl rfl rfl
     apply fE rfl rfl rfl rfl rfl
     (apply cN rfl;(intro S1 hS;exact br rfl (hS.op rfl) (hS.op rfl)))
     exact fP.nil
    ·rfl
    ((refine aY (by as_aux_lemma=>kernel_rfl) ?_;skip))
    (refine ai ?_)
    refine au rfl (fun e=>by cases e) (fun _=> ?_)
    have hm:(A.length + k) + 0=A.length + k:=rfl
    have hdm:(A.length + k) + 0=(bV (A ++ ds.take k)).length:=by rw [hln];exact hm
    have hat2:(A.length + k)≤(bV (A ++ ds.take k)).length:=by omega
    refine vA (S':=St.of [(5,o1 (.sl 14 0 N)),(6,o1 (.sl 2300 0 (A.length + k))),(7,vv (I6 j)),(8,o1 (.sl 26 0 ds.length)),(9,vv (I6 k)),(10,vv (I6 (A.length + k)))] [(14,jS ps),(2300,bw (bV (A ++ ds.take k))),(26,bw ds)]) (Wk.of ⟨rfl,rfl,rfl,rfl,rfl,rfl,trivial⟩ ⟨rfl,rfl,rfl,trivial⟩ trivial) ?_
    (refine a5 ?_;refine ax ?_;refine ax ?_;refine aM ?_;refine ai ?_;refine ah ?_)
    apply dG 8 [] [[], [], [0,1], [0,1,2], [0,1,2,3], [], [], [5,6], [0,1,2,3,4,5,6,7], [0,1,2,3,4,5,6,7,8]] [50,51,52,53,54,55,56,57] [54] (by kernel_rfl) (by kernel_rfl)
    ·(apply aF rfl;(focus (intro S1 hS;exact ae rfl (hS.op rfl))))
     (apply aF rfl;(focus (intro S1 hS;exact ae rfl (hS.op rfl))))
     (apply aF rfl;(focus (intro S1 hS;exact aU (j:=k) rfl (hS.op rfl) (hS.op rfl) (hS.ch _ _ rfl) rfl (by as_aux_lemma=>kernel_rfl) rfl hkm hdl)))
     (apply aF rfl;(focus (intro S1 hS;exact a7 rfl (by as_aux_lemma=>kernel_rfl) (hS.op rfl) (hS.ch _ _ rfl) rfl hg2)))
     (apply fJ rfl;(focus (intro S1 hS;exact bM (E:=2) rfl (by as_aux_lemma=>kernel_rfl) (hS.op rfl))))
     (apply aF rfl;(focus (intro S1 hS;exact ae rfl (hS.op rfl))))
     (apply aF rfl;(focus (intro S1 hS;exact ae rfl (hS.op rfl))))
     (apply aF rfl;(focus (intro S1 hS;exact c5 (l:=(A.length + k)) (m:=0) hm rfl (hS.op rfl) (hS.ch _ _ rfl) rfl (by as_aux_lemma=>kernel_rfl) (eu (hS.op rfl) rfl) dk (Nat.le_refl _) hol)))
     exact ey.nil
    ·rfl
    refine c7 (St.of [(5,o1 (.sl 14 0 N)),(6,o1 (.sl 2300 0 (A.length + k))),(7,vv (I6 j)),(8,o1 (.sl 26 0 ds.length)),(9,vv (I6 k)),(10,vv (I6 (A.length + k))),(11,o1 (.sl 54 0 (1 + 0)))] [(14,jS ps),(2300,bw (bV (A ++ ds.take k))),(26,bw ds),(54,bw ([aC ds k] ++ (bV (A ++ ds.take k)).drop (A.length + k)))]) ?_ ?_
    ·((apply aA 8 rfl (by as_aux_lemma=>kernel_rfl) rfl rfl;(exact gZ (zs:= [aC ds k]) rfl (by as_aux_lemma=>kernel_rfl) rfl rfl rfl rfl rfl));(apply aA 9 rfl (by as_aux_lemma=>kernel_rfl) rfl rfl;(exact ag rfl rfl));(refine aY (by as_aux_lemma=>kernel_rfl) ?_;exact aL (Wk.of ⟨rfl,rfl,rfl,rfl,rfl,rfl,rfl,trivial⟩ ⟨rfl,rfl,rfl,congrArg (fun z=>some (bw ([aC ds k] ++ z))) (List.drop_of_length_le (Nat.le_of_eq hln)).symm,trivial⟩ trivial)))
    have hrl:(aJ ([aC ds k] ++ (bV (A ++ ds.take k)).drop (A.length + k))).length=1 + 0:=by rw [an,List.length_append,List.length_drop];simp;omega
    rcases Nat.eq_zero_or_pos (A.length + k) with h0 | h0
    ·have hs0:∀ {S:St} {o:Operand},S.op o=some (vv (I6 (A.length + k)))→z9 S (some o) (A.length + k) 0:=fun h=>eu h (by omega)
     rw [h0] at hins
     (refine ai ?_;refine ab ?_;apply aa rfl;(exact du (E:=2) (k:=1) rfl (by as_aux_lemma=>kernel_rfl));apply aa rfl;(exact ae rfl rfl);apply aa rfl;(exact ae rfl rfl);apply aa rfl;(first | exact c5 (l:=0) (h:=0) (m:=0) rfl rfl rfl rfl rfl (by as_aux_lemma=>kernel_rfl) dk (hs0 rfl) (Nat.zero_le _) hol | exact gZ (zs:= []) rfl (by as_aux_lemma=>kernel_rfl) rfl rfl rfl rfl rfl | exact b5 (E:=2) (zs:= []) (m:=1 + 0) rfl (by as_aux_lemma=>kernel_rfl) rfl rfl rfl rfl rfl (cj rfl rfl rfl hrl) (by omega) (by omega));apply aa rfl;(first | exact c5 (l:=0) (h:=0) (m:=0) rfl rfl rfl rfl rfl (by as_aux_lemma=>kernel_rfl) dk (hs0 rfl) (Nat.zero_le _) hol | exact gZ (zs:= []) rfl (by as_aux_lemma=>kernel_rfl) rfl rfl rfl rfl rfl | exact b5 (E:=2) (zs:= []) (m:=1 + 0) rfl (by as_aux_lemma=>kernel_rfl) rfl rfl rfl rfl rfl (cj rfl rfl rfl hrl) (by omega) (by omega));apply aa rfl;(exact ae rfl rfl);apply aa rfl;(first | exact c5 (l:=0) (h:=0) (m:=0) rfl rfl rfl rfl rfl (by as_aux_lemma=>kernel_rfl) dk (hs0 rfl) (Nat.zero_le _) hol | exact gZ (zs:= []) rfl (by as_aux_lemma=>kernel_rfl) rfl rfl rfl rfl rfl | exact b5 (E:=2) (zs:= []) (m:=1 + 0) rfl (by as_aux_lemma=>kernel_rfl) rfl rfl rfl rfl rfl (cj rfl rfl rfl hrl) (by omega) (by omega));apply aa rfl;(exact ag rfl rfl);refine aj ?_;refine aK ?_;refine ai ?_;refine ab ?_;apply aa rfl;(exact ae rfl rfl);apply aa rfl;(exact aR rfl rfl rfl (by first | exact IntWalk.i64_in _ (by omega) | rfl));apply aa rfl;(exact ag rfl rfl);refine aj ?_)
     exact aX (k + 1) (by omega) (by omega) (Wk.trans (pk (x:=59) (y:=2300) (s:=6) rfl rfl) (Wk.of ⟨rfl,congrArg (fun z:Nat=>some (o1 (.sl 2300 0 z))) (show 0 + (1 + 0)=A.length + (k + 1) by omega),rfl,rfl,rfl,trivial⟩ ⟨rfl,congrArg (fun z=>some (bw z)) (show [] ++ ([aC ds k] ++ (bV (A ++ ds.take k)).drop (A.length + k))=_ by rw [List.nil_append,←hins,List.take_zero,List.nil_append,h0]),rfl,trivial⟩ trivial))
    ·have hz:(0:Nat) + (A.length + k)=(A.length + k):=Nat.zero_add _
     have htl:([] ++ (bV (A ++ ds.take k)).take (A.length + k)).length=0 + (A.length + k):=by rw [List.nil_append,List.length_take];omega
     (refine ai ?_;refine ab ?_;apply aa rfl;(exact du (E:=2) (k:=1) rfl (by as_aux_lemma=>kernel_rfl));apply aa rfl;(exact ae rfl rfl);apply aa rfl;(exact ae rfl rfl);apply aa rfl;(first | exact c5 (l:=0) (h:=(A.length + k)) (m:=(A.length + k)) hz rfl rfl rfl rfl (by as_aux_lemma=>kernel_rfl) dk (eu rfl rfl) (by omega) hol | exact b5 (E:=2) (zs:= []) (m:=(A.length + k)) rfl (by as_aux_lemma=>kernel_rfl) rfl rfl rfl rfl rfl (fp rfl rfl rfl hat2) h0 (by omega) | exact b5 (E:=2) (zs:= [] ++ (bV (A ++ ds.take k)).take (A.length + k)) (m:=1 + 0) rfl (by as_aux_lemma=>kernel_rfl) rfl rfl rfl htl rfl (cj rfl rfl rfl hrl) (by omega) (by omega));apply aa rfl;(first | exact c5 (l:=0) (h:=(A.length + k)) (m:=(A.length + k)) hz rfl rfl rfl rfl (by as_aux_lemma=>kernel_rfl) dk (eu rfl rfl) (by omega) hol | exact b5 (E:=2) (zs:= []) (m:=(A.length + k)) rfl (by as_aux_lemma=>kernel_rfl) rfl rfl rfl rfl rfl (fp rfl rfl rfl hat2) h0 (by omega) | exact b5 (E:=2) (zs:= [] ++ (bV (A ++ ds.take k)).take (A.length + k)) (m:=1 + 0) rfl (by as_aux_lemma=>kernel_rfl) rfl rfl rfl htl rfl (cj rfl rfl rfl hrl) (by omega) (by omega));apply aa rfl;(exact ae rfl rfl);apply aa rfl;(first | exact c5 (l:=0) (h:=(A.length + k)) (m:=(A.length + k)) hz rfl rfl rfl rfl (by as_aux_lemma=>kernel_rfl) dk (eu rfl rfl) (by omega) hol | exact b5 (E:=2) (zs:= []) (m:=(A.length + k)) rfl (by as_aux_lemma=>kernel_rfl) rfl rfl rfl rfl rfl (fp rfl rfl rfl hat2) h0 (by omega) | exact b5 (E:=2) (zs:= [] ++ (bV (A ++ ds.take k)).take (A.length + k)) (m:=1 + 0) rfl (by as_aux_lemma=>kernel_rfl) rfl rfl rfl htl rfl (cj rfl rfl rfl hrl) (by omega) (by omega));apply aa rfl;(exact ag rfl rfl);refine aj ?_;refine aK ?_;refine ai ?_;refine ab ?_;apply aa rfl;(exact ae rfl rfl);apply aa rfl;(exact aR rfl rfl rfl (by first | exact IntWalk.i64_in _ (by omega) | rfl));apply aa rfl;(exact ag rfl rfl);refine aj ?_)
     exact aX (k + 1) (by omega) (by omega) (Wk.trans (pk (x:=59) (y:=2300) (s:=6) rfl rfl) (Wk.of ⟨rfl,congrArg (fun z:Nat=>some (o1 (.sl 2300 0 z))) (show 0 + (A.length + k) + (1 + 0)=A.length + (k + 1) by omega),rfl,rfl,rfl,trivial⟩ ⟨rfl,congrArg (fun z=>some (bw z)) (show [] ++ (bV (A ++ ds.take k)).take (A.length + k) ++ ([aC ds k] ++ (bV (A ++ ds.take k)).drop (A.length + k))=_ by rw [List.nil_append];exact hins),rfl,trivial⟩ trivial))
  ·obtain rfl:k=ds.length:=by omega
   (refine a5 ?_;refine ax ?_;refine ax ?_;refine aM ?_;refine aK ?_;refine ai ?_;refine ab ?_;apply aa rfl;(exact ae rfl rfl);apply aa rfl;(exact aR rfl rfl rfl (by first | exact IntWalk.i64_in _ (by omega) | rfl));apply aa rfl;(exact ag rfl rfl);refine aj ?_)
   exact aX (j + 1) (by omega) (by omega) (Wk.of ⟨rfl,congrArg (fun z:Nat=>some (o1 (.sl 2300 0 z))) (by rw [hcat,List.length_append]),rfl,trivial⟩ ⟨rfl,congrArg (fun z=>some (bw (bV z))) (by rw [hcat,List.take_length]),trivial⟩ trivial)
 ·obtain rfl:j=N:=by omega
  (refine a5 ?_;refine ax ?_;refine ax ?_;refine aM ?_;refine ai ?_;refine ah ?_;refine ab ?_;apply aa rfl;(exact ae rfl rfl);apply aa rfl;(exact ag rfl rfl);refine aj ?_;refine ai ?_;refine aW ?_)
  exact bd (.inl rfl) rfl (.tmp rfl) ⟨rfl,trivial⟩ trivial
end Go.Proofs.Ytekbhbcgoadciaa
namespace Go.Proofs.Ytekbhbcgoadciaa
open Go.RowKit
theorem DB {η:Env} {ω:bE} {w:World} {x:Nat} {own:Bool} {E F:Nat} {ins:List (Nm×Ch)} {g:Int} {zss:List (List Int)} {v:Value} (hm:Mem η ω w (fun x=>lk x ins)) (hx:lk x ins=some ⟨own,E,1, .rows F (bK zss) []⟩) (hv:fi η (.agg [.val (I6 g), .sl x 0 zss.length]) v) (hn:zss.length≤17592186044416) (hr:∀zs∈zss,zs.length≤17592186044416):zc w v (g,zss):=by
 obtain ⟨us,rfl,hl,ha⟩:=hv
 obtain ⟨u0,g0,d0⟩:=ha 0 _ rfl
 obtain ⟨u1,g1,d1⟩:=ha 1 _ rfl
 have d0:u0=I6 g:=d0
 subst d0
 obtain ⟨ao,c,rfl,hi⟩:=Cd hm hx d1 hn hr
 refine ⟨ao,zss.length,c, ?_,hi⟩
 match us,hl with
 | ⟨[p,q]⟩,_=>simp at g0 g1;rw [g0,g1]
abbrev pA (g:Int) (R:Nat):AV:= .s (.agg [.val (I6 g), .sl 1003 0 R])
def Fit (zss:List (List Int)):Prop:=zss.length≤4398046511104∧∀zs∈zss,zs.length≤4398046511104
theorem zF {us:List Value} {u0 u1:Value} (hl:us.length=2) (g0:us[0]? =some u0) (g1:us[1]? =some u1):us= [u0,u1]:=by
 match us,hl with
 | [p,q],_=>simp at g0 g1;rw [g0,g1]
theorem yU {E1 E:Nat} {w:World} {lo hi:Nat} {v:Value} {zss:List (List Int)} (h:jR E1 E w lo hi v zss):Fit zss:=by
 obtain ⟨ao,n,c,us,rfl,ho⟩:=h
 refine ⟨by have:=ho.own.2;have:=ho.len;omega,fun zs hz=> ?_⟩
 obtain ⟨j,hj,rfl⟩:=List.getElem_of_mem hz
 obtain ⟨u,d,hu,hd,⟨a',n',c',rfl,h1⟩,_⟩:=ho.get (j:=j) (by have:=ho.len;omega)
 rw [List.getElem?_eq_getElem hj] at hd
 have:=h1.len
 have h2:=h1.2
 rw [Option.some.inj hd]
 simp at this;omega
theorem DG {E1 E:Nat} {w:World} {lo hi:Nat} {v:Value} {d:dy} (h:sf E1 E w lo hi v d):∃u,v= .agg #[I6 d.1,u]∧jR E1 E w lo hi u d.2:=by
 obtain ⟨ao,n,c,us,rfl,ho⟩:=h
 exact ⟨_,rfl,_,_,_,us,rfl,ho⟩
theorem Bf {η:Env} {a b:AV} {u v:Value} (h:Den η a u) (h':Den η b v):l7 η [a,b] [u,v]:=⟨rfl,fun j av hj=>by
 match j,hj with
 | 0,hj=>simp at hj;subst hj;exact ⟨u,rfl,h⟩
 | 1,hj=>simp at hj;subst hj;exact ⟨v,rfl,h'⟩⟩
theorem Ds {η:Env} {g:Int} {R:Nat} {u:Value} (h:cq η (.sl 1003 0 R) u):Den η (pA g R) (.agg #[I6 g,u]):=⟨_,rfl,rfl,fun j b hb=>by
 match j,hb with
 | 0,hb=>simp at hb;subst hb;exact ⟨_,by simp,rfl⟩
 | 1,hb=>simp at hb;subst hb;exact ⟨_,by simp,h⟩⟩
theorem zg {η:Env} {a b:A2} {v:Value} (h:Den η (.tup [a,b]) v):∃u u',v= .tuple #[u,u']∧fi η a u∧fi η b u':=by
 obtain ⟨us,rfl,hl,ha⟩:=h
 obtain ⟨u0,g0,d0⟩:=ha 0 _ rfl
 obtain ⟨u1,g1,d1⟩:=ha 1 _ rfl
 refine ⟨u0,u1, ?_,d0,d1⟩
 match us,hl with
 | ⟨[p,q]⟩,_=>simp at g0 g1;rw [g0,g1]
theorem yZ {f:FuncId} {outs:List (Nm×Ch)} {res:AV} {d:dy} {ws:List (List Int)} (hf:Fit d.2→Fit ws→FC Try.prog f [(1002,aV ws),(1003,aV d.2)] [pA d.1 d.2.length,o1 (.sl 1002 0 ws.length)] outs res []) {E1 E E1' E':Nat} {w:World} {lo hi lo' hi':Nat} {v v':Value} (h:sf E1 E w lo hi v d) (h':jR E1' E' w lo' hi' v' ws):
  Calls Try.prog f #[v,v'] w fun e w'=>∃v η ω,e= .returned v∧Den η res v∧Mem η ω w' (fun x=>lk x outs)∧Below w.heap.size w w'∧∀b,b < w.heap.size→ω b=none:=by
 obtain ⟨u,rfl,hs⟩:=DG h
 obtain ⟨hd,r,rfl,hv⟩:=CQ 1003 24 2 hs
 obtain ⟨hd',r',rfl,hv'⟩:=CQ 1002 24 2 h'
 exact (hf (yU hs) (yU h')).call (l:= [(1002,(aV ws,hd',r')),(1003,(aV d.2,hd,r))]) (us:= [_,_]) (fun p hp=>by simp at hp;rcases hp with rfl | rfl;exact hv';exact hv) rfl
  (Bf (Ds (u9 (q:=(aV d.2,hd,r)) rfl)) (u9 (q:=(aV ws,hd',r')) rfl))
theorem lM {P:Program} {f:FuncId} {args:Array Value} {w:World} {a b:Value} {outs:List (Nm×Ch)} (h:Calls P f args w fun e w'=>∃v η ω,e= .returned v∧Den η (.tup [.one (.val a), .one (.val b)]) v∧Mem η ω w' (fun x=>lk x outs)∧Below w.heap.size w w'∧∀b,b < w.heap.size→ω b=none):
  Calls P f args w fun e w'=>e= .returned (.tuple #[a,b])∧Below w.heap.size w w':=by
 refine h.mono ?_
 rintro e w' ⟨v,η,ω,rfl,hd,_,hb,_⟩
 obtain ⟨u,u',rfl,h1,h2⟩:=zg hd
 have h1:u=a:=h1
 have h2:u'=b:=h2
 subst h1 h2
 exact ⟨rfl,hb⟩
theorem Dx {E:Nat} {w:World} {v:Value} {zs:List Int} (h:pL E w v zs):zs.length≤4398046511104:=by
 obtain ⟨ao,n,c,rfl,ho⟩:=h
 have:=ho.len;have:=ho.2
 simp at *;omega
theorem yN {f:FuncId} {outs:List (Nm×Ch)} {res:AV} {zs:List Int} (m:Int) (hf:zs.length≤4398046511104→FC Try.prog f [(1003,de zs)] [o1 (.sl 1003 0 zs.length),vv (I6 m)] outs res []) {E:Nat} {w:World} {lo hi:Nat} {v:Value} (h:jD E w lo hi v zs):
  Calls Try.prog f #[v, .int .i64 m] w fun e w'=>∃v η ω,e= .returned v∧Den η res v∧Mem η ω w' (fun x=>lk x outs)∧Below w.heap.size w w'∧∀b,b < w.heap.size→ω b=none:=by
 obtain ⟨hd,r,rfl,hv⟩:=Dz 1003 2 h.1
 exact (hf (Dx h.1)).call (l:= [(1003,(de zs,hd,r))]) (us:= [_,_]) (fun p hp=>by simp at hp;subst hp;exact hv) rfl (Bf (u9 (q:=(de zs,hd,r)) rfl) rfl)
end Go.Proofs.Ytekbhbcgoadciaa
namespace Go.Proofs.Ytekbhbcgoadciaa
open Go.RowKit
def eR (A:List Int) (k:Nat):Int:=(A.take k).foldl (· * ·) 1
theorem jY {A:List Int} {k:Nat} (h:k < A.length):eR A (k + 1)=eR A k * aC A k:=by
 unfold eR
 rw [List.take_add_one,List.getElem?_eq_getElem h,List.foldl_append,cG h];rfl
theorem mB {A:List Int} (hA:∀z∈A,2≤z∧z≤32):∀k,k≤A.length→1≤eR A k∧eR A k≤((32 ^ k:Nat):Int)
 | 0,_=>by simp [eR]
 | k + 1,h=>by
  have ih:=mB hA k (by omega)
  have hz:=hA _ (eF (zs:=A) (k:=k) (by omega))
  rw [jY (by omega),Nat.pow_succ,Int.natCast_mul]
  refine ⟨?_,Int.mul_le_mul ih.2 (by omega) (by omega) (Int.natCast_nonneg _)⟩
  have:=Int.mul_le_mul ih.1 (show (1:Int)≤aC A k by omega) (by omega) (by omega)
  omega
theorem qN {A:List Int} (hA:∀z∈A,2≤z∧z≤32) (h5:A.length≤5) {k:Nat} (h:k≤A.length):1≤eR A k∧eR A k≤33554432:=by
 have h1:=mB hA k h
 have h2:32 ^ k≤32 ^ 5:=Nat.pow_le_pow_right (by decide) (by omega)
 have h3:(32:Nat) ^ 5=33554432:=by decide
 omega
theorem wu {ps:dP} (hL:∀k,k < ps.length→mh (db ps k).2):∀j,j≤ps.length→∀z∈eT ps j,2≤z∧z≤32
 | 0,_=>by intro z hz;simp [eT] at hz
 | j + 1,h=>by
  intro z hz
  rw [jk (by omega)] at hz
  rcases List.mem_append.1 hz with hz | hz
  ·exact wu hL j (by omega) z hz
  ·exact nF (hL j (by omega)) z hz
theorem rG {zs:List Int} {mask:Nat} (hd:cf zs=true):∀z∈km zs mask,2≤z∧z≤32:=fun z hz=>
 wu (fun k hk=>kJ hd hk) _ (Nat.le_refl _) z ((List.mergeSort_perm _ _).mem_iff.1 hz)
theorem oy (zs:List Int) (mask:Nat):(km zs mask).length=(eT (comps zs mask) (comps zs mask).length).length:=mI _
theorem rR {zs:List Int} {mask:Nat} (hd:cf zs=true):(km zs mask).length≤5:=by
 have h4:=dz hd
 have h1:=j9 (fun k hk=>kJ hd (mask:=mask) hk) _ (Nat.le_refl _)
 have h2:=kH (comps zs mask) (comps zs mask).length
 have h3:=(jh zs mask).sum
 rw [oy];omega
def kW (zs:List Int) (mask:Nat):Int:=eR (km zs mask) (km zs mask).length
def lR (zs:List Int) (m:Int):Int:=if eI zs m=0 then kW zs m.toNat else 0
set_option maxRecDepth 100000 in
theorem AP (zs:List Int) (L mask:Nat) (hL:zs.length=L) (hd:cf zs=true) (hmk:mask < 1000) (hf:iv zs mask=true):
  FC Try.prog 18 [(1003,de zs)] [o1 (.sl 1003 0 L),vv (I6 mask)] [] (vv (I6 (kW zs mask))) []:=by
 have hA:=(AA zs L mask hL hd hmk hf).nm [(1003,1003),(2300,10)] (by kernel_rfl)
 rw [←oy] at hA
 have hA:FC Try.prog 36 [(1003,de zs)] [o1 (.sl 1003 0 L),vv (I6 mask)] [(10,bw (km zs mask))] (o1 (.sl 10 0 (km zs mask).length)) []:=hA
 have hin:=rG (mask:=mask) hd
 have hle:=rR (mask:=mask) hd
 unfold kW
 refine bc (nt:=24) Try.func18 rfl rfl (by simp) fun w0 ω0=> ?_
 generalize km zs mask=B at *
 have hil:B.length≤(aJ B).length:=by rw [an];exact Nat.le_refl _
 (refine ah ?_;refine ab ?_;apply aa rfl;(exact ag rfl rfl);refine aj ?_;refine ai ?_;refine ah ?_;refine ab ?_;apply aa rfl;(exact ae rfl rfl);apply aa rfl;(exact ae rfl rfl);apply aa rfl;(apply ak 36;exact bz hA (by as_aux_lemma=>kernel_rfl) rfl rfl ⟨rfl,rfl,trivial⟩ ⟨⟨_,rfl, .inl rfl⟩,trivial⟩ rfl rfl rfl);apply aa rfl;(exact ag rfl rfl);apply aa rfl;(exact ag rfl rfl);refine aj ?_;refine ai ?_;refine ah ?_;refine ah ?_;refine ab ?_;apply aa rfl;(exact ag rfl rfl);refine aj ?_;refine ai ?_;refine aB ?_)
 refine bl (fun k:Nat=>St.of [(5,o1 (.sl 10 0 B.length)),(6,vv (I6 (eR B k))),(7,vv (I6 k))] [(10,bw B)]) (fun k=>k≤B.length) (fun k=>B.length - k) 0 (Nat.zero_le _) (Wk.of ⟨rfl,rfl,rfl,trivial⟩ ⟨rfl,trivial⟩ trivial) ?_
 rintro k hk
 (refine ah ?_;refine ah ?_;refine ab ?_;apply aa rfl;(exact ae rfl rfl);apply aa rfl;(exact ae rfl rfl);apply aa rfl;(exact a8 rfl rfl rfl (by as_aux_lemma=>kernel_rfl));apply aa rfl;(exact aD rfl rfl rfl rfl);refine aj ?_;refine ai ?_)
 refine bF rfl (fun hlt=> ?_) (fun hlt=> ?_)
 ·have hkm:k < B.length:=by omega
  have hp:=qN hin hle (k:=k + 1) hkm
  have hg:(aJ B)[k]? =some (I6 (aC B k)):=al hkm
  have hw:IntKind.i64.wrap (eR B k * aC B k)=eR B (k + 1):=by rw [←jY hkm];exact IntWalk.i64_in _ (by omega)
  (refine aI ?_;refine ai ?_;refine ah ?_;refine aB ?_;refine ab ?_;apply aa rfl;(exact ae rfl rfl);apply aa rfl;(exact ae rfl rfl);apply aa rfl;(exact ae rfl rfl);apply aa rfl;(first | exact aU (j:=k) rfl rfl rfl rfl rfl (by as_aux_lemma=>kernel_rfl) rfl hkm hil | exact c9 rfl rfl rfl hw);apply aa rfl;(exact a7 rfl (by as_aux_lemma=>kernel_rfl) rfl rfl rfl (by first | assumption | exact al (by assumption) | exact ar (by assumption) | exact al (by omega) | exact ar (by omega) | rfl));apply aa rfl;(first | exact aU (j:=k) rfl rfl rfl rfl rfl (by as_aux_lemma=>kernel_rfl) rfl hkm hil | exact c9 rfl rfl rfl hw);apply aa rfl;(exact ag rfl rfl);refine aj ?_;refine aK ?_;refine ai ?_;refine ab ?_;apply aa rfl;(exact ae rfl rfl);apply aa rfl;(exact aR rfl rfl rfl (by first | exact IntWalk.i64_in _ (by omega) | rfl));apply aa rfl;(exact ag rfl rfl);refine aj ?_)
  exact aX (k + 1) (by omega) (by omega) (Wk.of ⟨rfl,rfl,rfl,trivial⟩ ⟨rfl,trivial⟩ trivial)
 ·obtain rfl:k=B.length:=by omega
  (refine a5 ?_;refine ax ?_;refine ax ?_;refine aM ?_;refine ai ?_;refine ah ?_;refine ab ?_;apply aa rfl;(exact ae rfl rfl);apply aa rfl;(exact ag rfl rfl);refine aj ?_;refine ai ?_;refine aW ?_)
  exact bd (.inl rfl) rfl (.tmp rfl) trivial trivial
set_option maxRecDepth 100000 in
theorem xO (zs:List Int) (L mask:Nat) (hL:zs.length=L) (hd:cf zs=true) (hmk:mask < 1000) (hf:iv zs mask=true):
  FC Try.prog 16 [(1003,de zs)] [o1 (.sl 1003 0 L),vv (I6 mask)] [] (.tup [.one (.val (I6 (kW zs mask))), .one (.val (.bool true))]) []:=by
 have hA:=(xZ zs L mask hL hd hmk hf).nm [(1003,1003),(2200,15)] (by kernel_rfl)
 unfold Bx at hA
 rw [←oy] at hA
 have hA:FC Try.prog 31 [(1003,de zs)] [o1 (.sl 1003 0 L),vv (I6 mask)] [(15,bw (km zs mask))] (.tup [.one (.sl 15 0 (km zs mask).length), .one (.val (I6 (CC zs mask:Nat))), .one (.val (.bool true))]) []:=hA
 have hin:=rG (mask:=mask) hd
 have hle:=rR (mask:=mask) hd
 unfold kW
 refine bc (nt:=31) Try.func16 rfl rfl (by simp) fun w0 ω0=> ?_
 generalize km zs mask=B at *
 have hil:B.length≤(aJ B).length:=by rw [an];exact Nat.le_refl _
 (refine ah ?_;refine ab ?_;apply aa rfl;(exact ag rfl rfl);apply aa rfl;(exact ag rfl rfl);refine aj ?_;refine ai ?_;refine ah ?_;refine ab ?_;apply aa rfl;(exact ae rfl rfl);apply aa rfl;(exact ae rfl rfl);apply aa rfl;(apply ak 31;exact bz hA (by as_aux_lemma=>kernel_rfl) rfl rfl ⟨rfl,rfl,trivial⟩ ⟨⟨_,rfl, .inl rfl⟩,trivial⟩ rfl rfl rfl);apply aa rfl;(exact ae rfl rfl);apply aa rfl;(exact aZ rfl rfl rfl);apply aa rfl;(exact aZ rfl rfl rfl);apply aa rfl;(exact aZ rfl rfl rfl);apply aa rfl;(exact ag rfl rfl);apply aa rfl;(exact ag rfl rfl);apply aa rfl;(exact ag rfl rfl);refine aj ?_;refine ai ?_;refine ah ?_;refine ab ?_;apply aa rfl;(exact ag rfl rfl);refine aj ?_;refine ai ?_;refine ah ?_;refine ah ?_;refine ab ?_;apply aa rfl;(exact ae rfl rfl);apply aa rfl;(exact a8 rfl rfl rfl (by as_aux_lemma=>kernel_rfl));apply aa rfl;(exact ae rfl rfl);refine aj ?_;refine ai ?_;refine aB ?_)
 refine bl (fun k:Nat=>St.of [(8,vv (.bool true)),(9,vv (I6 (eR B k))),(19,o1 (.sl 15 0 B.length)),(20,vv (I6 B.length)),(21,vv (I6 k))] [(15,bw B)]) (fun k=>k≤B.length) (fun k=>B.length - k) 0 (Nat.zero_le _) (Wk.of ⟨rfl,rfl,rfl,rfl,rfl,trivial⟩ ⟨rfl,trivial⟩ trivial) ?_
 rintro k hk
 (refine ah ?_;refine ab ?_;apply aa rfl;(exact aD rfl rfl rfl rfl);refine aj ?_;refine ai ?_;refine ah ?_)
 refine bF rfl (fun hlt=> ?_) (fun hlt=> ?_)
 ·have hkm:k < B.length:=by omega
  have hp:=qN hin hle (k:=k + 1) hkm
  have hg:(aJ B)[k]? =some (I6 (aC B k)):=al hkm
  have hw:IntKind.i64.wrap (eR B k * aC B k)=eR B (k + 1):=by rw [←jY hkm];exact IntWalk.i64_in _ (by omega)
  (refine aI ?_;refine ai ?_;refine ah ?_;refine aB ?_;refine ah ?_;refine ab ?_;apply aa rfl;(first | exact aU (j:=k) rfl rfl rfl rfl rfl (by as_aux_lemma=>kernel_rfl) rfl hkm hil | exact c9 rfl rfl rfl hw);apply aa rfl;(exact a7 rfl (by as_aux_lemma=>kernel_rfl) rfl rfl rfl (by first | assumption | exact al (by assumption) | exact ar (by assumption) | exact al (by omega) | exact ar (by omega) | rfl));apply aa rfl;(exact ag rfl rfl);refine aj ?_;refine ai ?_;refine ab ?_;apply aa rfl;(exact ae rfl rfl);apply aa rfl;(exact ae rfl rfl);apply aa rfl;(first | exact aU (j:=k) rfl rfl rfl rfl rfl (by as_aux_lemma=>kernel_rfl) rfl hkm hil | exact c9 rfl rfl rfl hw);apply aa rfl;(exact ag rfl rfl);refine aj ?_;refine aK ?_;refine ai ?_;refine ab ?_;apply aa rfl;(exact aR rfl rfl rfl (by first | exact IntWalk.i64_in _ (by omega) | rfl));apply aa rfl;(exact ae rfl rfl);refine aj ?_)
  exact aX (k + 1) (by omega) (by omega) (Wk.of ⟨rfl,rfl,rfl,rfl,rfl,trivial⟩ ⟨rfl,trivial⟩ trivial)
 ·obtain rfl:k=B.length:=by omega
  (refine a5 ?_;refine ax ?_;refine ax ?_;refine aM ?_;refine ai ?_;refine ah ?_;refine ab ?_;apply aa rfl;(exact ae rfl rfl);apply aa rfl;(exact ae rfl rfl);apply aa rfl;(exact ag rfl rfl);apply aa rfl;(exact ag rfl rfl);refine aj ?_;refine ai ?_;refine aW ?_)
  exact cH (.inl rfl) rfl (.tmp rfl) (.tmp rfl) trivial trivial
set_option maxRecDepth 100000 in
theorem zQ (zs:List Int) (L mask:Nat) (hL:zs.length=L) (hd:cf zs=true) (hmk:mask < 1000) (hf:iv zs mask=false):
  FC Try.prog 16 [(1003,de zs)] [o1 (.sl 1003 0 L),vv (I6 mask)] [] (.tup [.one (.val (I6 1)), .one (.val (.bool false))]) []:=by
 have hA:=y5 zs L mask hL hd hmk hf
 refine bc (nt:=31) Try.func16 rfl rfl (by simp) fun w0 ω0=> ?_
 (refine ah ?_;refine ab ?_;apply aa rfl;(exact ag rfl rfl);apply aa rfl;(exact ag rfl rfl);refine aj ?_;refine ai ?_;refine ah ?_;refine ab ?_;apply aa rfl;(exact ae rfl rfl);apply aa rfl;(exact ae rfl rfl);apply aa rfl;(apply ak 31;exact aq hA (by as_aux_lemma=>kernel_rfl) rfl rfl ⟨rfl,rfl,trivial⟩ ⟨⟨_,rfl, .inl rfl⟩,trivial⟩ rfl rfl);apply aa rfl;(exact ae rfl rfl);apply aa rfl;(exact aZ rfl rfl rfl);apply aa rfl;(exact aZ rfl rfl rfl);apply aa rfl;(exact aZ rfl rfl rfl);apply aa rfl;(exact ag rfl rfl);apply aa rfl;(exact ag rfl rfl);apply aa rfl;(exact ag rfl rfl);refine aj ?_;refine ai ?_;refine ah ?_;refine ab ?_;apply aa rfl;(exact ag rfl rfl);refine aj ?_;refine ai ?_;refine ah ?_;refine ah ?_;refine ab ?_;apply aa rfl;(exact ae rfl rfl);apply aa rfl;(exact a8 rfl rfl rfl (by as_aux_lemma=>kernel_rfl));apply aa rfl;(exact ae rfl rfl);refine aj ?_;refine ai ?_;refine aB ?_)
 refine bl (fun _:Nat=>St.of [(8,vv (.bool false)),(9,vv (I6 1)),(20,vv (I6 0)),(21,vv (I6 0))] []) (fun _=>True) (fun _=>0) 0 trivial (Wk.of ⟨rfl,rfl,rfl,rfl,trivial⟩ trivial trivial) ?_
 rintro _ _
 (refine ah ?_;refine ab ?_;apply aa rfl;(exact aD rfl rfl rfl rfl);refine aj ?_;refine ai ?_;refine ah ?_)
 refine au rfl (fun e=>by simp at e) (fun _=> ?_)
 (refine a5 ?_;refine ax ?_;refine ax ?_;refine aM ?_;refine ai ?_;refine ah ?_;refine ab ?_;apply aa rfl;(exact ae rfl rfl);apply aa rfl;(exact ae rfl rfl);apply aa rfl;(exact ag rfl rfl);apply aa rfl;(exact ag rfl rfl);refine aj ?_;refine ai ?_;refine aW ?_)
 exact cH (.inl rfl) rfl (.tmp rfl) (.tmp rfl) trivial trivial
set_option maxRecDepth 100000 in
theorem wT (zs:List Int) (L:Nat) (m:Int) (hL:zs.length=L) (h4:L≤4):
  FC Try.prog 15 [(1003,de zs)] [o1 (.sl 1003 0 L),vv (I6 m)] [] (vv (.bool (jF m 0 (ew zs)))) []:=by
 have hA:=Ag zs L hL h4
 have hW:=xS m 0 (ew zs)
 refine bc (nt:=9) Try.func15 rfl rfl (by simp) fun w0 ω0=> ?_
 (refine ah ?_;refine ab ?_;apply aa rfl;(exact ag rfl rfl);refine aj ?_;refine ai ?_;refine ah ?_;refine ab ?_;apply aa rfl;(exact ae rfl rfl);apply aa rfl;(exact ae rfl rfl);apply aa rfl;(first | (apply ak 30;exact aq hA (by as_aux_lemma=>kernel_rfl) rfl rfl ⟨rfl,trivial⟩ ⟨⟨_,rfl, .inl rfl⟩,trivial⟩ rfl rfl) | (apply ak 29;exact aq hW (by as_aux_lemma=>kernel_rfl) rfl rfl ⟨rfl,rfl,rfl,trivial⟩ trivial rfl rfl));apply aa rfl;(first | (apply ak 30;exact aq hA (by as_aux_lemma=>kernel_rfl) rfl rfl ⟨rfl,trivial⟩ ⟨⟨_,rfl, .inl rfl⟩,trivial⟩ rfl rfl) | (apply ak 29;exact aq hW (by as_aux_lemma=>kernel_rfl) rfl rfl ⟨rfl,rfl,rfl,trivial⟩ trivial rfl rfl));apply aa rfl;(exact ag rfl rfl);refine aj ?_;refine ai ?_;refine aW ?_)
 exact bd (.inl rfl) rfl (.tmp rfl) trivial trivial
end Go.Proofs.Ytekbhbcgoadciaa
namespace Go.Proofs.Ytekbhbcgoadciaa
def Ac (zs:List Int) (mask:Nat):Int:=(eT (comps zs mask) (comps zs mask).length).foldl (· * ·) 1
theorem wJ {a b:List Int} (h:a.Perm b):∀z:Int,a.foldl (· * ·) z=b.foldl (· * ·) z:=by
 induction h with
 | nil=>intro z;rfl
 | cons x _ ih=>intro z;exact ih _
 | swap x y l=>
  intro z
  show List.foldl _ (z * y * x) l=List.foldl _ (z * x * y) l
  rw [Int.mul_assoc,Int.mul_comm y x,←Int.mul_assoc]
 | trans _ _ ih1 ih2=>intro z;exact (ih1 z).trans (ih2 z)
theorem yu (zs:List Int) (mask:Nat):kW zs mask=Ac zs mask:=by
 unfold kW Ac eR km
 rw [List.take_length]
 exact wJ (List.mergeSort_perm _ _) 1
end Go.Proofs.Ytekbhbcgoadciaa
namespace Go.Proofs.Ytekbhbcgoadciaa
def ez:Lv:=⟨2,8,(.n (.l 1) (.l 1099511627776))⟩
def iY:Lv:=⟨3,8,(.n (.n (.l 259) (.l 3298534884097)) (.l 2199023255554))⟩
def oT:Lv:=⟨4,8,(.n (.n (.l 260) (.l 3298534884097)) (.n (.l 2199023255554) (.l 3298534883844)))⟩
def oN:Lv:=⟨5,8,(.n (.n (.n (.l 261) (.l 3298534884611)) (.l 3298534884097)) (.n (.l 2199023255554) (.l 3298534883844)))⟩
def oh:Lv:=⟨4,8,(.n (.n (.l 66820) (.l 6597070094595)) (.n (.l 4398046511620) (.l 7696581723138)))⟩
def yL:Lv:=⟨6,8,(.n (.n (.n (.l 67334) (.l 7696581722886)) (.l 6597070225667)) (.n (.n (.l 4398046511622) (.l 7696581658374)) (.l 7696581854210)))⟩
def yo:Lv:=⟨8,8,(.n (.n (.n (.l 67848) (.l 6597069900037)) (.n (.l 6597070029059) (.l 7696581854473))) (.n (.n (.l 4398046511624) (.l 7696581592580)) (.n (.l 7696581724162) (.l 7696581789705))))⟩
def zW:Lv:=⟨12,8,(.n (.n (.n (.n (.l 68876) (.l 7696582182665)) (.l 7696581788421)) (.n (.n (.l 6597070618883) (.l 7696582117645)) (.l 7696581659911))) (.n (.n (.n (.l 4398046511628) (.l 7696582183432)) (.l 7696581856260)) (.n (.n (.l 7696582247426) (.l 7696582052877)) (.l 7696581724166))))⟩
def Bi:Lv:=⟨20,8,(.n (.n (.n (.n (.n (.l 70932) (.l 7696582251793)) (.l 7696582772998)) (.n (.l 6597069899269) (.l 7696582707726))) (.n (.n (.n (.l 6597070029059) (.l 7696582643989)) (.l 7696581856267)) (.n (.l 6597071143944) (.l 7696582709004)))) (.n (.n (.n (.n (.l 4398046511636) (.l 7696582382096)) (.l 7696582117383)) (.n (.l 7696581592836) (.l 7696582445839))) (.n (.n (.n (.l 7696581727234) (.l 7696582579221)) (.l 7696581987594)) (.n (.l 7696582051081) (.l 7696582512141)))))⟩
def iU:Lv:=⟨2,8,(.n (.l 258) (.l 2199023255554))⟩
def ug:Lv:=⟨3,8,(.n (.n (.l 66563) (.l 6597070029059)) (.l 4398046511619))⟩
def nN:Lv:=⟨2,8,(.n (.l 66306) (.l 4398046511874))⟩
def tj:Lv:=⟨6,8,(.n (.n (.n (.l 262) (.l 3298534884611)) (.l 3298534884097)) (.n (.n (.l 2199023255554) (.l 3298534884358)) (.l 3298534883844)))⟩
def oK:Lv:=⟨2,8,(.n (.l 66306) (.l 4398046511874))⟩
def ux:Lv:=⟨5,8,(.n (.n (.n (.l 17237509) (.l 16492792251651)) (.l 13194257040133)) (.n (.l 8796093154821) (.l 15393280623108)))⟩
def pr:Lv:=⟨2,8,(.n (.l 66306) (.l 4398046511874))⟩
def C7:Lv:=⟨7,8,(.n (.n (.n (.l 263) (.l 3298534884611)) (.n (.l 3298534884097) (.l 3298534885125))) (.n (.n (.l 2199023255554) (.l 3298534884358)) (.l 3298534883844)))⟩
def Bw:Lv:=⟨3,8,(.n (.n (.l 17105923) (.l 13194223485955)) (.l 8796093154307))⟩
def oP:Lv:=⟨2,8,(.n (.l 66306) (.l 4398046511874))⟩
def CB:Lv:=⟨3,8,(.n (.n (.l 17105923) (.l 13194223485955)) (.l 8796093154307))⟩
def Cm:Lv:=⟨16,8,(.n (.n (.n (.n (.l 17961232) (.l 15393330958857)) (.n (.l 13194174268944) (.l 16492826529034))) (.n (.n (.l 13194206708496) (.l 15393298125324)) (.n (.l 15393213645831) (.l 16492926931218)))) (.n (.n (.n (.l 8796093157648) (.l 16492876204808)) (.n (.l 16492792975363) (.l 16492859886610))) (.n (.n (.l 15393264566789) (.l 16492893571346)) (.n (.l 16492758896646) (.l 16492910350610)))))⟩
def BW:Lv:=⟨8,8,(.n (.n (.n (.l 17434888) (.l 16492842779907)) (.n (.l 13194307371784) (.l 16492792187144))) (.n (.n (.l 8796093155592) (.l 16492842583048)) (.n (.l 15393331151364) (.l 16492775737608))))⟩
def BN:Lv:=⟨4,8,(.n (.n (.l 17171716) (.l 13194240262916)) (.n (.l 8796093154564) (.l 15393263780356)))⟩
def B5:Lv:=⟨2,8,(.n (.l 17040130) (.l 8796093285122))⟩
def zB:Lv:=⟨2,8,(.n (.l 17040130) (.l 8796093285122))⟩
def A8:Lv:=⟨2,8,(.n (.l 4379116290) (.l 17592270193410))⟩
def yR:Lv:=⟨2,8,(.n (.l 17040130) (.l 8796093285122))⟩
def BJ:Lv:=⟨24,8,(.n (.n (.n (.n (.n (.l 18487576) (.l 16492927323666)) (.l 16492859622937)) (.n (.n (.l 16493111023619) (.l 16493111809299)) (.l 16492843112473))) (.n (.n (.n (.l 13194575807256) (.l 16492960946448)) (.l 16492876273689)) (.n (.n (.l 16492825675781) (.l 16493061675288)) (.l 16492893311001)))) (.n (.n (.n (.n (.l 8796093159704) (.l 16492978116879)) (.l 16492776786695)) (.n (.n (.l 15393280432390) (.l 16493112071192)) (.l 16492910022425))) (.n (.n (.n (.l 15393599324676) (.l 16493111678996)) (.l 16492809488665)) (.n (.n (.l 15393248385289) (.l 16493045225752)) (.l 16492944559377)))))⟩
def Cg:Lv:=⟨600,12,(.n (.n (.n (.n (.n (.n (.n (.n (.n (.n (.l 78821823064) (.l 17293858242868335091)) (.l 17293839203847704812)) (.n (.l 17293831023997960304) (.l 17293863876254159252))) (.n (.n (.n (.l 17293827930144858189) (.l 17293861611867763269)) (.l 17293845389674463574)) (.n (.l 17293834392393404626) (.l 17293852057578168785)))) (.n (.n (.n (.n (.l 17293863870162681881) (.l 17293863947457348139)) (.l 17293863942725255437)) (.n (.l 17293832948126781585) (.l 17293852537456738739))) (.n (.n (.l 17293830129721888851) (.l 17293845321508929906)) (.n (.l 17293836591955284173) (.l 17293854394107761135))))) (.n (.n (.n (.n (.n (.l 17293823325386133517) (.l 17293859548840440408)) (.l 17293839822625067299)) (.n (.l 17293831230475202721) (.l 17293848758138016164))) (.n (.n (.n (.l 17293827174868303940) (.l 17293863535795057230)) (.l 17293844634028871995)) (.n (.l 17293838247244067005) (.l 17293853569624826337)))) (.n (.n (.n (.n (.l 17293825250135605288) (.l 17293860374346625591)) (.l 17293842022151606556)) (.n (.l 17293835972069040321) (.l 17293850822892437953))) (.n (.n (.l 17293829924201046144) (.l 17293849169397911938)) (.n (.l 17293840508594963032) (.l 17293857692827242975)))))) (.n (.n (.n (.n (.n (.n (.l 17293822912887095302) (.l 17293857350085579259)) (.l 17293839272550449397)) (.n (.l 17293830749287842393) (.l 17293850887769928090))) (.n (.n (.n (.l 17293828480018141269) (.l 17293863879325266498)) (.l 17293843676066599253)) (.n (.l 17293834873580765403) (.l 17293855080782332344)))) (.n (.n (.n (.n (.l 16140903126902370352) (.l 17293861198560948765)) (.l 17293841403558834492)) (.n (.l 17293834735554490555) (.l 17293850407891198553))) (.n (.n (.l 17293830816950349915) (.l 17293848207139778938)) (.n (.l 17293837141843726586) (.l 17293855013119824472))))) (.n (.n (.n (.n (.n (.l 16140903195101749277) (.l 17293858587287810594)) (.l 17293842776958619948)) (.n (.l 17293833780461072553) (.l 17293851918847353257))) (.n (.n (.l 17293829580100259915) (.l 17293844702731612483)) (.n (.l 17293836522429006057) (.l 17293856112346169944)))) (.n (.n (.n (.n (.l 17293825731322904623) (.l 17293862160918901310)) (.l 17293843189829255462)) (.n (.l 17293863941600600664) (.l 17293853981002793416))) (.n (.n (.l 17293829725995171945) (.l 17293847043337920869)) (.n (.l 17293838310377005324) (.l 17293858174081606149))))))) (.n (.n (.n (.n (.n (.n (.n (.l 13835058192838582872) (.l 17293857075140858456)) (.l 17293841952039436569)) (.n (.l 17293830405623328916) (.l 17293850544205934961))) (.n (.n (.n (.l 17293826487474298960) (.l 17293862848415654473)) (.l 17293846351143342385)) (.n (.l 17293835423235920049) (.l 17293852469945397684)))) (.n (.n (.n (.n (.l 17293863870229774364) (.l 17293859618247778862)) (.l 17293844082880373007)) (.n (.l 17293832605200367763) (.l 17293849995389915536))) (.n (.n (.l 17293830473285836913) (.l 17293848413264634190)) (.n (.l 17293836866898698449) (.l 17293856457906536915))))) (.n (.n (.n (.n (.n (.l 17293824365875499023) (.l 17293863946954080777)) (.l 17293842983083471102)) (.n (.l 17293831574139846788) (.l 17293863876589785472))) (.n (.n (.n (.l 17293827449830117449) (.l 17293863261118485073)) (.l 17293847450923299177)) (.n (.l 17293838515327209703) (.l 17293855630806630851)))) (.n (.n (.n (.n (.l 17293863801493643309) (.l 17293860855433306684)) (.l 17293863943715029321)) (.n (.l 17293833704561213638) (.l 17293851164006814148))) (.n (.n (.l 17293829993004531813) (.l 17293846696217149831)) (.n (.l 17293840852276089097) (.l 17293855906674401880)))))) (.n (.n (.n (.n (.n (.n (.l 16140902301614247953) (.l 17293859411300721175)) (.l 17293839547646472440)) (.n (.l 17293833299424690333) (.l 17293851231451218303))) (.n (.n (.n (.l 17293826908513210433) (.l 17293863810572329551)) (.l 17293844565225341281)) (.n (.l 17293837965405294777) (.l 17293852951099191771)))) (.n (.n (.n (.n (.l 17293824906471026741) (.l 17293861129891828259)) (.l 17293844014261600536)) (.n (.l 17293835765860118719) (.l 17293851301294756249))) (.n (.n (.l 17293830550662393950) (.l 17293846283749269881)) (.n (.l 17293837897808314624) (.l 17293855288098533881))))) (.n (.n (.n (.n (.n (.l 17293863870078738468) (.l 17293860442411786770)) (.l 17293840647443218736)) (.n (.l 17293832192715698350) (.l 17293849513850241454))) (.n (.n (.l 17293827999720079962) (.l 17293847794671849799)) (.n (.l 17293863872864530671) (.l 17293856386804789738)))) (.n (.n (.n (.n (.l 17293826006267940915) (.l 17293861474042909236)) (.l 17293842847003480360)) (.n (.l 17293836728167887449) (.l 17293854324683485610))) (.n (.n (.l 17293832122939261530) (.l 17293847383529419114)) (.n (.l 17293839135044178193) (.l 17293856868378124807)))))))) (.n (.n (.n (.n (.n (.n (.n (.n (.l 13835058330176860760) (.l 17293858792657699416)) (.l 17293838929036804375)) (.n (.l 17293830344470507635) (.l 17293850475369156976))) (.n (.n (.n (.l 17293863802080895031) (.l 17293863879241343560)) (.l 17293846213670826287)) (.n (.l 17293837346760491222) (.l 17293854256047927730)))) (.n (.n (.n (.n (.l 17293825593229553707) (.l 17293859343353348632)) (.l 17293843945458032950)) (.n (.l 17293834941025169586) (.l 17293851988338467213))) (.n (.n (.l 17293828961423786071) (.l 17293848345098637686)) (.n (.l 17293836798128873718) (.l 17293856799205986770))))) (.n (.n (.n (.n (.n (.l 16140901889532284951) (.l 17293859823751909916)) (.l 17293842914934247719)) (.n (.l 17293833841748226177) (.l 17293851643885384102))) (.n (.n (.n (.l 17293827312340722266) (.l 17293863810773611098)) (.l 17293844359217959271)) (.n (.l 17293835698382454976) (.l 17293855768128020962)))) (.n (.n (.n (.n (.l 17293826693043236905) (.l 17293860511819199017)) (.l 17293863805571588382)) (.n (.l 17293836178261037218) (.l 17293853224953721282))) (.n (.n (.l 17293831641768542339) (.l 17293846627464270176)) (.n (.l 17293840171356152031) (.l 17293855700482888163)))))) (.n (.n (.n (.n (.n (.n (.l 16140942433822208014) (.l 17293857831138607638)) (.l 17293839341454315805)) (.n (.l 17293830886760358042) (.l 17293848277134311799))) (.n (.n (.n (.l 17293863802215079998) (.l 17293862436300149325)) (.l 17293843878013800759)) (.n (.l 17293835079772917943) (.l 17293852882346811993)))) (.n (.n (.n (.n (.l 17293824837718061091) (.l 17293860167752041009)) (.l 17293863805437206846)) (.n (.l 17293833086339220057) (.l 17293853156133405116))) (.n (.n (.l 17293830954422866522) (.l 17293845940118311292)) (.n (.l 17293837279316386007) (.l 17293857280409698780))))) (.n (.n (.n (.n (.n (.l 17293823944045981717) (.l 17293858861830259288)) (.l 17293840441251221806)) (.n (.l 17293831986542387338) (.l 17293852125039350152))) (.n (.n (.l 17293827862247661646) (.l 17293844840338342213)) (.n (.l 17293836110833410285) (.l 17293856043173843545)))) (.n (.n (.n (.n (.l 17293827380271665201) (.l 17293863878939386419)) (.l 17293845595044503885)) (.n (.l 17293834048712266329) (.l 17293854187261170123))) (.n (.n (.l 17293829855699837530) (.l 17293849375723278696)) (.n (.l 17293838447832637672) (.l 17293858311503892971))))))) (.n (.n (.n (.n (.n (.n (.n (.l 16140901270805299208) (.l 17293857212612973073)) (.l 17293841334235242737)) (.n (.l 17293830611815456886) (.l 17293848551274156405))) (.n (.n (.n (.l 17293826564915798075) (.l 17293862917118399039)) (.l 17293863806578139475)) (.n (.l 17293834804358127796) (.l 17293854943309800025)))) (.n (.n (.n (.n (.l 17293824572067606559) (.l 17293861061138694703)) (.l 17293841815120884024)) (.n (.l 17293863940711481493) (.l 17293852743732769170))) (.n (.n (.l 17293828618379960409) (.l 17293848482034291033)) (.n (.l 17293863873032458451) (.l 17293854806844064214))))) (.n (.n (.n (.n (.n (.l 17293863869776773139) (.l 17293858724693275146)) (.l 17293843120572600587)) (.n (.l 17293831711595455065) (.l 17293849104922345859))) (.n (.n (.n (.l 17293827518583050339) (.l 17293863742087729754)) (.l 17293846833135882560)) (.n (.l 17293838652749541570) (.l 17293853707081187814)))) (.n (.n (.n (.n (.l 17293827036607152191) (.l 17293861886007431725)) (.l 17293845251480502562)) (.n (.l 17293836453189292197) (.l 17293863808356995527))) (.n (.n (.l 17293829649476194438) (.l 17293849651087556962)) (.n (.l 17293838172872347874) (.l 17293858036542444120)))))) (.n (.n (.n (.n (.n (.n (.l 17293863938515369994) (.l 17293859273945747969)) (.l 17293842570665926907)) (.n (.l 17293831161722302591) (.l 17293850956707537275))) (.n (.n (.n (.l 17293826968676208730) (.l 17293863329586324048)) (.l 17293847107242008932)) (.n (.l 17293835491485819481) (.l 17293853088571830717)))) (.n (.n (.n (.n (.l 17293826418232422437) (.l 17293860305593795108)) (.l 17293841884680388890)) (.n (.l 17293833361267466396) (.l 17293850751136432540))) (.n (.n (.l 17293829168270028897) (.l 17293863875868209537)) (.n (.l 17293840302386073857) (.l 17293857624493515261))))) (.n (.n (.n (.n (.n (.l 16140903813694455847) (.l 17293858999722218023)) (.l 17293863805252706610)) (.n (.l 17293834597461192845) (.l 17293852331248820619))) (.n (.n (.l 17293829519870070892) (.l 17293848000847089995)) (.n (.l 17293838584130769099) (.l 17293856592996786639)))) (.n (.n (.n (.n (.l 17293863801996918858) (.l 17293862504633745976)) (.l 17293863805772968234)) (.n (.l 17293834323455971501) (.l 17293852400521380301))) (.n (.n (.l 17293832466586857615) (.l 17293850131704623706)) (.n (.l 17293841608358146324) (.l 17293856525317501451))))))))) (.n (.n (.n (.n (.n (.n (.n (.n (.n (.l 9223372036890792536) (.l 17293858449076990478)) (.l 17293841745814053102)) (.n (.l 17293832673231835282) (.l 17293863876187210094))) (.n (.n (.n (.l 17293826290037874764) (.l 17293861955129557561)) (.l 17293845664032448813)) (.n (.l 17293837209288130736) (.l 17293852197282189744)))) (.n (.n (.n (.n (.l 17293825455757103131) (.l 17293863947189006869)) (.l 17293863943278743861)) (.n (.l 17293832398974939280) (.l 17293849792083607955))) (.n (.n (.l 17293828274681888878) (.l 17293846077389472076)) (.n (.l 17293839408814833907) (.l 17293854738141336016))))) (.n (.n (.n (.n (.n (.l 17293824149885632524) (.l 17293858106134004230)) (.l 17293840578505605372)) (.n (.l 17293831848363438240) (.l 17293848827007726170))) (.n (.n (.n (.l 17293828548838416477) (.l 17293863123679552084)) (.l 17293847244697919805)) (.n (.l 17293835560926568676) (.l 17293853294797263296)))) (.n (.n (.n (.n (.l 16140905119618539578) (.l 17293860786378347050)) (.l 17293844907698671940)) (.n (.l 17293834117230231748) (.l 17293851026518286751))) (.n (.n (.l 17293831504296153188) (.l 17293849306919723396)) (.n (.l 17293839890773827846) (.l 17293855495800357375)))))) (.n (.n (.n (.n (.n (.n (.l 16140901957949767691) (.l 17293863946735931924)) (.l 17293842158281928948)) (.n (.l 17293833153968185465) (.l 17293848620681351581))) (.n (.n (.n (.l 17293826762450755668) (.l 17293863054674780740)) (.l 17293863944067436852)) (.n (.l 17293837759194817112) (.l 17293852815758033369)))) (.n (.n (.n (.n (.l 17293826074416910386) (.l 17293859755787412018)) (.l 17293841541014733077)) (.n (.l 17293835017411866776) (.l 17293853018661036440))) (.n (.n (.l 17293828832643879032) (.l 17293848688243097940)) (.n (.l 17293837828401119448) (.l 17293857007662375415))))) (.n (.n (.n (.n (.n (.l 16140942365404770336) (.l 17293859893863834125)) (.l 17293843326782767364)) (.n (.l 17293834253697909337) (.l 17293849857883660716))) (.n (.n (.l 17293827724791824486) (.l 17293847588462936422)) (.n (.l 17293838859495043269) (.l 17293853915269202377)))) (.n (.n (.n (.n (.l 17293827242818117699) (.l 17293861405256258113)) (.l 17293842640778076453)) (.n (.l 17293836659414692044) (.l 17293854049739055705))) (.n (.n (.l 17293832054186090633) (.l 17293847177320624492)) (.n (.l 17293863873988681987) (.l 17293856250355802604))))))) (.n (.n (.n (.n (.n (.n (.n (.l 17293823128944082947) (.l 17293858930247574008)) (.l 17293839071878160984)) (.n (.l 17293832879021183577) (.l 17293847933436240279))) (.n (.n (.n (.l 17293828205425435226) (.l 17293862024184635968)) (.l 17293843534366187866)) (.n (.l 17293837553506132185) (.l 17293854874574094805)))) (.n (.n (.n (.n (.l 17293825799606095918) (.l 17293860924656288283)) (.l 17293841197350060345)) (.n (.l 17293835147235655862) (.l 17293863807518204506))) (.n (.n (.l 17293829030646476916) (.l 17293845531509191032)) (.n (.l 17293839615040348407) (.l 17293856936761840216))))) (.n (.n (.n (.n (.n (.l 17293823600347906074) (.l 17293863946987541025)) (.l 17293840028850450729)) (.n (.l 17293863940444749990) (.l 17293851713192075865))) (.n (.n (.n (.l 17293829373572808776) (.l 17293863467226579546)) (.l 17293844500700373320)) (.n (.l 17293835835871756483) (.l 17293855974353686981)))) (.n (.n (.n (.n (.l 17293825525097414700) (.l 17293861680553574973)) (.l 17293863943614533921)) (.n (.l 17293834186033741987) (.l 17293851370182034009))) (.n (.n (.l 17293831779224408167) (.l 17293847314021519750)) (.n (.l 17293838035264250120) (.l 17293856181535535619)))))) (.n (.n (.n (.n (.n (.n (.l 16140901683289989136) (.l 17293859069230055961)) (.l 17293863942389633312)) (.n (.l 17293833497664278686) (.l 17293850682349560226))) (.n (.n (.n (.l 17293828754963267648) (.l 17293862779931112010)) (.l 17293846969769664826)) (.n (.l 17293835285981536480) (.l 17293853500301496766)))) (.n (.n (.n (.n (.l 17293863801376174132) (.l 17293861336083739190)) (.l 17293844220587639105)) (.n (.l 17293833223642284222) (.l 17293853362845491647))) (.n (.n (.l 17293829099535831642) (.l 17293863875314712923)) (.n (.l 17293837485541798106) (.l 17293855837820686813))))) (.n (.n (.n (.n (.n (.l 17293825180828848152) (.l 17293860579884212776)) (.l 17293840784899113226)) (.n (.l 17293834536377229452) (.l 17293849926687179145))) (.n (.n (.l 17293829304954040401) (.l 17293845046546956655)) (.n (.l 17293836385744888408) (.l 17293854669337842157)))) (.n (.n (.n (.n (.l 17293827586480439367) (.l 17293862230309429813)) (.l 17293845801253146961)) (.n (.l 17293836941573927120) (.l 17293851851369394638))) (.n (.n (.l 17293832329114472559) (.l 17293850062969213327)) (.n (.l 17293841470885798123) (.l 17293858518064890350)))))))) (.n (.n (.n (.n (.n (.n (.n (.n (.l 16140901486895833093) (.l 17293857143826780661)) (.l 17293863874173268217)) (.n (.l 17293832741532016754) (.l 17293847867972489622))) (.n (.n (.n (.l 17293828067600691257) (.l 17293863879107183163)) (.l 17293843396726989144)) (.n (.l 17293834667355369685) (.l 17293854462290108884)))) (.n (.n (.n (.n (.l 17293824425283731498) (.l 17293860648687686188)) (.l 17293841128597188880)) (.n (.l 17293833017466884277) (.l 17293852606310445657))) (.n (.n (.l 17293828412154503254) (.l 17293845458461356367)) (.n (.l 17293839484162773199) (.l 17293854600752624114))))) (.n (.n (.n (.n (.n (.l 16140942365119582230) (.l 17293858655906591263)) (.l 17293839959560716543)) (.n (.l 17293831436683976868) (.l 17293848898730357153))) (.n (.n (.n (.l 17293829236150530144) (.l 17293863604598407770)) (.l 17293863806796292422)) (.n (.l 17293863872730349798) (.l 17293855358394835428)))) (.n (.n (.n (.n (.l 17293825387624833084) (.l 17293863878788362810)) (.l 17293845113907474751)) (.n (.l 17293836315733401799) (.l 17293853637320794528))) (.n (.n (.l 17293829451117248642) (.l 17293849444342055263)) (.n (.l 17293840714803736801) (.l 17293857486702383616)))))) (.n (.n (.n (.n (.n (.n (.l 17293823668748611593) (.l 17293857556294267390)) (.l 17293842295771066646)) (.n (.l 17293831092365279834) (.l 17293851093978571166))) (.n (.n (.n (.l 17293828686528901208) (.l 17293862573755912775)) (.l 17293846763577667934)) (.n (.l 17293837415580823774) (.l 17293855218355388858)))) (.n (.n (.n (.n (.l 17293826211839156258) (.l 17293863947608396320)) (.l 17293841678470312223)) (.n (.l 17293835628387750043) (.l 17293850614133674427))) (.n (.n (.l 17293830267714523259) (.l 17293846146293531226)) (.n (.l 17293840096177414397) (.l 17293857417882092026))))) (.n (.n (.n (.n (.n (.l 17293824974636851233) (.l 17293860237461226021)) (.l 17293843469907824903)) (.n (.l 17293834459888140459) (.l 17293852262511706543))) (.n (.n (.l 17293829785958846568) (.l 17293863874962317677)) (.n (.l 17293836248289300680) (.l 17293854119565255116)))) (.n (.n (.n (.n (.l 16140904441835790406) (.l 17293863878972879427)) (.l 17293843259269996880)) (.n (.l 17293836041543389352) (.l 17293851782616498603))) (.n (.n (.l 17293831367494647915) (.l 17293849581998997902)) (.n (.l 17293841264693801230) (.l 17293856319108727304))))))) (.n (.n (.n (.n (.n (.n (.n (.l 13835099424474309208) (.l 17293857761949463036)) (.l 17293842095518200091)) (.n (.l 17293832535407165591) (.l 17293848070908899700))) (.n (.n (.n (.l 17293828342545723453) (.l 17293862092669190731)) (.l 17293846557368725852)) (.n (.l 17293837621705674931) (.l 17293863808642949558)))) (.n (.n (.n (.n (.l 17293825868174647326) (.l 17293859687034454558)) (.l 17293844289659420946)) (.n (.l 17293835353442718297) (.l 17293850201715978679))) (.n (.n (.l 17293830679496593525) (.l 17293845733909696850)) (.n (.l 17293839752613421268) (.l 17293855150038798937))))) (.n (.n (.n (.n (.n (.l 17293823737820454930) (.l 17293860098713944588)) (.l 17293840235042615554)) (.n (.l 17293833566467817607) (.l 17293849239391596933))) (.n (.n (.n (.l 17293828136605470818) (.l 17293863673418584666)) (.l 17293847524340408922)) (.n (.l 17293835904624636138) (.l 17293853775917625945)))) (.n (.n (.n (.n (.l 17293863801862672450) (.l 17293860992922624560)) (.l 17293842503305408842)) (.n (.l 17293833911224598730) (.l 17293851576374149543))) (.n (.n (.l 17293831917183337049) (.l 17293846902425923978)) (.n (.l 17293840989748768997) (.l 17293857969735569897)))))) (.n (.n (.n (.n (.n (.n (.l 17293824022278090772) (.l 17293857899942085208)) (.l 17293842708138275108)) (.n (.l 17293833635086590078) (.l 17293851437659992445))) (.n (.n (.n (.l 17293828892452467290) (.l 17293863810639405644)) (.l 17293844152438903139)) (.n (.l 17293838109771546851) (.l 17293855561919361502)))) (.n (.n (.n (.n (.l 17293825112679800888) (.l 17293861542359630374)) (.l 17293844770227331394)) (.n (.l 17293833430018691231) (.l 17293853431078580635))) (.n (.n (.l 17293831298104156285) (.l 17293846489958170973)) (.n (.l 17293863873183494364) (.l 17293855425168400864))))) (.n (.n (.n (.n (.n (.l 16140902723863347238) (.l 17293859480724922899)) (.l 17293840922354696491)) (.n (.l 17293832261502296239) (.l 17293849720578970033))) (.n (.n (.l 17293830060903862874) (.l 17293848138319442291)) (.n (.l 17293838796966375666) (.l 17293856730469167600)))) (.n (.n (.n (.n (.l 17293827792672436278) (.l 17293862642106204742)) (.l 17293846007462052147)) (.n (.l 17293837003112906924) (.l 17293854531361894829))) (.n (.n (.l 17293830199397908622) (.l 17293850269160382860)) (.n (.l 17293838722291290387) (.l 17293856664031638001))))))))))⟩
def Cz:Lv:=⟨120,8,(.n (.n (.n (.n (.n (.n (.n (.l 24803704) (.l 16493701776504)) (.n (.l 16493180165412) (.l 16494693735779))) (.n (.n (.l 16494688565779) (.l 16493971798092)) (.n (.l 16493571552300) (.l 16494544189806)))) (.n (.n (.n (.l 16492859361799) (.l 16493839993924)) (.n (.l 16493431761957) (.l 16494459512171))) (.n (.n (.l 16493112071451) (.l 16494225806427)) (.l 16493684488568)))) (.n (.n (.n (.n (.l 16494729168131) (.l 16493772881992)) (.n (.l 16493230717216) (.l 16494308587641))) (.n (.n (.l 16492961167481) (.l 16494172854353)) (.n (.l 16493634400376) (.l 16494729196915)))) (.n (.n (.n (.l 16492933942794) (.l 16493904480336)) (.n (.l 16493504440368) (.l 16494477471338))) (.n (.n (.l 16494689720698) (.l 16494157125983)) (.l 16493618166136))))) (.n (.n (.n (.n (.n (.l 13196186420088) (.l 16494708999742)) (.n (.l 16493330702118) (.l 16494258118521))) (.n (.n (.l 16492910677881) (.l 16494139102798)) (.n (.l 16493449804335) (.l 16494728606577)))) (.n (.n (.n (.l 16492900386828) (.l 16494004424263)) (.n (.l 16493470885422) (.l 16494427137900))) (.n (.n (.l 16493084940061) (.l 16494123374458)) (.l 16494707949110)))) (.n (.n (.n (.n (.l 16494721792005) (.l 16494709326403)) (.n (.l 16493398010402) (.l 16494694523753))) (.n (.n (.l 16494689260313) (.l 16494192251514)) (.n (.l 16494707684154) (.l 16494678604152)))) (.n (.n (.n (.l 16492977523833) (.l 16494071728722)) (.n (.l 16493521238570) (.l 16494510566512))) (.n (.n (.l 16493213522721) (.l 16494324964217)) (.l 16494708734530)))))) (.n (.n (.n (.n (.n (.n (.l 8796093184376) (.l 16493819346245)) (.n (.l 16493280917790) (.l 16494358329465))) (.n (.n (.l 16493010909305) (.l 16494105491796)) (.n (.l 16493416164661) (.l 16494728476786)))) (.n (.n (.n (.l 16492799883531) (.l 16493954614605)) (.n (.l 16493297760301) (.l 16494694726246))) (.n (.n (.l 16494689459222) (.l 16494089428053)) (.l 16493550843256)))) (.n (.n (.n (.n (.l 16494721696774) (.l 16493886720321)) (.n (.l 16493364410408) (.l 16494408919161))) (.n (.n (.l 16493061478521) (.l 16494038841689)) (.n (.l 16493483538737) (.l 16494729000056)))) (.n (.n (.n (.l 16492843240207) (.l 16494021998665)) (.n (.l 16493348335913) (.l 16494527933295))) (.n (.n (.l 16493135274010) (.l 16494693605498)) (.l 16493751910776))))) (.n (.n (.n (.n (.n (.l 15395217539588) (.l 16494709129030)) (.n (.l 16493202384762) (.l 16494693934688))) (.n (.n (.l 16494688671248) (.l 16493988630359)) (.n (.l 16494707553847) (.l 16494729196148)))) (.n (.n (.n (.l 16492816633097) (.l 16493873560143)) (.n (.l 16493314912039) (.l 16494493265256))) (.n (.n (.l 16493162602008) (.l 16494276140632)) (.l 16494712469311)))) (.n (.n (.n (.n (.l 16492825770248) (.l 16493937130058)) (.n (.l 16493247537963) (.l 16494375496313))) (.n (.n (.l 16493028055673) (.l 16494056004179)) (.n (.l 16494707751731) (.l 16494662154616)))) (.n (.n (.n (.l 16492876993037) (.l 16493923881803)) (.n (.l 16493382413106) (.l 16494561491309))) (.n (.n (.l 16493263463034) (.l 16494207656540)) (.l 16494712472379)))))))⟩
def Ak:Lv:=⟨6,8,(.n (.n (.n (.l 4446488326) (.l 33024138216197)) (.l 26426950747910)) (.n (.n (.l 17592220124934) (.l 34123649844740)) (.l 30825114633222)))⟩
def AT:Lv:=⟨32,8,(.n (.n (.n (.n (.n (.l 4884406560) (.l 34171314311950)) (.n (.l 33007010383370) (.l 33076099031834))) (.n (.n (.l 26397456605472) (.l 34153966933522)) (.n (.l 30825553006368) (.l 34192790198819)))) (.n (.n (.n (.l 26405475918112) (.l 33045831688980)) (.n (.l 34115145506824) (.l 34184200592408))) (.n (.n (.l 30799361738784) (.l 34166886372387)) (.n (.l 33063212622608) (.l 34218493157923))))) (.n (.n (.n (.n (.l 17592221835552) (.l 34141266780175)) (.n (.l 30837968145184) (.l 34205490419491))) (.n (.n (.l 33020281160455) (.l 33088732275479)) (.n (.l 34158043734027) (.l 34201329738275)))) (.n (.n (.n (.l 30812665939232) (.l 34179905490979)) (.n (.l 33049908480269) (.l 34209953030691))) (.n (.n (.l 34128382730245) (.l 34196867389717)) (.n (.l 33033165081617) (.l 34214248522275))))))⟩
def Bs:Lv:=⟨2,8,(.n (.l 17040130) (.l 8796093285122))⟩
def yr:Lv:=⟨4,8,(.n (.n (.l 66820) (.l 6597069963524)) (.n (.l 4398046511620) (.l 6597069899012)))⟩
def zX:Lv:=⟨5,8,(.n (.n (.n (.l 67077) (.l 6597070160645)) (.l 6597069963525)) (.n (.l 4398046511621) (.l 6597069898757)))⟩
def Be:Lv:=⟨6,8,(.n (.n (.n (.l 67334) (.l 6597070095110)) (.l 6597069963526)) (.n (.n (.l 4398046511622) (.l 6597070030598)) (.l 6597069898758)))⟩
def nU:Lv:=⟨2,8,(.n (.l 66306) (.l 4398046511874))⟩
def Cj:Lv:=⟨3,8,(.n (.n (.l 17105923) (.l 13194223485955)) (.l 8796093154307))⟩
def Bl:Lv:=⟨4,8,(.n (.n (.l 17171716) (.l 13194189931780)) (.n (.l 8796093154564) (.l 13194173482244)))⟩
def Ct:Lv:=⟨5,8,(.n (.n (.n (.l 17237509) (.l 13194257171973)) (.l 13194189932037)) (.n (.l 8796093154821) (.l 13194173351429)))⟩
def BO:Lv:=⟨6,8,(.n (.n (.n (.l 17303302) (.l 13194223617798)) (.l 13194189932294)) (.n (.n (.l 8796093155078) (.l 13194207168262)) (.l 13194173351686)))⟩
def BE:Lv:=⟨2,8,(.n (.l 17040130) (.l 8796093285122))⟩
def Ci:Lv:=⟨8,8,(.n (.n (.n (.l 17434888) (.l 13194173744392)) (.n (.l 13194206708488) (.l 15393280559624))) (.n (.n (.l 8796093155592) (.l 15393213514760)) (.n (.l 15393247265288) (.l 15393264044552))))⟩
def Bp:Lv:=⟨20,8,(.n (.n (.n (.n (.n (.l 18224404) (.l 15393382338836)) (.l 15393532478996)) (.n (.l 13194173482260) (.l 15393515769364))) (.n (.n (.n (.l 13194206708500) (.l 15393482675732)) (.l 15393281018644)) (.n (.l 13194508896276) (.l 15393516096532)))) (.n (.n (.n (.n (.l 8796093158676) (.l 15393415630868)) (.l 15393347864340)) (.n (.l 15393213580308) (.l 15393431949076))) (.n (.n (.n (.l 15393248051732) (.l 15393466160660)) (.l 15393314638356)) (.n (.l 15393330891028) (.l 15393448922388)))))⟩
def Cc:Lv:=⟨2,8,(.n (.l 17040130) (.l 8796093285122))⟩
def Bz:Lv:=⟨6,8,(.n (.n (.n (.l 17303302) (.l 15393246873350)) (.l 13194273817350)) (.n (.n (.l 8796093155078) (.l 15393230423814)) (.l 15393297269254)))⟩
def BD:Lv:=⟨2,8,(.n (.l 17040130) (.l 8796093285122))⟩
def BV:Lv:=⟨12,8,(.n (.n (.n (.n (.l 17698060) (.l 15393381353740)) (.l 15393263650060)) (.n (.n (.l 13194374480652) (.l 15393347931660)) (.l 15393230817036))) (.n (.n (.n (.l 8796093156620) (.l 15393381550092)) (.l 15393281082380)) (.n (.n (.l 15393397932556) (.l 15393331416588)) (.l 15393247200780))))⟩
def CH:Lv:=⟨2,8,(.n (.l 17040130) (.l 8796093285122))⟩
def Cy:Lv:=⟨4,8,(.n (.n (.l 17171716) (.l 13194189931780)) (.n (.l 8796093154564) (.l 13194173482244)))⟩
def CA:Lv:=⟨5,8,(.n (.n (.n (.l 17237509) (.l 13194257171973)) (.l 13194189932037)) (.n (.l 8796093154821) (.l 13194173351429)))⟩
def BQ:Lv:=⟨6,8,(.n (.n (.n (.l 17303302) (.l 13194223617798)) (.l 13194189932294)) (.n (.n (.l 8796093155078) (.l 13194207168262)) (.l 13194173351686)))⟩
def Bt:Lv:=⟨2,8,(.n (.l 17040130) (.l 8796093285122))⟩
def Cp:Lv:=⟨2,8,(.n (.l 17040130) (.l 8796093285122))⟩
def zo:Lv:=⟨2,8,(.n (.l 17040130) (.l 8796093285122))⟩
def BA:Lv:=⟨4,8,(.n (.n (.l 17171716) (.l 13194189931780)) (.n (.l 8796093154564) (.l 13194173482244)))⟩
def BM:Lv:=⟨5,8,(.n (.n (.n (.l 17237509) (.l 13194257171973)) (.l 13194189932037)) (.n (.l 8796093154821) (.l 13194173351429)))⟩
def Co:Lv:=⟨6,8,(.n (.n (.n (.l 17303302) (.l 13194223617798)) (.l 13194189932294)) (.n (.n (.l 8796093155078) (.l 13194207168262)) (.l 13194173351686)))⟩
def Ce:Lv:=⟨2,8,(.n (.l 17040130) (.l 8796093285122))⟩
def yb:Lv:=⟨2,8,(.n (.l 17040130) (.l 8796093285122))⟩
def Cn:Lv:=⟨3,8,(.n (.n (.l 17105923) (.l 13194223485955)) (.l 8796093154307))⟩
def Ca:Lv:=⟨4,8,(.n (.n (.l 17171716) (.l 13194189931780)) (.n (.l 8796093154564) (.l 13194173482244)))⟩
def CI:Lv:=⟨5,8,(.n (.n (.n (.l 17237509) (.l 13194257171973)) (.l 13194189932037)) (.n (.l 8796093154821) (.l 13194173351429)))⟩
def BX:Lv:=⟨6,8,(.n (.n (.n (.l 17303302) (.l 13194223617798)) (.l 13194189932294)) (.n (.n (.l 8796093155078) (.l 13194207168262)) (.l 13194173351686)))⟩
def zK:Lv:=⟨2,8,(.n (.l 17040130) (.l 8796093285122))⟩
def BY:Lv:=⟨3,8,(.n (.n (.l 17105923) (.l 13194223485955)) (.l 8796093154307))⟩
def Bo:Lv:=⟨4,8,(.n (.n (.l 17171716) (.l 13194189931780)) (.n (.l 8796093154564) (.l 13194173482244)))⟩
def Cs:Lv:=⟨5,8,(.n (.n (.n (.l 17237509) (.l 13194257171973)) (.l 13194189932037)) (.n (.l 8796093154821) (.l 13194173351429)))⟩
def Bq:Lv:=⟨6,8,(.n (.n (.n (.l 17303302) (.l 13194223617798)) (.l 13194189932294)) (.n (.n (.l 8796093155078) (.l 13194207168262)) (.l 13194173351686)))⟩
def Aq:Lv:=⟨2,8,(.n (.l 4379116290) (.l 17592270193410))⟩
def Av:Lv:=⟨2,8,(.n (.l 4379116290) (.l 17592270193410))⟩
def AE:Lv:=⟨2,8,(.n (.l 4379116290) (.l 17592270193410))⟩
def Dh:Lv:=⟨2,8,(.n (.l 66306) (.l 4398046511874))⟩
def Cf:Lv:=⟨2,8,(.n (.l 17040130) (.l 8796093285122))⟩
def Am:Lv:=⟨2,8,(.n (.l 4379116290) (.l 17592270193410))⟩
def Ap:Lv:=⟨2,8,(.n (.l 4379116290) (.l 17592270193410))⟩
def yT:List (List Lv):= [[ez],
 [iY,ez],
 [oT,ez],
 [oN,ez],
 [oh,iY,ez],
 [yL,oT,ez],
 [yo,iY,ez],
 [zW,oN,ez],
 [Bi,iY,ez],
 [iU,ez],
 [ug,iU,ez],
 [nN,iY,ez],
 [oK,tj,ez],
 [ux,oh,iY,ez],
 [pr,iU,ez],
 [C7,ez],
 [Bw,nN,iY,ez],
 [CB,oP,oT,ez],
 [Cm,oh,iY,ez],
 [BW,yL,oT,ez],
 [BN,ug,iU,ez],
 [B5,oh,iY,ez],
 [A8,zB,pr,iU,ez],
 [yR,nN,iY,ez],
 [BJ,yo,iY,ez],
 [Cg,oh,iY,ez],
 [Cz,zW,oN,ez],
 [Ak,ux,oh,iY,ez],
 [AT,ux,oh,iY,ez],
 [Bs,zW,oN,ez],
 [tj,ez],
 [yr,iU,ez],
 [zX,iU,ez],
 [Be,iU,ez],
 [oP,oT,ez],
 [nU,oN,ez],
 [zB,pr,iU,ez],
 [Cj,pr,iU,ez],
 [Bl,pr,iU,ez],
 [Ct,pr,iU,ez],
 [BO,pr,iU,ez],
 [BE,ug,iU,ez],
 [Ci,ug,iU,ez],
 [Bp,ug,iU,ez],
 [Cc,yr,iU,ez],
 [Bz,yr,iU,ez],
 [BD,zX,iU,ez],
 [BV,zX,iU,ez],
 [CH,Be,iU,ez],
 [Cy,nN,iY,ez],
 [CA,nN,iY,ez],
 [BQ,nN,iY,ez],
 [Bt,yo,iY,ez],
 [Cp,Bi,iY,ez],
 [zo,oP,oT,ez],
 [BA,oP,oT,ez],
 [BM,oP,oT,ez],
 [Co,oP,oT,ez],
 [Ce,yL,oT,ez],
 [yb,nU,oN,ez],
 [Cn,nU,oN,ez],
 [Ca,nU,oN,ez],
 [CI,nU,oN,ez],
 [BX,nU,oN,ez],
 [zK,oK,tj,ez],
 [BY,oK,tj,ez],
 [Bo,oK,tj,ez],
 [Cs,oK,tj,ez],
 [Bq,oK,tj,ez],
 [Aq,yR,nN,iY,ez],
 [Av,zo,oP,oT,ez],
 [AE,yb,nU,oN,ez],
 [Am,Cf,Dh,C7,ez],
 [Ap,zK,oK,tj,ez]]
def df:List (List Int×List Lv):=wx.zip yT
def BG (p:List Int×List Lv):Bool:=p.1.all (fun z=>decide (0 < z)) && (p.2.length == p.1.length + 1 && xB (vo p.1) p.2)
def CL (p:List Int×List Lv):Bool:=nv (vo p.1) p.2
def CK (p:List Int×List Lv):Bool:=pM p.2
def CE (p:List Int×List Lv):Bool:=(eP p.2:Int) == Ac p.1 (ew p.1) && (List.range (ew p.1 + 1)).all fun I=>(mG I p.2:Int) == Ac p.1 I && (Nat.blt 0 (mG I p.2) && eP p.2 % mG I p.2 == 0)
end Go.Proofs.Ytekbhbcgoadciaa
namespace Go.Proofs.Ytekbhbcgoadciaa
theorem CV:((df.drop 0).take 25).all BG=true:=by decide +kernel
theorem Df:((df.drop 25).take 1).all BG=true:=by decide +kernel
theorem C5:((df.drop 26).take 17).all BG=true:=by decide +kernel
theorem CO:((df.drop 43).take 30).all BG=true:=by decide +kernel
theorem C1:((df.drop 73).take 1).all BG=true:=by decide +kernel
theorem Al:df.all BG=true:=by
 have e:df=(df.drop 0).take 25 ++ (df.drop 25).take 1 ++ (df.drop 26).take 17 ++ (df.drop 43).take 30 ++ (df.drop 73).take 1:=rfl
 rw [e]
 simp only [List.all_append,CV,Df,C5,CO,C1]
 rfl
end Go.Proofs.Ytekbhbcgoadciaa
namespace Go.Proofs.Ytekbhbcgoadciaa
theorem CR:((df.drop 0).take 25).all CL=true:=by decide +kernel
theorem CZ:((df.drop 25).take 1).all CL=true:=by decide +kernel
theorem Di:((df.drop 26).take 17).all CL=true:=by decide +kernel
theorem CT:((df.drop 43).take 30).all CL=true:=by decide +kernel
theorem CU:((df.drop 73).take 1).all CL=true:=by decide +kernel
theorem AY:df.all CL=true:=by
 have e:df=(df.drop 0).take 25 ++ (df.drop 25).take 1 ++ (df.drop 26).take 17 ++ (df.drop 43).take 30 ++ (df.drop 73).take 1:=rfl
 rw [e]
 simp only [List.all_append,CR,CZ,Di,CT,CU]
 rfl
end Go.Proofs.Ytekbhbcgoadciaa
namespace Go.Proofs.Ytekbhbcgoadciaa
theorem CW:((df.drop 0).take 25).all CK=true:=by decide +kernel
theorem Dg:((df.drop 25).take 1).all CK=true:=by decide +kernel
theorem CY:((df.drop 26).take 17).all CK=true:=by decide +kernel
theorem CX:((df.drop 43).take 30).all CK=true:=by decide +kernel
theorem C8:((df.drop 73).take 1).all CK=true:=by decide +kernel
theorem Aw:df.all CK=true:=by
 have e:df=(df.drop 0).take 25 ++ (df.drop 25).take 1 ++ (df.drop 26).take 17 ++ (df.drop 43).take 30 ++ (df.drop 73).take 1:=rfl
 rw [e]
 simp only [List.all_append,CW,Dg,CY,CX,C8]
 rfl
end Go.Proofs.Ytekbhbcgoadciaa
namespace Go.Proofs.Ytekbhbcgoadciaa
theorem C9:((df.drop 0).take 25).all CE=true:=by decide +kernel
theorem CN:((df.drop 25).take 1).all CE=true:=by decide +kernel
theorem CP:((df.drop 26).take 17).all CE=true:=by decide +kernel
theorem Dd:((df.drop 43).take 30).all CE=true:=by decide +kernel
theorem C3:((df.drop 73).take 1).all CE=true:=by decide +kernel
theorem AS:df.all CE=true:=by
 have e:df=(df.drop 0).take 25 ++ (df.drop 25).take 1 ++ (df.drop 26).take 17 ++ (df.drop 43).take 30 ++ (df.drop 73).take 1:=rfl
 rw [e]
 simp only [List.all_append,C9,CN,CP,Dd,C3]
 rfl
end Go.Proofs.Ytekbhbcgoadciaa
namespace Go.Proofs.Ytekbhbcgoadciaa
theorem Ay:wx.length=yT.length:=rfl
theorem Cb {zs:List Int} (h:zs∈wx):∃tw,wc zs tw∧(zs,tw)∈df:=by
 obtain ⟨i,hi,rfl⟩:=List.getElem_of_mem h
 have hi2:i < yT.length:=by rw [←Ay];exact hi
 have hm:(wx[i],yT[i])∈df:=by
  unfold df
  rw [List.mem_iff_getElem]
  exact ⟨i,by rw [List.length_zip];omega,List.getElem_zip⟩
 refine ⟨yT[i], ?_,hm⟩
 have h1:=List.all_eq_true.1 Al _ hm
 unfold BG at h1
 simp only [Bool.and_eq_true] at h1
 obtain ⟨p1,p2,p3⟩:=h1
 refine ⟨fun j hj=> ?_,eq_of_beq p2,p3,List.all_eq_true.1 AY _ hm,List.all_eq_true.1 Aw _ hm⟩
 rw [cG hj]
 simpa using List.all_eq_true.1 p1 _ (List.getElem_mem hj)
theorem BS {zs:List Int} {tw:List Lv} (h:(zs,tw)∈df):(eP tw:Int)=kW zs (ew zs)∧∀I,I≤ew zs→(mG I tw:Int)=kW zs I∧0 < mG I tw∧mG I tw ∣ eP tw:=by
 have h1:=List.all_eq_true.1 AS _ h
 unfold CE at h1
 rw [Bool.and_eq_true] at h1
 refine ⟨(eq_of_beq h1.1).trans (yu _ _).symm,fun I hI=> ?_⟩
 have h2:=dF.1 h1.2 I (Nat.lt_succ_of_le hI)
 simp only [Bool.and_eq_true] at h2
 exact ⟨(eq_of_beq h2.1).trans (yu _ _).symm,by simpa [Nat.blt_eq] using h2.2.1,Nat.dvd_of_mod_eq_zero (eq_of_beq h2.2.2)⟩
end Go.Proofs.Ytekbhbcgoadciaa
namespace Go.Proofs.Ytekbhbcgoadciaa
open Go.RowKit
structure oS (w wr:World) (N:Nat) (ao:Option Addr) (m c:Nat) (us:List Value) (ds:List (List Int)):Prop where
 res:gF wr w.heap.size 32 #[.int .i64 0, .slice none 0 0]
 box:gF wr (w.heap.size + 1) 32 #[.int .i64 N, .slice ao m c]
 row:iC (pL 2) wr (w.heap.size + 2) wr.heap.size 24 ao m c us ds
 size:w.heap.size + 2≤wr.heap.size
 below:Below w.heap.size w wr
 few:m≤1000
theorem oS.push {w wr w2 w3 w4:World} {N m c' n1 c1 c2:Nat} {ao' a1 ao2:Option Addr} {us:List Value} {ds:List (List Int)} {zs:List Int} (st:oS w wr N ao' m c' us ds) (hm:m + 1≤1000)
  (b2:Below wr.heap.size wr w2) (o1:Own w2 wr.heap.size 2 a1 n1 c1 (zs.map (Value.int .i64))) (b3:Below w2.heap.size w2 w3) (o4:Own w4 (w.heap.size + 2) 24 ao2 (m + 1) c2 (us ++ [.slice a1 n1 c1]))
  (g4:w3.grownBy w4 (bk ao')) (hat:bk ao2=bk ao'∨bk ao2=some w3.heap.size):
  oS w (w4.setCell ⟨w.heap.size + 1,1,none⟩ (.slice ao2 (m + 1) c2)) N ao2 (m + 1) c2 (us ++ [.slice a1 n1 c1]) (ds ++ [zs]):=by
 have hR:=wE st.row st.size b2 o1 b3 o4 g4 hat
 have hsz:=st.size
 have s2:=b2.size
 have s3:=b3.size
 have s4:=g4.size
 have B4:Below (w.heap.size + 2) wr w4:=((b2.trans (b3.mono s2)).mono hsz).grown g4 (by omega) (fun g hg=>(st.row.own.lt g hg).1)
 have hh:(w4.setCell ⟨w.heap.size + 1,1,none⟩ (.slice ao2 (m + 1) c2)).heap.size=w4.heap.size:=by simp [World.setCell]
 refine ⟨(st.res.below B4 (by omega)).DH (by simp) _, ?_, ?_,by rw [hh];omega,(st.below.trans (B4.mono (by omega))).setCell (by simp) _,hm⟩
 ·have:=(st.box.below B4 (by omega)).pW 1 (.slice ao2 (m + 1) c2)
  simpa using this
 ·rw [hh]
  exact hR.same (dD _) fun g h1 _ _=>Below.heap_setCell _ _ _ _ (by simp;omega)
theorem oS.done {w wr:World} {N m c':Nat} {ao':Option Addr} {us:List Value} {ds:List (List Int)} (st:oS w wr N ao' m c' us ds):
  gF ((wr.setCell ⟨w.heap.size,0,none⟩ (.int .i64 N)).setCell ⟨w.heap.size,1,none⟩ (.slice ao' m c')) w.heap.size 32 #[.int .i64 N, .slice ao' m c']∧
  iC (pL 2) ((wr.setCell ⟨w.heap.size,0,none⟩ (.int .i64 N)).setCell ⟨w.heap.size,1,none⟩ (.slice ao' m c')) (w.heap.size + 2) ((wr.setCell ⟨w.heap.size,0,none⟩ (.int .i64 N)).setCell ⟨w.heap.size,1,none⟩ (.slice ao' m c')).heap.size 24 ao' m c' us ds∧
  Below w.heap.size w ((wr.setCell ⟨w.heap.size,0,none⟩ (.int .i64 N)).setCell ⟨w.heap.size,1,none⟩ (.slice ao' m c')):=by
 have hh:((wr.setCell ⟨w.heap.size,0,none⟩ (.int .i64 N)).setCell ⟨w.heap.size,1,none⟩ (.slice ao' m c')).heap.size=wr.heap.size:=by simp [World.setCell]
 refine ⟨?_, ?_,(st.below.setCell (by simp) _).setCell (by simp) _⟩
 ·have:=(st.res.pW 0 (.int .i64 N)).pW 1 (.slice ao' m c')
  simpa using this
 ·rw [hh]
  exact st.row.same (dD _) fun g h1 _ _=>by rw [Below.heap_setCell _ _ _ _ (by simp;omega),Below.heap_setCell _ _ _ _ (by simp;omega)]
theorem lv {zs:List Int} {k j:Nat} (h:k < j):fB zs k (j + 1 - (k + 1))=fB zs k (j - (k + 1)) ++ fY zs k j:=by
 rw [show j + 1 - (k + 1)=(j - (k + 1)) + 1 by omega,fB,show k + 1 + (j - (k + 1))=j by omega]
end Go.Proofs.Ytekbhbcgoadciaa
namespace Go.Proofs.Ytekbhbcgoadciaa
open Go.RowKit
theorem yW (ao:Option Addr) (n c:Nat) (w:World):Calls Try.prog 22 #[.slice ao n c] w fun e w'=>e= .returned (.int .i64 n)∧w'=w:=by
 go_enter Try.func22,Try.ntmps22
 go_wp2
 go_ret
 exact ⟨rfl,rfl⟩
end Go.Proofs.Ytekbhbcgoadciaa
