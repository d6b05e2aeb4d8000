/- The components of a diagram, the reference's: l12Parts. guards: -/
import Derived.Test.YtekbhbcgoadciaaGreatPart8
import Derived.Test.YtekbhbcgoadciaaGreatPart6
import Derived.Test.YtekbhbcgoadciaaGreatPart10
import Derived.Test.YtekbhbcgoadciaaGreatPart3
import Derived.Test.YtekbhbcgoadciaaGreatPart9
import Derived.Test.YtekbhbcgoadciaaGreatPart7
import Derived.Test.YtekbhbcgoadciaaGreatPart4
set_option maxRecDepth 100000
set_option maxHeartbeats 6400000
namespace Go.Proofs.YtekbhbcgoadciaaGreat
open Go.RowKit
def eT (ps:eO):List (List Int):=ps.map (·.2)
abbrev lO (ps:eO):Ch:=⟨true,24,1, .rows 2 (bV (eT ps)) []⟩
theorem mJ (ps:eO):(eT ps).length=ps.length:=by simp [eT]
theorem pH {ps:eO} {k:Nat} (h:k < ps.length):bn (eT ps) k=(dz ps k).2:=by simp [eT,bn,dz,h]
theorem nS {ps:eO} {k:Nat} (h:k < ps.length):(bV (eT ps))[k]? =some (aL (dz ps k).2):=by rw [←pH h];exact cf (by rw [mJ];exact h)
theorem CE (ps:eO) (k:Nat) (p:Nat×List Int):(bV (eT ps)).set k (aL p.2)=bV (eT (ps.set k p)):=by
 rw [pz];unfold eT;rw [List.map_set]
theorem xf (zs:List Int) (L:Nat) (h4:L≤4):FC Tryz.prog 50 [(1003,dk zs)] [o1 (.sl 1003 0 L)] [] (vv (I6 (L + 1:Nat))) []:=by
 have hw:IntKind.i64.wrap ((L:Int) + 1)=((L + 1:Nat):Int):=IntWalk.i64_in _ ae
 refine bj (nt:=6) Tryz.func50 rfl rfl (by simp) fun w0 ω0=> ?_
 (refine ak (ah (aa rfl (ai rfl rfl) (ar (an (ak (ah (aa rfl (aj rfl rfl) (aa rfl (bw rfl rfl rfl ab) ?_))))))));apply aa rfl;(first | exact aP rfl rfl rfl hw | exact dX rfl rfl ab ab rfl);refine aa rfl (ai rfl rfl) (ar (an (aS ?_))))
 exact bu (.inl rfl) rfl (.tmp rfl) trivial trivial
theorem xq (zs:List Int) (L mask:Nat) (hL:zs.length=L) (h4:L≤4) (hm:mask < 1000):
  FC Tryz.prog 115 [(1003,dk zs)] [o1 (.sl 1003 0 L),vv (I6 mask)] [(8,lO (comps zs mask))] (o1 (.sl 8 0 (comps zs mask).length)) []:=by
 have hR:=xf zs L h4
 refine bj (nt:=62) Tryz.func115 rfl rfl (by simp) fun w0 ω0=> ?_
 have hil:L≤(aL zs).length:=by rw [bc,hL];exact Nat.le_refl _
 (refine ak (ah (aa rfl (ai rfl rfl) (ar (an (ak (ah ?_))))));apply aa rfl;(exact vc (E:=24) (F:=2) rfl ab);refine aa rfl (ai rfl rfl) (ar (an (ak (ak (ah (aa rfl (ai rfl rfl) (ar (an (aB ?_))))))))))
 refine bz (fun q:Nat×eO=>St.of [(0,o1 (.sl 1003 0 L)),(1,vv (I6 mask)),(5,o1 (.sl 8 0 q.2.length)),(6,vv (I6 q.1))] [(1003,dk zs),(8,lO q.2)])
  (fun q=>q.1≤L + 1∧vN zs mask q.1=q.2) (fun q=>L + 1 - q.1) (0, []) ⟨Nat.zero_le _,rfl⟩ (Wk.of ⟨rfl,rfl,rfl,rfl,ag⟩ ⟨rfl,rfl,ag⟩ trivial) ?_
 rintro ⟨i,ps⟩ ⟨hi,hp⟩
 dsimp only at hi hp ⊢
 have hps:=wm zs mask i ae
 have hnx:=sM zs mask i
 rw [hp] at hps hnx
 have hpl:ps.length≤5:=by have:=iO ps;have:=hps.sum;omega
 have hrx:=mJ ps
 (refine ak (ak (ah (aa rfl (aj rfl rfl) (aa rfl (aj rfl rfl) ?_))));apply aa rfl;(apply au 50;exact aw hR ab rfl rfl ⟨rfl,ag⟩ ⟨⟨_,rfl, .inl rfl⟩,ag⟩ rfl rfl);refine aa rfl (aG rfl rfl rfl rfl) (ar (an ?_)))
 refine bK rfl (fun hlt=> ?_) (fun hlt=> ?_)
 ·have hiL:i≤L:=by omega
  have hi64:i≤64:=by omega
  have hmm:mask < 1000000:=by omega
  have hcv:IntKind.u64.wrap (i:Int)=(i:Int):=by rw [IntKind.wrap_u64];omega
  (refine aE (an (ak (aB (ak (ak (ah (aa rfl (aj rfl rfl) (aa rfl (aj rfl rfl) ?_))))))));apply aa rfl;(first | exact dX rfl rfl ab ab hcv | exact dZ (g:=i) rfl rfl rfl hi64 | exact eW rfl rfl hmm | exact gE rfl rfl);apply aa rfl;(first | exact dX rfl rfl ab ab hcv | exact dZ (g:=i) rfl rfl rfl hi64 | exact eW rfl rfl hmm | exact gE rfl rfl);apply aa rfl;(first | exact dX rfl rfl ab ab hcv | exact dZ (g:=i) rfl rfl rfl hi64 | exact eW rfl rfl hmm | exact gE rfl rfl);apply aa rfl;(first | exact dX rfl rfl ab ab hcv | exact dZ (g:=i) rfl rfl rfl hi64 | exact eW rfl rfl hmm | exact gE rfl rfl);refine ar (an ?_))
  refine ax rfl (fun hb=> ?_) (fun hb=> ?_)
  ·have hb:gp mask i=false:=by simpa using hb
   have hv:vN zs mask (i + 1)=ps:=by rw [hnx];unfold rr;rw [if_neg (by rw [hb];simp)]
   (refine a7 (aA (aT (an (ah (aa rfl (aj rfl rfl) ?_)))));apply aa rfl;exact aP rfl rfl rfl bA;refine aa rfl (ai rfl rfl) (ar ?_))
   exact aW (i + 1,ps) ⟨ae,hv⟩ (by show L + 1 - (i + 1) < L + 1 - i;omega) (Wk.of ⟨rfl,rfl,rfl,rfl,ag⟩ ⟨rfl,rfl,ag⟩ trivial)
  ·have hb:gp mask i=true:=by simpa using hb
   unfold rr at hnx
   rw [if_pos hb] at hnx
   (repeat (first | refine ak ?_ | refine an ?_ | refine aE ?_ | refine aB ?_ | refine aM ?_ | refine a7 ?_ | refine aT ?_ | refine cQ rfl ?_ | refine aA ?_))
   refine cW (St.of [(0,o1 (.sl 1003 0 L)),(1,vv (I6 mask)),(5,o1 (.sl 8 0 ps.length)),(6,vv (I6 i)),(39,vv (.bool (jn zs mask i)))] [(1003,dk zs),(8,lO ps)]) ?_ ?_
   ·refine ah ?_
    (refine aa rfl (aj rfl rfl) (aa rfl (aG rfl rfl rfl rfl) (aa rfl (aj rfl rfl) ?_)))
    refine bS 23 rfl (fun h1=> ?_) (fun h1=> ?_)
    ·have hi0:0 < i:=by have:=of_decide_eq_true h1;omega
     have hsb:IntKind.i64.wrap ((i:Int) - 1)=((i - 1:Nat):Int):=(IntWalk.i64_in _ ae).trans ae
     have hcv1:IntKind.u64.wrap ((i - 1:Nat):Int)=((i - 1:Nat):Int):=by rw [IntKind.wrap_u64];omega
     have hi64':i - 1≤64:=by omega
     (apply aH rfl rfl rfl;exact aj rfl rfl;apply aH rfl rfl rfl;exact aj rfl rfl;apply aH rfl rfl rfl;(first | exact cg rfl rfl rfl hsb | exact dX rfl rfl ab ab hcv1 | exact dZ (g:=i - 1) rfl rfl rfl hi64' | exact eW rfl rfl hmm | exact fR rfl rfl);apply aH rfl rfl rfl;(first | exact cg rfl rfl rfl hsb | exact dX rfl rfl ab ab hcv1 | exact dZ (g:=i - 1) rfl rfl rfl hi64' | exact eW rfl rfl hmm | exact fR rfl rfl);apply aH rfl rfl rfl;(first | exact cg rfl rfl rfl hsb | exact dX rfl rfl ab ab hcv1 | exact dZ (g:=i - 1) rfl rfl rfl hi64' | exact eW rfl rfl hmm | exact fR rfl rfl);apply aH rfl rfl rfl;(first | exact cg rfl rfl rfl hsb | exact dX rfl rfl ab ab hcv1 | exact dZ (g:=i - 1) rfl rfl rfl hi64' | exact eW rfl rfl hmm | exact fR rfl rfl);apply aH rfl rfl rfl;(first | exact cg rfl rfl rfl hsb | exact dX rfl rfl ab ab hcv1 | exact dZ (g:=i - 1) rfl rfl rfl hi64' | exact eW rfl rfl hmm | exact fR rfl rfl);refine aa rfl (bp rfl rfl rfl) (aa rfl (aj rfl rfl) ?_))
     refine bS 32 rfl (fun h2=> ?_) (fun h2=> ?_)
     ·have gz:(aL zs)[i - 1]? =some (I6 (aC zs (i - 1))):=bl ae
      have hv:jn zs mask i=(aC zs (i - 1) != 2):=by unfold jn;rw [decide_eq_true hi0,h2];rfl
      rw [hv]
      (apply aH rfl rfl rfl;exact aj rfl rfl;apply aH rfl rfl rfl;exact aj rfl rfl;apply aH rfl rfl rfl;(first | exact cg rfl rfl rfl hsb | exact aR (j:=i - 1) rfl rfl rfl rfl rfl ab rfl ae hil | exact bf rfl ab rfl rfl rfl gz);apply aH rfl rfl rfl;(first | exact cg rfl rfl rfl hsb | exact aR (j:=i - 1) rfl rfl rfl rfl rfl ab rfl ae hil | exact bf rfl ab rfl rfl rfl gz);apply aH rfl rfl rfl;(first | exact cg rfl rfl rfl hsb | exact aR (j:=i - 1) rfl rfl rfl rfl rfl ab rfl ae hil | exact bf rfl ab rfl rfl rfl gz);apply aH rfl rfl rfl;exact aG rfl rfl rfl rfl;refine aa rfl (bp rfl rfl rfl) (ar ?_))
      exact aV (Wk.of ⟨rfl,rfl,rfl,rfl,rfl,ag⟩ ⟨rfl,rfl,ag⟩ trivial)
     ·have hv:jn zs mask i=false:=by unfold jn;rw [h2];simp
      rw [hv]
      (apply aD rfl rfl rfl rfl rfl;apply aD rfl rfl rfl rfl rfl;apply aD rfl rfl rfl rfl rfl;apply aD rfl rfl rfl rfl rfl;apply aD rfl rfl rfl rfl rfl;apply aD rfl rfl rfl rfl rfl;refine aa rfl (bD rfl rfl rfl) (ar ?_))
      exact aV (Wk.of ⟨rfl,rfl,rfl,rfl,rfl,ag⟩ ⟨rfl,rfl,ag⟩ trivial)
    ·have hv:jn zs mask i=false:=by
      have:¬0 < i:=by have:=of_decide_eq_false h1;omega
      unfold jn;rw [decide_eq_false this];rfl
     rw [hv]
     (apply aD rfl rfl rfl rfl rfl;apply aD rfl rfl rfl rfl rfl;apply aD rfl rfl rfl rfl rfl;apply aD rfl rfl rfl rfl rfl;apply aD rfl rfl rfl rfl rfl;apply aD rfl rfl rfl rfl rfl;apply aD rfl rfl rfl rfl rfl;refine aa rfl (bD rfl rfl rfl) (aa rfl (aj rfl rfl) ?_);apply aD rfl rfl rfl rfl rfl;apply aD rfl rfl rfl rfl rfl;apply aD rfl rfl rfl rfl rfl;apply aD rfl rfl rfl rfl rfl;apply aD rfl rfl rfl rfl rfl;apply aD rfl rfl rfl rfl rfl;refine aa rfl (bD rfl rfl rfl) (ar ?_))
     exact aV (Wk.of ⟨rfl,rfl,rfl,rfl,rfl,ag⟩ ⟨rfl,rfl,ag⟩ trivial)
   (refine an ?_)
   refine ax rfl (fun hjb=> ?_) (fun hjb=> ?_)
   ·have hjs:=vx hjb
    have hne:=hps.ne hjs.1 hjs.2.1
    obtain ⟨j,hjl⟩:∃j,ps.length=j + 1:=⟨ps.length - 1,ae⟩
    have hjp:j < ps.length:=by omega
    have hv:vN zs mask (i + 1)=ps.set j ((dz ps j).1 ||| 2 ^ i,(dz ps j).2 ++ [aC zs (i - 1)]):=by
     rw [hnx,if_pos hjb];unfold Bi;rw [show ps.length - 1=j by omega]
    have hsub:IntKind.i64.wrap ((ps.length:Int) - 1)=(j:Int):=by rw [hjl];exact (IntWalk.i64_in _ ae).trans ae
    have hrj:=nS hjp
    have hllt:=rj (mb hjp)
    have hsum:=hps.sum
    have hfin0:=CE ps j ((dz ps j).1 ||| 2 ^ i,(dz ps j).2 ++ [aC zs (i - 1)])
    generalize (dz ps j).1=m at *
    generalize (dz ps j).2=labs at *
    have hmj:(aL labs).length=labs.length:=bc _
    have gz:(aL zs)[i - 1]? =some (I6 (aC zs (i - 1))):=bl ae
    have hsb:IntKind.i64.wrap ((i:Int) - 1)=((i - 1:Nat):Int):=(IntWalk.i64_in _ ae).trans ae
    have hi1L:i - 1 < L:=by omega
    have hrl:ps.length≤(bV (eT ps)).length:=by rw [cZ,hrx];exact Nat.le_refl _
    have hjl2:j < (bV (eT ps)).length:=by omega
    have hvl:(aL (labs ++ [aC zs (i - 1)])).length=labs.length + 1:=by rw [bc];simp
    have hfin:(bV (eT ps)).set j (aL (labs ++ [aC zs (i - 1)]))=bV (eT (ps.set j (m ||| 2 ^ i,labs ++ [aC zs (i - 1)]))):=hfin0
    (refine ak (ah (aa rfl (aj rfl rfl) (aa rfl (bw rfl rfl rfl ab) ?_)));apply aa rfl;exact cg rfl rfl rfl hsub;refine aa rfl (ai rfl rfl) (ar (an (ak ?_))))
    refine cW (St.of [(0,o1 (.sl 1003 0 L)),(1,vv (I6 mask)),(5,o1 (.sl 8 0 ps.length)),(6,vv (I6 i))] [(1003,dk zs),(8,lO (ps.set j (m ||| 2 ^ i,labs ++ [aC zs (i - 1)])))]) ?_ ?_
    ·apply nn 12 [] [0,1] [[], [], [], [], [2,3], [2,3,4], [], [], [7], [6,7,8], [6,7,8,9], [6,7,8,9,10], [2,3,4,5,6,7,8,9,10,11], [0,1,2,3,4,5,6,7,8,9,10,11,12], [0,1,2,3,4,5,6,7,8,9,10,11,12,13]] [43,44,45,46,47,48,49,50,51,52,53,54] [54] (by kernel_rfl) (by kernel_rfl) (by kernel_rfl)
     ·(apply aK rfl;(intro S1 hS;exact aj rfl (hS.op rfl));apply aK rfl;(intro S1 hS;exact aj rfl (hS.op rfl));apply aK rfl;(intro S1 hS;exact aj rfl (hS.op rfl));apply aK rfl;(intro S1 hS;exact aj rfl (hS.op rfl));(first | (apply aK rfl;(focus (intro S1 hS;exact aR (j:=j) rfl (hS.op rfl) (hS.op rfl) (hS.ch _ _ rfl) rfl ab rfl hjp hrl))) | (apply aK rfl;(focus (intro S1 hS;exact bF rfl ab (hS.op rfl) (hS.ch _ _ rfl) rfl hrj hmj))) | (apply aK rfl;(focus (intro S1 hS;exact cg rfl (hS.op rfl) (hS.op rfl) hsb))) | (apply aK rfl;(focus (intro S1 hS;exact aR (j:=i - 1) rfl (hS.op rfl) (hS.op rfl) (hS.ch _ _ rfl) rfl ab rfl hi1L hil))) | (apply aK rfl;(focus (intro S1 hS;exact bf rfl ab (hS.op rfl) (hS.ch _ _ rfl) rfl gz))));(first | (apply aK rfl;(focus (intro S1 hS;exact aR (j:=j) rfl (hS.op rfl) (hS.op rfl) (hS.ch _ _ rfl) rfl ab rfl hjp hrl))) | (apply aK rfl;(focus (intro S1 hS;exact bF rfl ab (hS.op rfl) (hS.ch _ _ rfl) rfl hrj hmj))) | (apply aK rfl;(focus (intro S1 hS;exact cg rfl (hS.op rfl) (hS.op rfl) hsb))) | (apply aK rfl;(focus (intro S1 hS;exact aR (j:=i - 1) rfl (hS.op rfl) (hS.op rfl) (hS.ch _ _ rfl) rfl ab rfl hi1L hil))) | (apply aK rfl;(focus (intro S1 hS;exact bf rfl ab (hS.op rfl) (hS.ch _ _ rfl) rfl gz))));apply aK rfl;(intro S1 hS;exact aj rfl (hS.op rfl));apply aK rfl;(intro S1 hS;exact aj rfl (hS.op rfl));(first | (apply aK rfl;(focus (intro S1 hS;exact aR (j:=j) rfl (hS.op rfl) (hS.op rfl) (hS.ch _ _ rfl) rfl ab rfl hjp hrl))) | (apply aK rfl;(focus (intro S1 hS;exact bF rfl ab (hS.op rfl) (hS.ch _ _ rfl) rfl hrj hmj))) | (apply aK rfl;(focus (intro S1 hS;exact cg rfl (hS.op rfl) (hS.op rfl) hsb))) | (apply aK rfl;(focus (intro S1 hS;exact aR (j:=i - 1) rfl (hS.op rfl) (hS.op rfl) (hS.ch _ _ rfl) rfl ab rfl hi1L hil))) | (apply aK rfl;(focus (intro S1 hS;exact bf rfl ab (hS.op rfl) (hS.ch _ _ rfl) rfl gz))));(first | (apply aK rfl;(focus (intro S1 hS;exact aR (j:=j) rfl (hS.op rfl) (hS.op rfl) (hS.ch _ _ rfl) rfl ab rfl hjp hrl))) | (apply aK rfl;(focus (intro S1 hS;exact bF rfl ab (hS.op rfl) (hS.ch _ _ rfl) rfl hrj hmj))) | (apply aK rfl;(focus (intro S1 hS;exact cg rfl (hS.op rfl) (hS.op rfl) hsb))) | (apply aK rfl;(focus (intro S1 hS;exact aR (j:=i - 1) rfl (hS.op rfl) (hS.op rfl) (hS.ch _ _ rfl) rfl ab rfl hi1L hil))) | (apply aK rfl;(focus (intro S1 hS;exact bf rfl ab (hS.op rfl) (hS.ch _ _ rfl) rfl gz))));(first | (apply aK rfl;(focus (intro S1 hS;exact aR (j:=j) rfl (hS.op rfl) (hS.op rfl) (hS.ch _ _ rfl) rfl ab rfl hjp hrl))) | (apply aK rfl;(focus (intro S1 hS;exact bF rfl ab (hS.op rfl) (hS.ch _ _ rfl) rfl hrj hmj))) | (apply aK rfl;(focus (intro S1 hS;exact cg rfl (hS.op rfl) (hS.op rfl) hsb))) | (apply aK rfl;(focus (intro S1 hS;exact aR (j:=i - 1) rfl (hS.op rfl) (hS.op rfl) (hS.ch _ _ rfl) rfl ab rfl hi1L hil))) | (apply aK rfl;(focus (intro S1 hS;exact bf rfl ab (hS.op rfl) (hS.ch _ _ rfl) rfl gz))));apply gU rfl;(intro S1 hS;exact bW (E:=2) rfl ab (hS.op rfl));exact ft.nil)
     ·rfl
     ·refine ⟨⟨?_, ?_⟩, ?_, ?_⟩
      ·refine dI (St.of [(0,o1 (.sl 1003 0 L)),(1,vv (I6 mask)),(5,o1 (.sl 8 0 ps.length)),(6,vv (I6 i))] [(1003,dk zs),(8,lO (ps.set j (m ||| 2 ^ i,labs ++ [aC zs (i - 1)])))]) ?_ ?_
       ·((apply aF 12 rfl ab rfl rfl;((first | exact cu.pre (bX (n:=8) (z:=55) (s:=48) rfl rfl hrj hmj rfl) (bE rfl ab rfl rfl rfl rfl rfl rfl ae) | exact aR (j:=j) rfl rfl rfl rfl rfl ab rfl hjp hrl | exact bI rfl rfl (by simp) rfl rfl hvl rfl hjl2 ab)));(apply aF 13 rfl ab rfl rfl;((first | exact cu.pre (bX (n:=8) (z:=55) (s:=48) rfl rfl hrj hmj rfl) (bE rfl ab rfl rfl rfl rfl rfl rfl ae) | exact aR (j:=j) rfl rfl rfl rfl rfl ab rfl hjp hrl | exact bI rfl rfl (by simp) rfl rfl hvl rfl hjl2 ab)));(apply aF 14 rfl ab rfl rfl;((first | exact cu.pre (bX (n:=8) (z:=55) (s:=48) rfl rfl hrj hmj rfl) (bE rfl ab rfl rfl rfl rfl rfl rfl ae) | exact aR (j:=j) rfl rfl rfl rfl rfl ab rfl hjp hrl | exact bI rfl rfl (by simp) rfl rfl hvl rfl hjl2 ab)));(refine bh ab ?_;exact aV (Wk.of ⟨rfl,rfl,rfl,rfl,ag⟩ ⟨rfl,congrArg (fun l=>some (⟨true,24,1, .rows 2 l []⟩:Ch)) hfin,ag⟩ trivial)))
       ·(skip)
        exact aV (Wk.of ⟨rfl,rfl,rfl,rfl,ag⟩ ⟨rfl,rfl,ag⟩ trivial)
      ·refine dI (St.of [(0,o1 (.sl 1003 0 L)),(1,vv (I6 mask)),(5,o1 (.sl 8 0 ps.length)),(6,vv (I6 i))] [(1003,dk zs),(8,lO (ps.set j (m ||| 2 ^ i,labs ++ [aC zs (i - 1)])))]) ?_ ?_
       ·((apply ct 1 12 rfl ab rfl rfl rfl rfl;exact aj rfl rfl;((first | exact cu.pre (bX (n:=8) (z:=55) (s:=48) rfl rfl hrj hmj rfl) (bE rfl ab rfl rfl rfl rfl rfl rfl ae) | exact aR (j:=j) rfl rfl rfl rfl rfl ab rfl hjp hrl | exact bI rfl rfl (by simp) rfl rfl hvl rfl hjl2 ab));(focus ((apply aF 12 rfl ab rfl rfl;((first | exact cu.pre (bX (n:=8) (z:=55) (s:=48) rfl rfl hrj hmj rfl) (bE rfl ab rfl rfl rfl rfl rfl rfl ae) | exact aR (j:=j) rfl rfl rfl rfl rfl ab rfl hjp hrl | exact bI rfl rfl (by simp) rfl rfl hvl rfl hjl2 ab)));(apply aF 13 rfl ab rfl rfl;((first | exact cu.pre (bX (n:=8) (z:=55) (s:=48) rfl rfl hrj hmj rfl) (bE rfl ab rfl rfl rfl rfl rfl rfl ae) | exact aR (j:=j) rfl rfl rfl rfl rfl ab rfl hjp hrl | exact bI rfl rfl (by simp) rfl rfl hvl rfl hjl2 ab)));(apply aF 14 rfl ab rfl rfl;((first | exact cu.pre (bX (n:=8) (z:=55) (s:=48) rfl rfl hrj hmj rfl) (bE rfl ab rfl rfl rfl rfl rfl rfl ae) | exact aR (j:=j) rfl rfl rfl rfl rfl ab rfl hjp hrl | exact bI rfl rfl (by simp) rfl rfl hvl rfl hjl2 ab)));(refine bh ab ?_;exact aV (Wk.of ⟨rfl,rfl,rfl,rfl,ag⟩ ⟨rfl,congrArg (fun l=>some (⟨true,24,1, .rows 2 l []⟩:Ch)) hfin,ag⟩ trivial))));(focus ((apply aF 1 rfl ab rfl rfl;exact aj rfl rfl);(apply aF 13 rfl ab rfl rfl;((first | exact cu.pre (bX (n:=8) (z:=55) (s:=48) rfl rfl hrj hmj rfl) (bE rfl ab rfl rfl rfl rfl rfl rfl ae) | exact aR (j:=j) rfl rfl rfl rfl rfl ab rfl hjp hrl | exact bI rfl rfl (by simp) rfl rfl hvl rfl hjl2 ab)));(apply aF 14 rfl ab rfl rfl;((first | exact cu.pre (bX (n:=8) (z:=55) (s:=48) rfl rfl hrj hmj rfl) (bE rfl ab rfl rfl rfl rfl rfl rfl ae) | exact aR (j:=j) rfl rfl rfl rfl rfl ab rfl hjp hrl | exact bI rfl rfl (by simp) rfl rfl hvl rfl hjl2 ab)));(refine bh ab ?_;exact aV (Wk.of ⟨rfl,rfl,rfl,rfl,ag⟩ ⟨rfl,congrArg (fun l=>some (⟨true,24,1, .rows 2 l []⟩:Ch)) hfin,ag⟩ trivial))))))
       ·(skip)
        exact aV (Wk.of ⟨rfl,rfl,rfl,rfl,ag⟩ ⟨rfl,rfl,ag⟩ trivial)
      ·refine dI (St.of [(0,o1 (.sl 1003 0 L)),(1,vv (I6 mask)),(5,o1 (.sl 8 0 ps.length)),(6,vv (I6 i))] [(1003,dk zs),(8,lO (ps.set j (m ||| 2 ^ i,labs ++ [aC zs (i - 1)])))]) ?_ ?_
       ·((apply ct 0 12 rfl ab rfl rfl rfl rfl;exact aj rfl rfl;((first | exact cu.pre (bX (n:=8) (z:=55) (s:=48) rfl rfl hrj hmj rfl) (bE rfl ab rfl rfl rfl rfl rfl rfl ae) | exact aR (j:=j) rfl rfl rfl rfl rfl ab rfl hjp hrl | exact bI rfl rfl (by simp) rfl rfl hvl rfl hjl2 ab));(focus ((apply aF 12 rfl ab rfl rfl;((first | exact cu.pre (bX (n:=8) (z:=55) (s:=48) rfl rfl hrj hmj rfl) (bE rfl ab rfl rfl rfl rfl rfl rfl ae) | exact aR (j:=j) rfl rfl rfl rfl rfl ab rfl hjp hrl | exact bI rfl rfl (by simp) rfl rfl hvl rfl hjl2 ab)));(apply aF 13 rfl ab rfl rfl;((first | exact cu.pre (bX (n:=8) (z:=55) (s:=48) rfl rfl hrj hmj rfl) (bE rfl ab rfl rfl rfl rfl rfl rfl ae) | exact aR (j:=j) rfl rfl rfl rfl rfl ab rfl hjp hrl | exact bI rfl rfl (by simp) rfl rfl hvl rfl hjl2 ab)));(apply aF 14 rfl ab rfl rfl;((first | exact cu.pre (bX (n:=8) (z:=55) (s:=48) rfl rfl hrj hmj rfl) (bE rfl ab rfl rfl rfl rfl rfl rfl ae) | exact aR (j:=j) rfl rfl rfl rfl rfl ab rfl hjp hrl | exact bI rfl rfl (by simp) rfl rfl hvl rfl hjl2 ab)));(refine bh ab ?_;exact aV (Wk.of ⟨rfl,rfl,rfl,rfl,ag⟩ ⟨rfl,congrArg (fun l=>some (⟨true,24,1, .rows 2 l []⟩:Ch)) hfin,ag⟩ trivial))));(focus ((apply aF 0 rfl ab rfl rfl;exact aj rfl rfl);(apply aF 13 rfl ab rfl rfl;((first | exact cu.pre (bX (n:=8) (z:=55) (s:=48) rfl rfl hrj hmj rfl) (bE rfl ab rfl rfl rfl rfl rfl rfl ae) | exact aR (j:=j) rfl rfl rfl rfl rfl ab rfl hjp hrl | exact bI rfl rfl (by simp) rfl rfl hvl rfl hjl2 ab)));(apply aF 14 rfl ab rfl rfl;((first | exact cu.pre (bX (n:=8) (z:=55) (s:=48) rfl rfl hrj hmj rfl) (bE rfl ab rfl rfl rfl rfl rfl rfl ae) | exact aR (j:=j) rfl rfl rfl rfl rfl ab rfl hjp hrl | exact bI rfl rfl (by simp) rfl rfl hvl rfl hjl2 ab)));(refine bh ab ?_;exact aV (Wk.of ⟨rfl,rfl,rfl,rfl,ag⟩ ⟨rfl,congrArg (fun l=>some (⟨true,24,1, .rows 2 l []⟩:Ch)) hfin,ag⟩ trivial))))))
       ·(skip)
        exact aV (Wk.of ⟨rfl,rfl,rfl,rfl,ag⟩ ⟨rfl,rfl,ag⟩ trivial)
      ·refine dI (St.of [(0,o1 (.sl 1003 0 L)),(1,vv (I6 mask)),(5,o1 (.sl 8 0 ps.length)),(6,vv (I6 i))] [(1003,dk zs),(8,lO (ps.set j (m ||| 2 ^ i,labs ++ [aC zs (i - 1)])))]) ?_ ?_
       ·((apply lB 0 1 12 rfl ab rfl rfl rfl rfl rfl rfl;exact aj rfl rfl;exact aj rfl rfl;((first | exact cu.pre (bX (n:=8) (z:=55) (s:=48) rfl rfl hrj hmj rfl) (bE rfl ab rfl rfl rfl rfl rfl rfl ae) | exact aR (j:=j) rfl rfl rfl rfl rfl ab rfl hjp hrl | exact bI rfl rfl (by simp) rfl rfl hvl rfl hjl2 ab));(focus ((apply ct 1 12 rfl ab rfl rfl rfl rfl;exact aj rfl rfl;((first | exact cu.pre (bX (n:=8) (z:=55) (s:=48) rfl rfl hrj hmj rfl) (bE rfl ab rfl rfl rfl rfl rfl rfl ae) | exact aR (j:=j) rfl rfl rfl rfl rfl ab rfl hjp hrl | exact bI rfl rfl (by simp) rfl rfl hvl rfl hjl2 ab));(focus ((apply aF 12 rfl ab rfl rfl;((first | exact cu.pre (bX (n:=8) (z:=55) (s:=48) rfl rfl hrj hmj rfl) (bE rfl ab rfl rfl rfl rfl rfl rfl ae) | exact aR (j:=j) rfl rfl rfl rfl rfl ab rfl hjp hrl | exact bI rfl rfl (by simp) rfl rfl hvl rfl hjl2 ab)));(apply aF 13 rfl ab rfl rfl;((first | exact cu.pre (bX (n:=8) (z:=55) (s:=48) rfl rfl hrj hmj rfl) (bE rfl ab rfl rfl rfl rfl rfl rfl ae) | exact aR (j:=j) rfl rfl rfl rfl rfl ab rfl hjp hrl | exact bI rfl rfl (by simp) rfl rfl hvl rfl hjl2 ab)));(apply aF 14 rfl ab rfl rfl;((first | exact cu.pre (bX (n:=8) (z:=55) (s:=48) rfl rfl hrj hmj rfl) (bE rfl ab rfl rfl rfl rfl rfl rfl ae) | exact aR (j:=j) rfl rfl rfl rfl rfl ab rfl hjp hrl | exact bI rfl rfl (by simp) rfl rfl hvl rfl hjl2 ab)));(refine bh ab ?_;exact aV (Wk.of ⟨rfl,rfl,rfl,rfl,ag⟩ ⟨rfl,congrArg (fun l=>some (⟨true,24,1, .rows 2 l []⟩:Ch)) hfin,ag⟩ trivial))));(focus ((apply aF 1 rfl ab rfl rfl;exact aj rfl rfl);(apply aF 13 rfl ab rfl rfl;((first | exact cu.pre (bX (n:=8) (z:=55) (s:=48) rfl rfl hrj hmj rfl) (bE rfl ab rfl rfl rfl rfl rfl rfl ae) | exact aR (j:=j) rfl rfl rfl rfl rfl ab rfl hjp hrl | exact bI rfl rfl (by simp) rfl rfl hvl rfl hjl2 ab)));(apply aF 14 rfl ab rfl rfl;((first | exact cu.pre (bX (n:=8) (z:=55) (s:=48) rfl rfl hrj hmj rfl) (bE rfl ab rfl rfl rfl rfl rfl rfl ae) | exact aR (j:=j) rfl rfl rfl rfl rfl ab rfl hjp hrl | exact bI rfl rfl (by simp) rfl rfl hvl rfl hjl2 ab)));(refine bh ab ?_;exact aV (Wk.of ⟨rfl,rfl,rfl,rfl,ag⟩ ⟨rfl,congrArg (fun l=>some (⟨true,24,1, .rows 2 l []⟩:Ch)) hfin,ag⟩ trivial)))))));(focus ((apply ct 0 12 rfl ab rfl rfl rfl rfl;exact aj rfl rfl;((first | exact cu.pre (bX (n:=8) (z:=55) (s:=48) rfl rfl hrj hmj rfl) (bE rfl ab rfl rfl rfl rfl rfl rfl ae) | exact aR (j:=j) rfl rfl rfl rfl rfl ab rfl hjp hrl | exact bI rfl rfl (by simp) rfl rfl hvl rfl hjl2 ab));(focus ((apply aF 12 rfl ab rfl rfl;((first | exact cu.pre (bX (n:=8) (z:=55) (s:=48) rfl rfl hrj hmj rfl) (bE rfl ab rfl rfl rfl rfl rfl rfl ae) | exact aR (j:=j) rfl rfl rfl rfl rfl ab rfl hjp hrl | exact bI rfl rfl (by simp) rfl rfl hvl rfl hjl2 ab)));(apply aF 13 rfl ab rfl rfl;((first | exact cu.pre (bX (n:=8) (z:=55) (s:=48) rfl rfl hrj hmj rfl) (bE rfl ab rfl rfl rfl rfl rfl rfl ae) | exact aR (j:=j) rfl rfl rfl rfl rfl ab rfl hjp hrl | exact bI rfl rfl (by simp) rfl rfl hvl rfl hjl2 ab)));(apply aF 14 rfl ab rfl rfl;((first | exact cu.pre (bX (n:=8) (z:=55) (s:=48) rfl rfl hrj hmj rfl) (bE rfl ab rfl rfl rfl rfl rfl rfl ae) | exact aR (j:=j) rfl rfl rfl rfl rfl ab rfl hjp hrl | exact bI rfl rfl (by simp) rfl rfl hvl rfl hjl2 ab)));(refine bh ab ?_;exact aV (Wk.of ⟨rfl,rfl,rfl,rfl,ag⟩ ⟨rfl,congrArg (fun l=>some (⟨true,24,1, .rows 2 l []⟩:Ch)) hfin,ag⟩ trivial))));(focus ((apply aF 0 rfl ab rfl rfl;exact aj rfl rfl);(apply aF 13 rfl ab rfl rfl;((first | exact cu.pre (bX (n:=8) (z:=55) (s:=48) rfl rfl hrj hmj rfl) (bE rfl ab rfl rfl rfl rfl rfl rfl ae) | exact aR (j:=j) rfl rfl rfl rfl rfl ab rfl hjp hrl | exact bI rfl rfl (by simp) rfl rfl hvl rfl hjl2 ab)));(apply aF 14 rfl ab rfl rfl;((first | exact cu.pre (bX (n:=8) (z:=55) (s:=48) rfl rfl hrj hmj rfl) (bE rfl ab rfl rfl rfl rfl rfl rfl ae) | exact aR (j:=j) rfl rfl rfl rfl rfl ab rfl hjp hrl | exact bI rfl rfl (by simp) rfl rfl hvl rfl hjl2 ab)));(refine bh ab ?_;exact aV (Wk.of ⟨rfl,rfl,rfl,rfl,ag⟩ ⟨rfl,congrArg (fun l=>some (⟨true,24,1, .rows 2 l []⟩:Ch)) hfin,ag⟩ trivial)))))));(focus ((apply ct 0 1 rfl ab rfl rfl rfl rfl;exact aj rfl rfl;exact aj rfl rfl;(focus ((apply aF 1 rfl ab rfl rfl;exact aj rfl rfl);(apply aF 13 rfl ab rfl rfl;((first | exact cu.pre (bX (n:=8) (z:=55) (s:=48) rfl rfl hrj hmj rfl) (bE rfl ab rfl rfl rfl rfl rfl rfl ae) | exact aR (j:=j) rfl rfl rfl rfl rfl ab rfl hjp hrl | exact bI rfl rfl (by simp) rfl rfl hvl rfl hjl2 ab)));(apply aF 14 rfl ab rfl rfl;((first | exact cu.pre (bX (n:=8) (z:=55) (s:=48) rfl rfl hrj hmj rfl) (bE rfl ab rfl rfl rfl rfl rfl rfl ae) | exact aR (j:=j) rfl rfl rfl rfl rfl ab rfl hjp hrl | exact bI rfl rfl (by simp) rfl rfl hvl rfl hjl2 ab)));(refine bh ab ?_;exact aV (Wk.of ⟨rfl,rfl,rfl,rfl,ag⟩ ⟨rfl,congrArg (fun l=>some (⟨true,24,1, .rows 2 l []⟩:Ch)) hfin,ag⟩ trivial))));(focus ((apply aF 0 rfl ab rfl rfl;exact aj rfl rfl);(apply aF 13 rfl ab rfl rfl;((first | exact cu.pre (bX (n:=8) (z:=55) (s:=48) rfl rfl hrj hmj rfl) (bE rfl ab rfl rfl rfl rfl rfl rfl ae) | exact aR (j:=j) rfl rfl rfl rfl rfl ab rfl hjp hrl | exact bI rfl rfl (by simp) rfl rfl hvl rfl hjl2 ab)));(apply aF 14 rfl ab rfl rfl;((first | exact cu.pre (bX (n:=8) (z:=55) (s:=48) rfl rfl hrj hmj rfl) (bE rfl ab rfl rfl rfl rfl rfl rfl ae) | exact aR (j:=j) rfl rfl rfl rfl rfl ab rfl hjp hrl | exact bI rfl rfl (by simp) rfl rfl hvl rfl hjl2 ab)));(refine bh ab ?_;exact aV (Wk.of ⟨rfl,rfl,rfl,rfl,ag⟩ ⟨rfl,congrArg (fun l=>some (⟨true,24,1, .rows 2 l []⟩:Ch)) hfin,ag⟩ trivial)))))))))
       ·(skip)
        exact aV (Wk.of ⟨rfl,rfl,rfl,rfl,ag⟩ ⟨rfl,rfl,ag⟩ trivial)
    (refine an (a7 (aA (aT (an (ah (aa rfl (aj rfl rfl) ?_))))));apply aa rfl;exact aP rfl rfl rfl bA;refine aa rfl (ai rfl rfl) (ar ?_))
    exact aW (i + 1,ps.set j (m ||| 2 ^ i,labs ++ [aC zs (i - 1)])) ⟨ae,hv⟩ (by show L + 1 - (i + 1) < L + 1 - i;omega) (Wk.of ⟨rfl,rfl,congrArg (fun n=>some (o1 (.sl 8 0 n))) (by simp),rfl,ag⟩ ⟨rfl,rfl,ag⟩ trivial)
   ·have hv:vN zs mask (i + 1)=ps ++ [(2 ^ i, [])]:=by rw [hnx,if_neg (by rw [hjb];simp)]
    have hrl:(bV (eT ps)).length=ps.length:=by rw [cZ,hrx]
    have hfin:bV (eT ps) ++ [[]]=bV (eT (ps ++ [(2 ^ i, [])])):=by simp [eT,bV,aL]
    (refine aE (an (ah (aa rfl (aj rfl rfl) ?_)));apply aa rfl;(first | exact ey (E:=2) (k:=1) rfl ab | exact kt (vs:= []) rfl ab rfl rfl hrl rfl rfl rfl rfl rfl ae);apply aa rfl;(exact lW (E:=24) rfl ab rfl rfl rfl);apply aa rfl;(first | exact ey (E:=2) (k:=1) rfl ab | exact kt (vs:= []) rfl ab rfl rfl hrl rfl rfl rfl rfl rfl ae);refine aa rfl (ai rfl rfl) (ar (aM (an (ah (aa rfl (aj rfl rfl) ?_)))));apply aa rfl;exact aP rfl rfl rfl bA;refine aa rfl (ai rfl rfl) (ar ?_))
    exact aW (i + 1,ps ++ [(2 ^ i, [])]) ⟨ae,hv⟩ (by show L + 1 - (i + 1) < L + 1 - i;omega) (Wk.of ⟨rfl,rfl,congrArg (fun n=>some (o1 (.sl 8 0 n))) (by simp),rfl,ag⟩ ⟨rfl,congrArg (fun l=>some (⟨true,24,1, .rows 2 l []⟩:Ch)) hfin,ag⟩ trivial)
 ·obtain rfl:i=L + 1:=by omega
  have hv:comps zs mask=ps:=by unfold comps;rw [hL];exact hp
  rw [hv]
  (refine a7 (aA (aA (aT (an (ak (ah (aa rfl (aj rfl rfl) (aa rfl (ai rfl rfl) (ar (an (aS ?_))))))))))))
  exact bu (.inl rfl) rfl (.tmp rfl) ⟨rfl,ag⟩ trivial
end Go.Proofs.YtekbhbcgoadciaaGreat
namespace Go.Proofs.YtekbhbcgoadciaaGreat
open Go.RowKit
theorem mD (zs:List Int) (L:Nat) (hL:zs.length=L) (h4:L≤4):FC Tryz.prog 68 [(1003,dk zs)] [o1 (.sl 1003 0 L)] [] (vv (I6 (cB zs))) []:=by
 have hR:=xf zs L h4
 have h5:L + 1≤5:=by omega
 have hp:2 ^ (L + 1)≤2 ^ 5:=Nat.pow_le_pow_right (by decide) ae
 have h1:=yq (L + 1)
 have hcv:IntKind.u64.wrap ((L + 1:Nat):Int)=((L + 1:Nat):Int):=by rw [IntKind.wrap_u64];omega
 have hw:IntKind.i64.wrap (((2 ^ (L + 1):Nat):Int) - 1)=((cB zs:Nat):Int):=by
  rw [IntWalk.i64_in _ ae]
  unfold cB;rw [hL];omega
 refine bj (nt:=8) Tryz.func68 rfl rfl (by simp) fun w0 ω0=> ?_
 (refine ak (ah (aa rfl (ai rfl rfl) (ar (an (ak (ah (aa rfl (aj rfl rfl) ?_)))))));apply aa rfl;(first | (apply au 50;exact aw hR ab rfl rfl ⟨rfl,ag⟩ ⟨⟨_,rfl, .inl rfl⟩,ag⟩ rfl rfl) | exact dX rfl rfl ab ab hcv | exact fo (g:=L + 1) rfl rfl rfl h5 | exact cg rfl rfl rfl hw);apply aa rfl;(first | (apply au 50;exact aw hR ab rfl rfl ⟨rfl,ag⟩ ⟨⟨_,rfl, .inl rfl⟩,ag⟩ rfl rfl) | exact dX rfl rfl ab ab hcv | exact fo (g:=L + 1) rfl rfl rfl h5 | exact cg rfl rfl rfl hw);apply aa rfl;(first | (apply au 50;exact aw hR ab rfl rfl ⟨rfl,ag⟩ ⟨⟨_,rfl, .inl rfl⟩,ag⟩ rfl rfl) | exact dX rfl rfl ab ab hcv | exact fo (g:=L + 1) rfl rfl rfl h5 | exact cg rfl rfl rfl hw);apply aa rfl;(first | (apply au 50;exact aw hR ab rfl rfl ⟨rfl,ag⟩ ⟨⟨_,rfl, .inl rfl⟩,ag⟩ rfl rfl) | exact dX rfl rfl ab ab hcv | exact fo (g:=L + 1) rfl rfl rfl h5 | exact cg rfl rfl rfl hw);refine aa rfl (ai rfl rfl) (ar (an (aS ?_))))
 exact bu (.inl rfl) rfl (.tmp rfl) trivial trivial
theorem x5 (zs:List Int) (L mask:Nat) (hL:zs.length=L) (hd:cw zs=true) (hmk:mask < 1000):
  FC Tryz.prog 73 [(1003,dk zs)] [o1 (.sl 1003 0 L),vv (I6 mask)] [] (vv (I6 (eC (comps zs mask) (comps zs mask).length:Nat))) []:=by
 have h4:L≤4:=by have:=c7 hd;omega
 have hC:=(xq zs L mask hL h4 hmk).nm [(1003,1003),(8,10)] (by kernel_rfl)
 have hC:FC Tryz.prog 115 [(1003,dk zs)] [o1 (.sl 1003 0 L),vv (I6 mask)] [(10,lO (comps zs mask))] (o1 (.sl 10 0 (comps zs mask).length)) []:=hC
 have hlab:∀k,k < (comps zs mask).length→nz (dz (comps zs mask) k).2:=fun k hk=>ln hd hk
 have hnp:(comps zs mask).length≤5:=by
  have h1:=iO (comps zs mask);have h2:=(jE zs mask).sum;omega
 refine bj (nt:=36) Tryz.func73 rfl rfl (by simp) fun w0 ω0=> ?_
 generalize comps zs mask=ps at *
 generalize hN:ps.length=N at *
 have hrx:=mJ ps
 rw [hN] at hrx
 (refine ak (ah (aa rfl (ai rfl rfl) (ar (an (ak (ah (aa rfl (aj rfl rfl) (aa rfl (aj rfl rfl) ?_))))))));apply aa rfl;(apply au 115;exact bg hC ab rfl rfl ⟨rfl,rfl,ag⟩ ⟨⟨_,rfl, .inl rfl⟩,ag⟩ rfl rfl rfl);refine aa rfl (ai rfl rfl) (aa rfl (ai rfl rfl) (ar (an (ak (ak (ah (aa rfl (ai rfl rfl) (ar (an (aB ?_)))))))))))
 refine bz (fun j:Nat=>St.of [(5,o1 (.sl 10 0 N)),(6,vv (I6 (eC ps j:Nat))),(7,vv (I6 j))] [(10,lO ps)]) (fun j=>j≤N) (fun j=>N - j) 0 (Nat.zero_le _) (Wk.of ⟨rfl,rfl,rfl,ag⟩ ⟨rfl,ag⟩ trivial) ?_
 rintro j hj
 (refine ak (ak (ah (aa rfl (aj rfl rfl) (aa rfl (aj rfl rfl) (aa rfl (bw rfl rfl rfl ab) ?_)))));refine aa rfl (aG rfl rfl rfl rfl) (ar (an ?_)))
 refine bK rfl (fun hlt=> ?_) (fun hlt=> ?_)
 ·have hjN:j < N:=by omega
  have hjp:j < ps.length:=by omega
  have hL:=hlab j hjN
  have hk:=lJ hjp
  have hk2:=xU ps j
  have hrj:=nS hjp
  have hrg:=pH hjp
  have hjr:j < (eT ps).length:=by omega
  have hix:N≤(bV (eT ps)).length:=by rw [cZ,hrx];exact Nat.le_refl _
  generalize (dz ps j).2=labs at *
  have hm4:=hL.1
  have hlm:(aL labs).length=labs.length:=bc _
  have hAf:=(zv (eT ps) j labs.length labs hjr hrg rfl hm4).nm [(1000,10)] (by kernel_rfl)
  have hAf:FC Tryz.prog 120 [(10,a6 (eT ps))] [o1 (.esl 10 j 0 labs.length)] [] (vv (.bool (zk labs))) []:=hAf
  have hrest:(dA labs).length=0→∀(S:St),S=S→True:=fun _ _ _=>trivial
  rcases AU (eT ps) j labs.length labs hjr hrg rfl hm4 with ⟨hnil,hD⟩ | hD
  ·have hD:=hD.nm [(1000,10)] (by kernel_rfl)
   have hD:FC Tryz.prog 116 [(10,a6 (eT ps))] [o1 (.esl 10 j 0 labs.length)] [] (vv (.slice none 0 0)) []:=hD
   unfold pj at hk
   rw [if_pos (by rw [hnil];rfl)] at hk
   (refine aE (an (ak (aB (aB (ak (ah (aa rfl (aj rfl rfl) (aa rfl (aj rfl rfl) ?_))))))));apply aa rfl;(first | exact aR (j:=j) rfl rfl rfl rfl rfl ab rfl hjN hix | exact bF rfl ab rfl rfl rfl hrj hlm | (apply au 116;exact aw hD ab rfl rfl ⟨rfl,ag⟩ ⟨⟨_,rfl, .inr rfl⟩,ag⟩ rfl rfl));apply aa rfl;(first | exact aR (j:=j) rfl rfl rfl rfl rfl ab rfl hjN hix | exact bF rfl ab rfl rfl rfl hrj hlm | (apply au 116;exact aw hD ab rfl rfl ⟨rfl,ag⟩ ⟨⟨_,rfl, .inr rfl⟩,ag⟩ rfl rfl));apply aa rfl;(first | exact aR (j:=j) rfl rfl rfl rfl rfl ab rfl hjN hix | exact bF rfl ab rfl rfl rfl hrj hlm | (apply au 116;exact aw hD ab rfl rfl ⟨rfl,ag⟩ ⟨⟨_,rfl, .inr rfl⟩,ag⟩ rfl rfl));apply aa rfl;exact bw rfl rfl rfl ab;refine aa rfl (aG rfl rfl rfl rfl) (aa rfl (ai rfl rfl) (ar (an ?_))))
   refine ax rfl (fun e=> ?_) (fun _=> ?_)
   ·exfalso;simp at e
   (refine ak (ah (aa rfl (aj rfl rfl) (aa rfl (aj rfl rfl) ?_)));apply aa rfl;(first | exact aR (j:=j) rfl rfl rfl rfl rfl ab rfl hjN hix | exact bF rfl ab rfl rfl rfl hrj hlm | (apply au 120;exact aw hAf ab rfl rfl ⟨rfl,ag⟩ ⟨⟨_,rfl, .inr rfl⟩,ag⟩ rfl rfl));apply aa rfl;(first | exact aR (j:=j) rfl rfl rfl rfl rfl ab rfl hjN hix | exact bF rfl ab rfl rfl rfl hrj hlm | (apply au 120;exact aw hAf ab rfl rfl ⟨rfl,ag⟩ ⟨⟨_,rfl, .inr rfl⟩,ag⟩ rfl rfl));apply aa rfl;(first | exact aR (j:=j) rfl rfl rfl rfl rfl ab rfl hjN hix | exact bF rfl ab rfl rfl rfl hrj hlm | (apply au 120;exact aw hAf ab rfl rfl ⟨rfl,ag⟩ ⟨⟨_,rfl, .inr rfl⟩,ag⟩ rfl rfl));apply aa rfl;exact aj rfl rfl)
   refine bS 31 rfl (fun h1=> ?_) (fun h1=> ?_)
   ·rw [h1] at hk
    (apply aH rfl rfl rfl;exact aj rfl rfl;apply aH rfl rfl rfl;exact aG rfl rfl rfl rfl;refine aa rfl (bp rfl rfl rfl) (aa rfl (ai rfl rfl) (ar (an ?_))))
    refine ax rfl (fun h2=> ?_) (fun h2=> ?_)
    ·have h2:eC ps j≠2:=by
      have:(eC ps j:Int)≠2:=by simpa using h2
      omega
     rw [if_pos ⟨rfl,h2⟩] at hk
     (refine ah (aa rfl (ai rfl rfl) (ar (aM (aM (an (ah (aa rfl (aj rfl rfl) ?_)))))));apply aa rfl;exact aP rfl rfl rfl bA;refine aa rfl (ai rfl rfl) (ar ?_))
     exact aW (j + 1) ae ae (Wk.of ⟨rfl,congrArg (fun k:Nat=>some (vv (I6 (k:Int)))) hk.symm,rfl,ag⟩ ⟨rfl,ag⟩ trivial)
    ·have h2:eC ps j=2:=by
      have:(eC ps j:Int)=2:=by simpa using h2
      omega
     rw [if_neg (fun h=>h.2 h2)] at hk
     (refine ah (aa rfl (ai rfl rfl) (ar (aM (aM (an (ah (aa rfl (aj rfl rfl) ?_)))))));apply aa rfl;exact aP rfl rfl rfl bA;refine aa rfl (ai rfl rfl) (ar ?_))
     exact aW (j + 1) ae ae (Wk.of ⟨rfl,congrArg (fun k:Nat=>some (vv (I6 (k:Int)))) hk.symm,rfl,ag⟩ ⟨rfl,ag⟩ trivial)
   ·rw [h1,if_neg (by simp)] at hk
    (apply aD rfl rfl rfl rfl rfl;apply aD rfl rfl rfl rfl rfl;refine aa rfl (bD rfl rfl rfl) (aa rfl (ai rfl rfl) (ar (an ?_))))
    refine ax rfl (fun e=>by cases e) (fun _=> ?_)
    (refine ah (aa rfl (ai rfl rfl) (ar (aM (aM (an (ah (aa rfl (aj rfl rfl) ?_)))))));apply aa rfl;exact aP rfl rfl rfl bA;refine aa rfl (ai rfl rfl) (ar ?_))
    exact aW (j + 1) ae ae (Wk.of ⟨rfl,congrArg (fun k:Nat=>some (vv (I6 (k:Int)))) hk.symm,rfl,ag⟩ ⟨rfl,ag⟩ trivial)
  ·have hD:=hD.nm [(1000,10),(2100,22)] (by kernel_rfl)
   have hD:FC Tryz.prog 116 [(10,a6 (eT ps))] [o1 (.esl 10 j 0 labs.length)] [(22,bG (dA labs))] (o1 (.sl 22 0 (dA labs).length)) []:=hD
   unfold pj at hk
   (refine aE (an (ak (aB (aB (ak (ah (aa rfl (aj rfl rfl) (aa rfl (aj rfl rfl) ?_))))))));apply aa rfl;(first | exact aR (j:=j) rfl rfl rfl rfl rfl ab rfl hjN hix | exact bF rfl ab rfl rfl rfl hrj hlm | (apply au 116;exact bg hD ab rfl rfl ⟨rfl,ag⟩ ⟨⟨_,rfl, .inr rfl⟩,ag⟩ rfl rfl rfl));apply aa rfl;(first | exact aR (j:=j) rfl rfl rfl rfl rfl ab rfl hjN hix | exact bF rfl ab rfl rfl rfl hrj hlm | (apply au 116;exact bg hD ab rfl rfl ⟨rfl,ag⟩ ⟨⟨_,rfl, .inr rfl⟩,ag⟩ rfl rfl rfl));apply aa rfl;(first | exact aR (j:=j) rfl rfl rfl rfl rfl ab rfl hjN hix | exact bF rfl ab rfl rfl rfl hrj hlm | (apply au 116;exact bg hD ab rfl rfl ⟨rfl,ag⟩ ⟨⟨_,rfl, .inr rfl⟩,ag⟩ rfl rfl rfl));apply aa rfl;exact bw rfl rfl rfl ab;refine aa rfl (aG rfl rfl rfl rfl) (aa rfl (ai rfl rfl) (ar (an ?_))))
   refine ax rfl (fun e=> ?_) (fun e=> ?_)
   ·have e:¬(dA labs).length=0:=by
     have:=of_decide_eq_true e;omega
    rw [if_neg e] at hk
    (refine aE (aM (aM (an (ah (aa rfl (aj rfl rfl) ?_)))));apply aa rfl;exact aP rfl rfl rfl bA;refine aa rfl (ai rfl rfl) (ar ?_))
    exact aW (j + 1) ae ae (Wk.of ⟨rfl,congrArg (fun k:Nat=>some (vv (I6 (k:Int)))) hk.symm,rfl,ag⟩ ⟨rfl,ag⟩ trivial)
   have e:(dA labs).length=0:=by
    have:=of_decide_eq_false e;omega
   rw [if_pos e] at hk
   (refine ak (ah (aa rfl (aj rfl rfl) (aa rfl (aj rfl rfl) ?_)));apply aa rfl;(first | exact aR (j:=j) rfl rfl rfl rfl rfl ab rfl hjN hix | exact bF rfl ab rfl rfl rfl hrj hlm | (apply au 120;exact aw hAf ab rfl rfl ⟨rfl,ag⟩ ⟨⟨_,rfl, .inr rfl⟩,ag⟩ rfl rfl));apply aa rfl;(first | exact aR (j:=j) rfl rfl rfl rfl rfl ab rfl hjN hix | exact bF rfl ab rfl rfl rfl hrj hlm | (apply au 120;exact aw hAf ab rfl rfl ⟨rfl,ag⟩ ⟨⟨_,rfl, .inr rfl⟩,ag⟩ rfl rfl));apply aa rfl;(first | exact aR (j:=j) rfl rfl rfl rfl rfl ab rfl hjN hix | exact bF rfl ab rfl rfl rfl hrj hlm | (apply au 120;exact aw hAf ab rfl rfl ⟨rfl,ag⟩ ⟨⟨_,rfl, .inr rfl⟩,ag⟩ rfl rfl));apply aa rfl;exact aj rfl rfl)
   refine bS 31 rfl (fun h1=> ?_) (fun h1=> ?_)
   ·rw [h1] at hk
    (apply aH rfl rfl rfl;exact aj rfl rfl;apply aH rfl rfl rfl;exact aG rfl rfl rfl rfl;refine aa rfl (bp rfl rfl rfl) (aa rfl (ai rfl rfl) (ar (an ?_))))
    refine ax rfl (fun h2=> ?_) (fun h2=> ?_)
    ·have h2:eC ps j≠2:=by
      have:(eC ps j:Int)≠2:=by simpa using h2
      omega
     rw [if_pos ⟨rfl,h2⟩] at hk
     (refine ah (aa rfl (ai rfl rfl) (ar (aM (aM (an (ah (aa rfl (aj rfl rfl) ?_)))))));apply aa rfl;exact aP rfl rfl rfl bA;refine aa rfl (ai rfl rfl) (ar ?_))
     exact aW (j + 1) ae ae (Wk.of ⟨rfl,congrArg (fun k:Nat=>some (vv (I6 (k:Int)))) hk.symm,rfl,ag⟩ ⟨rfl,ag⟩ trivial)
    ·have h2:eC ps j=2:=by
      have:(eC ps j:Int)=2:=by simpa using h2
      omega
     rw [if_neg (fun h=>h.2 h2)] at hk
     (refine ah (aa rfl (ai rfl rfl) (ar (aM (aM (an (ah (aa rfl (aj rfl rfl) ?_)))))));apply aa rfl;exact aP rfl rfl rfl bA;refine aa rfl (ai rfl rfl) (ar ?_))
     exact aW (j + 1) ae ae (Wk.of ⟨rfl,congrArg (fun k:Nat=>some (vv (I6 (k:Int)))) hk.symm,rfl,ag⟩ ⟨rfl,ag⟩ trivial)
   ·rw [h1,if_neg (by simp)] at hk
    (apply aD rfl rfl rfl rfl rfl;apply aD rfl rfl rfl rfl rfl;refine aa rfl (bD rfl rfl rfl) (aa rfl (ai rfl rfl) (ar (an ?_))))
    refine ax rfl (fun e=>by cases e) (fun _=> ?_)
    (refine ah (aa rfl (ai rfl rfl) (ar (aM (aM (an (ah (aa rfl (aj rfl rfl) ?_)))))));apply aa rfl;exact aP rfl rfl rfl bA;refine aa rfl (ai rfl rfl) (ar ?_))
    exact aW (j + 1) ae ae (Wk.of ⟨rfl,congrArg (fun k:Nat=>some (vv (I6 (k:Int)))) hk.symm,rfl,ag⟩ ⟨rfl,ag⟩ trivial)
 ·obtain rfl:j=N:=by omega
  (refine a7 (aA (aA (aT (an (ak (ah (aa rfl (aj rfl rfl) (aa rfl (ai rfl rfl) (ar (an (aS ?_))))))))))))
  exact bu (.inl rfl) rfl (.tmp rfl) trivial trivial
theorem EK (zs:List Int) (hn:zs.length≤4398046511104):
  FC Tryz.prog 23 [(1003,dk zs)] [o1 (.sl 1003 0 zs.length)] [] (.tup [.one (.val (I6 (ka zs))), .one (.val (I6 (ja zs)))]) []:=by
 have hI:=rq zs zs.length rfl hn
 refine bj (nt:=11) Tryz.func23 rfl rfl (by simp) fun w0 ω0=> ?_
 cases hd:cw zs with
 | false=>
  rw [hd] at hI
  unfold ka ja
  rw [hd,if_neg (by simp),if_neg (by simp)]
  (refine ak (ah (aa rfl (ai rfl rfl) (aa rfl (ai rfl rfl) (ar (an (ak (ak (ah (aa rfl (aj rfl rfl) ?_)))))))));apply aa rfl;(apply au 72;exact aw hI ab rfl rfl ⟨rfl,ag⟩ ⟨⟨_,rfl, .inl rfl⟩,ag⟩ rfl rfl);refine aa rfl (bU rfl rfl) (ar (an ?_)))
  refine ax rfl (fun _=> ?_) (fun e=>by cases e)
  (refine ak (ah (aa rfl (ai rfl rfl) (aa rfl (ai rfl rfl) (ar (an (aS (aO ?_))))))))
  exact bN (.inl rfl) rfl (.tmp rfl) (.tmp rfl) trivial trivial
 | true=>
  rw [hd] at hI
  have h4:=c7 hd
  have hW:=mD zs zs.length rfl h4
  have hK:=x5 zs zs.length (cB zs) rfl hd (fM h4)
  unfold ka ja
  rw [hd,if_pos rfl,if_pos rfl]
  (refine ak (ah (aa rfl (ai rfl rfl) (aa rfl (ai rfl rfl) (ar (an (ak (ak (ah (aa rfl (aj rfl rfl) ?_)))))))));apply aa rfl;(apply au 72;exact aw hI ab rfl rfl ⟨rfl,ag⟩ ⟨⟨_,rfl, .inl rfl⟩,ag⟩ rfl rfl);refine aa rfl (bU rfl rfl) (ar (an ?_)))
  refine ax rfl (fun e=>by cases e) (fun _=> ?_)
  (refine aE (an (ak (ah (aa rfl (aj rfl rfl) (aa rfl (aj rfl rfl) ?_)))));apply aa rfl;(first | (apply au 68;exact aw hW ab rfl rfl ⟨rfl,ag⟩ ⟨⟨_,rfl, .inl rfl⟩,ag⟩ rfl rfl) | (apply au 73;exact aw hK ab rfl rfl ⟨rfl,rfl,ag⟩ ⟨⟨_,rfl, .inl rfl⟩,ag⟩ rfl rfl));apply aa rfl;(first | (apply au 68;exact aw hW ab rfl rfl ⟨rfl,ag⟩ ⟨⟨_,rfl, .inl rfl⟩,ag⟩ rfl rfl) | (apply au 73;exact aw hK ab rfl rfl ⟨rfl,rfl,ag⟩ ⟨⟨_,rfl, .inl rfl⟩,ag⟩ rfl rfl));refine aa rfl (ai rfl rfl) (aa rfl (ai rfl rfl) (ar (an (aS ?_)))))
  exact bN (.inl rfl) rfl (.tmp rfl) (.tmp rfl) trivial trivial
end Go.Proofs.YtekbhbcgoadciaaGreat
namespace Go.Proofs.YtekbhbcgoadciaaGreat
open Go.RowKit
theorem wX {us:List Value} {u0 u1 u2:Value} (hl:us.length=3) (g0:us[0]? =some u0) (g1:us[1]? =some u1) (g2:us[2]? =some u2):us= [u0,u1,u2]:=by
 match us,hl with
 | [p,q,r],_=>simp at g0 g1 g2;rw [g0,g1,g2]
theorem CB (a b c:Int):FC Tryz.prog 61 [] [vv (I6 a),vv (I6 b),vv (I6 c)] [] (vv (.bool (kY a b c))) []:=
 dS fun w η ω us hm ⟨hl,ha⟩=>by
  obtain ⟨u0,g0,d0⟩:=ha 0 _ rfl
  obtain ⟨u1,g1,d1⟩:=ha 1 _ rfl
  obtain ⟨u2,g2,d2⟩:=ha 2 _ rfl
  have d0:u0=I6 a:=d0
  have d1:u1=I6 b:=d1
  have d2:u2=I6 c:=d2
  subst d0 d1 d2
  rw [wX hl g0 g1 g2]
  refine (ir a b c w).mono ?_
  rintro e w' ⟨rfl,rfl⟩
  exact ⟨rfl,Below.refl _ _⟩
end Go.Proofs.YtekbhbcgoadciaaGreat
namespace Go.Proofs.YtekbhbcgoadciaaGreat
open Go.RowKit
def gR (zs:List Int) (m:Int):Int:=if cw zs=true then (if kY m 0 (cB zs)=true then (if gO zs m.toNat=true then 0 else 5) else 2) else 1
theorem JE (a b c:Int):FC Tryz.prog 105 [] [vv (I6 a),vv (I6 b),vv (I6 c)] [] (vv (.bool (kY a b c))) []:=
 dS fun w η ω us hm ⟨hl,ha⟩=>by
  obtain ⟨u0,g0,d0⟩:=ha 0 _ rfl
  obtain ⟨u1,g1,d1⟩:=ha 1 _ rfl
  obtain ⟨u2,g2,d2⟩:=ha 2 _ rfl
  have d0:u0=I6 a:=d0
  have d1:u1=I6 b:=d1
  have d2:u2=I6 c:=d2
  subst d0 d1 d2
  rw [wX hl g0 g1 g2]
  refine (gx a b c w).mono ?_
  rintro e w' ⟨rfl,rfl⟩
  exact ⟨rfl,Below.refl _ _⟩
theorem EV (zs:List Int) (L:Nat) (m:Int) (hL:zs.length=L) (hn:L≤4398046511104):FC Tryz.prog 104 [(1003,dk zs)] [o1 (.sl 1003 0 L),vv (I6 m)] [] (vv (I6 (gR zs m))) []:=by
 have hI:=rq zs L hL hn
 unfold gR
 refine bj (nt:=20) Tryz.func104 rfl rfl (by simp) fun w0 ω0=> ?_
 cases hd:cw zs with
 | false=>
  rw [hd] at hI
  rw [if_neg (by simp)]
  (refine ak (ah (aa rfl (ai rfl rfl) (ar (an (ak (aB (ak (ah (aa rfl (aj rfl rfl) ?_)))))))));apply aa rfl;(apply au 72;exact aw hI ab rfl rfl ⟨rfl,ag⟩ ⟨⟨_,rfl, .inl rfl⟩,ag⟩ rfl rfl);refine aa rfl (bU rfl rfl) (aa rfl (ai rfl rfl) (ar (an ?_))))
  refine ax rfl (fun _=> ?_) (fun e=>by cases e)
  (refine ak (ah (aa rfl (ai rfl rfl) (ar (an (aS (bt (aO ?_))))))))
  exact bu (.inl rfl) rfl (.tmp rfl) trivial trivial
 | true=>
  rw [hd] at hI
  rw [if_pos rfl]
  have h4:L≤4:=by have:=c7 hd;omega
  have hW:=mD zs L hL h4
  have hIn:=JE m 0 (cB zs)
  (refine ak (ah (aa rfl (ai rfl rfl) (ar (an (ak (aB (ak (ah (aa rfl (aj rfl rfl) ?_)))))))));apply aa rfl;(apply au 72;exact aw hI ab rfl rfl ⟨rfl,ag⟩ ⟨⟨_,rfl, .inl rfl⟩,ag⟩ rfl rfl);refine aa rfl (bU rfl rfl) (aa rfl (ai rfl rfl) (ar (an ?_))))
  refine ax rfl (fun e=>by cases e) (fun _=> ?_)
  (refine ak (ah (aa rfl (aj rfl rfl) (aa rfl (aj rfl rfl) ?_)));apply aa rfl;(first | (apply au 68;exact aw hW ab rfl rfl ⟨rfl,ag⟩ ⟨⟨_,rfl, .inl rfl⟩,ag⟩ rfl rfl) | (apply au 105;exact aw hIn ab rfl rfl ⟨rfl,rfl,rfl,ag⟩ trivial rfl rfl));apply aa rfl;(first | (apply au 68;exact aw hW ab rfl rfl ⟨rfl,ag⟩ ⟨⟨_,rfl, .inl rfl⟩,ag⟩ rfl rfl) | (apply au 105;exact aw hIn ab rfl rfl ⟨rfl,rfl,rfl,ag⟩ trivial rfl rfl));refine aa rfl (bU rfl rfl) (aa rfl (ai rfl rfl) (ar (an ?_))))
  refine ax rfl (fun h=> ?_) (fun h=> ?_)
  ·have hb:kY m 0 (cB zs)=false:=by simpa using h
   rw [hb,if_neg (by simp)]
   (refine ak (ah (aa rfl (ai rfl rfl) (ar (an (aS (bt (aO ?_))))))))
   exact bu (.inl rfl) rfl (.tmp rfl) trivial trivial
  have hb:kY m 0 (cB zs)=true:=by simpa using h
  rw [hb,if_pos rfl]
  have hlt:=fM (zs:=zs) ae
  have hbb:=fC.1 hb
  obtain ⟨k,hk⟩:=Int.eq_ofNat_of_zero_le hbb.1
  subst hk
  rw [Int.toNat_natCast]
  have hK:=x5 zs L k hL hd ae
  (refine ak (ah (aa rfl (aj rfl rfl) (aa rfl (aj rfl rfl) ?_)));apply aa rfl;(apply au 73;exact aw hK ab rfl rfl ⟨rfl,rfl,ag⟩ ⟨⟨_,rfl, .inl rfl⟩,ag⟩ rfl rfl);refine aa rfl (aG rfl rfl rfl rfl) (aa rfl (ai rfl rfl) (ar (an ?_))))
  refine ax rfl (fun h=> ?_) (fun h=> ?_)
  ·have hf:gO zs k=false:=by
    have:((eC (comps zs k) (comps zs k).length:Nat):Int)≠0:=by simpa using h
    unfold gO;rw [decide_eq_false_iff_not];omega
   rw [hf,if_neg (by simp)]
   (refine ak (ah (aa rfl (ai rfl rfl) (ar (an (aS (bt (aO ?_))))))))
   exact bu (.inl rfl) rfl (.tmp rfl) trivial trivial
  have hf:gO zs k=true:=by
   have:((eC (comps zs k) (comps zs k).length:Nat):Int)=0:=by simpa using h
   unfold gO;rw [decide_eq_true_iff];omega
  rw [hf,if_pos rfl]
  (refine aE (aM (an (ak (ah (aa rfl (ai rfl rfl) (ar (an (aS ?_)))))))))
  exact bu (.inl rfl) rfl (.tmp rfl) trivial trivial
def eY (zs:List Int):Int:=gR zs (cB zs)
theorem AG (zs:List Int) (L:Nat) (hL:zs.length=L) (hn:L≤4398046511104):FC Tryz.prog 66 [(1003,dk zs)] [o1 (.sl 1003 0 L)] [] (vv (I6 (eY zs))) []:=by
 have hI:=rq zs L hL hn
 refine bj (nt:=10) Tryz.func66 rfl rfl (by simp) fun w0 ω0=> ?_
 cases hd:cw zs with
 | false=>
  rw [hd] at hI
  have e:eY zs=1:=by unfold eY gR;rw [hd,if_neg (by simp)]
  rw [e]
  (refine ak (ah (aa rfl (ai rfl rfl) (ar (an (ak (ak (ah (aa rfl (aj rfl rfl) ?_))))))));apply aa rfl;(apply au 72;exact aw hI ab rfl rfl ⟨rfl,ag⟩ ⟨⟨_,rfl, .inl rfl⟩,ag⟩ rfl rfl);refine aa rfl (bU rfl rfl) (ar (an ?_)))
  refine ax rfl (fun _=> ?_) (fun e=>by cases e)
  (refine ak (ah (aa rfl (ai rfl rfl) (ar (an (aS (aO ?_)))))))
  exact bu (.inl rfl) rfl (.tmp rfl) trivial trivial
 | true=>
  rw [hd] at hI
  have h4:L≤4:=by have:=c7 hd;omega
  have hW:=mD zs L hL h4
  have hM:=EV zs L (cB zs) hL hn
  (refine ak (ah (aa rfl (ai rfl rfl) (ar (an (ak (ak (ah (aa rfl (aj rfl rfl) ?_))))))));apply aa rfl;(apply au 72;exact aw hI ab rfl rfl ⟨rfl,ag⟩ ⟨⟨_,rfl, .inl rfl⟩,ag⟩ rfl rfl);refine aa rfl (bU rfl rfl) (ar (an ?_)))
  refine ax rfl (fun e=>by cases e) (fun _=> ?_)
  (refine aE (an (ak (ah (aa rfl (aj rfl rfl) (aa rfl (aj rfl rfl) ?_)))));apply aa rfl;(first | (apply au 68;exact aw hW ab rfl rfl ⟨rfl,ag⟩ ⟨⟨_,rfl, .inl rfl⟩,ag⟩ rfl rfl) | (apply au 104;exact aw hM ab rfl rfl ⟨rfl,rfl,ag⟩ ⟨⟨_,rfl, .inl rfl⟩,ag⟩ rfl rfl));apply aa rfl;(first | (apply au 68;exact aw hW ab rfl rfl ⟨rfl,ag⟩ ⟨⟨_,rfl, .inl rfl⟩,ag⟩ rfl rfl) | (apply au 104;exact aw hM ab rfl rfl ⟨rfl,rfl,ag⟩ ⟨⟨_,rfl, .inl rfl⟩,ag⟩ rfl rfl));refine aa rfl (ai rfl rfl) (ar (an (aS ?_))))
  exact bu (.inl rfl) rfl (.tmp rfl) trivial trivial
theorem AZ (zs:List Int) (hd:cw zs=true):eY zs=if gO zs (cB zs)=true then 0 else 5:=by
 unfold eY gR
 rw [if_pos hd,if_pos (fC.2 ⟨ae,ae⟩),Int.toNat_natCast]
def oh (zs:List Int):Int:=if eY zs=0 then (wv zs (cB zs):Int) else 0
end Go.Proofs.YtekbhbcgoadciaaGreat
namespace Go.Proofs.YtekbhbcgoadciaaGreat
open Go.RowKit
section
variable {P:Program} {nt:Nat} {S:St} {t:Nat} {ty:TypeId} {ps:String} {af:Array Edge} {gd:Option (Nat×Bool)} {x y:Operand}
theorem nr {x y:Nm} {s E k m:Nat} {vs:List Value} (hc:S.ch x=some ⟨true,E,k, .bR vs⟩) (hs0:S.sl s=some (o1 (.sl x 0 m))):
  Wk S (((S.rm x).new y ⟨true,E,k, .bR vs⟩).put s (o1 (.sl y 0 m))):=by
 refine ⟨fun w0 ω0 nt a w ⟨η,ω,h⟩=> ?_⟩
 obtain ⟨u,hu,hdu⟩:=h.slots s _ hs0
 have hdu:c6 η (.sl x 0 m) u:=hdu
 obtain ⟨hd,e1,e2,e3⟩:=h.chunk hc
 have e3:dJ ω w (x,none) hd E vs.length (cI η ω w true x (.bR vs)):=e3
 obtain ⟨ao,rfl,q1,_⟩:=hdu.2 hd e1
 let ω':bY:=fun b=>if ω b=some (x,none) then some (y,none) else ω b
 have calm:Calm (S.rm x) ω w ω' w:=⟨rfl,rfl,rfl,Nat.le_refl _,fun b _ hl=>⟨rfl,by
  have h1:ω b≠some (x,none):=by
   rcases hl with h0 | ⟨y,j,c,h0,h1⟩
   ·rw [h0];simp
   ·rw [h0];intro e;simp at e;rw [e.1,fG,if_pos rfl] at h1;cases h1
  exact if_neg h1⟩⟩
 have h2:=(h.drop x).lay (x:=y) (c:=⟨true,E,k, .bR vs⟩) (hd:=hd) (r:=fun _=>⟨none,0,1⟩) calm ⟨e2,by
  show dJ ω' w (y,none) hd E vs.length _
  rcases e3 with h0 | ⟨b,o,cs,f1,f2,f3,f4,f5,f6,f7⟩
  ·exact .inl h0
  ·exact .inr ⟨b,o,cs,f1,if_pos f2,f3,f4,f5,f6,f7⟩⟩
 refine ⟨_,ω', { h2 with slots:=fun t' av ht'=> ?_ }⟩
 rw [iW] at ht'
 by_cases e:t'=s
 ·subst e
  rw [if_pos rfl] at ht'
  obtain rfl:=Option.some.inj ht'
  refine ⟨_,hu,⟨_,_,rfl⟩,fun hd' he=> ?_⟩
  simp [Env.new] at he
  subst he
  exact ⟨_,rfl,fun _=>q1 rfl,fun h0=>absurd h0 ae⟩
 ·rw [if_neg e] at ht'
  exact h2.slots t' av ht'
theorem jO {T E n q off len:Nat} {c:Ch} {zs:List Int} (ht:Nat.blt t nt=true) (hT:pN P T E 1=true) (hx:S.op x=some (o1 (.sl n 0 len))) (hc:S.ch n=some c) (hce:c=⟨true,E,1, .bR (aL zs)⟩) (hl:zs.length=len) (hy:S.op y=some (o1 (.sl q off 0))):
  cu P nt ⟨some t, .call { callee:= .builtin .append,args:= #[x,y],argTypes:= #[T,T] },ty,ps,af,gd⟩ S (S.put t (o1 (.sl n 0 len))):=
 cu.pure rfl ht fun w0 ω0 η ω a w hs=>by
  subst hce hl
  obtain ⟨hd,e1,e2,e3⟩:=hs.chunk hc
  have e2:hd.k=1:=e2
  have e3:dJ ω w (n,none) hd E (aL zs).length (cI η ω w true n (.bR (aL zs))):=e3
  have hu:c6 η (.sl n 0 zs.length) (a.eval x):=hs.iE hx
  obtain ⟨ao,hev,_,_⟩:=hu.2 hd e1
  rw [Nat.sub_zero] at hev
  have hroom:zs.length≤hd.c:=by
   rcases e3 with ⟨_,_,h3⟩ | ⟨b,o,cs,f1,f2,f3,f4,f5,f6,f7⟩
   ·rw [bc] at h3;omega
   ·rw [bc,e2] at f5;omega
  obtain ⟨⟨ay,cy,hey⟩,_⟩:c6 η (.sl q off 0) (a.eval y):=hs.iE hy
  obtain ⟨i,z,g1,g2,g3,g4,g5,g6⟩:=ep hT
  refine ⟨.slice ao zs.length hd.c, ?_,by rw [←hev];exact hu⟩
  cases ay<;>cases ao<;>simp [execOp,resolve,invoke,builtin,hev,hey,Builtin.append_,run_underlying g1,sizeOf,typeInfo,g2,Builtin.lenOf,hroom,Builtin.firstCells,loadCells,loadCellsFrom,storeCells]
end
end Go.Proofs.YtekbhbcgoadciaaGreat
namespace Go.Proofs.YtekbhbcgoadciaaGreat
open Go.RowKit
theorem yE {S:St} {n:Nm} {at_ m:Nat} {c:Ch} {zs:List Int} (hc:S.ch n=some c) (hd:c.d= .bR (aL zs)) (hk:c.k=1) (hl:at_ + m=zs.length):Reads S (.sl n at_ m) m 1 (aL (zs.drop at_)):=by
 have:=eR (S:=S) (n:=n) (off:=at_) (m:=m) (k:=1) hc hd hk rfl (by rw [bc];omega)
 rwa [Nat.mul_one,Nat.mul_one,show ((aL zs).drop at_).take m=aL (zs.drop at_) by
  unfold aL;rw [←List.map_drop,List.take_of_length_le (by simp;omega)]] at this
theorem gH {S:St} {n:Nm} {m:Nat} {c:Ch} {zs:List Int} (hc:S.ch n=some c) (hd:c.d= .bR (aL zs)) (hk:c.k=1) (hl:m≤zs.length):Reads S (.sl n 0 m) m 1 (aL (zs.take m)):=by
 have:=eR (S:=S) (n:=n) (off:=0) (m:=m) (k:=1) hc hd hk rfl (by rw [bc];omega)
 rwa [Nat.zero_mul,List.drop_zero,Nat.mul_one,show (aL zs).take m=aL (zs.take m) by unfold aL;rw [List.map_take]] at this
theorem CG (A:List Int):(cJ A).Pairwise (· ≤·):=by
 have:=List.pairwise_mergeSort (le:=fun a b:Int=>decide (a≤b)) (fun a b c h1 h2=>by simp at *;omega) (fun a b=>by simp;omega) A
 exact this.imp (by simp)
theorem G2 {A:List Int} {e:Int} {i:Nat} (hi:i≤(cJ A).length) (h1:∀x,x < i→aC (cJ A) x≤e) (h2:i=(cJ A).length∨e < aC (cJ A) i):
  (cJ A).take i ++ ([e] ++ (cJ A).drop i)=cJ (A ++ [e]):=by
 have hs:=CG A
 have hp:(cJ A).Perm A:=List.mergeSort_perm A _
 generalize cJ A=l at *
 apply nF
 ·have q1:(l.take i ++ ([e] ++ l.drop i)).Perm (e :: (l.take i ++ l.drop i)):=by
   rw [List.singleton_append];exact List.perm_middle
  rw [List.take_append_drop] at q1
  exact q1.trans ((hp.cons e).trans (List.perm_append_singleton e A).symm)
 ·rw [←List.take_append_drop i l,List.pairwise_append] at hs
  obtain ⟨s1,s2,s3⟩:=hs
  have ha:∀a∈l.take i,a≤e:=fun a ha=>by
   obtain ⟨x,hx,rfl⟩:=List.getElem_of_mem ha
   have hx':x < i:=by rw [List.length_take] at hx;omega
   have:=h1 x hx'
   rw [cX ae] at this
   rw [List.getElem_take];exact this
  have hb:∀b∈l.drop i,e≤b:=fun b hb=>by
   rcases h2 with h2 | h2
   ·rw [List.drop_of_length_le ae] at hb;cases hb
   ·have hil:i < l.length:=by
     rcases Nat.lt_or_ge i l.length with h | h
     ·exact h
     ·rw [List.drop_of_length_le h] at hb;cases hb
    rw [cX hil] at h2
    rw [List.drop_eq_getElem_cons hil] at s2 hb
    rcases List.mem_cons.1 hb with rfl | hb
    ·omega
    ·have:=(List.pairwise_cons.1 s2).1 b hb;omega
  rw [List.pairwise_append,List.singleton_append,List.pairwise_cons]
  refine ⟨s1,⟨hb,s2⟩,fun a h3 b h4=> ?_⟩
  rcases List.mem_cons.1 h4 with rfl | h4
  ·exact ha a h3
  ·exact s3 a h3 b h4
section
variable {P:Program} {nt:Nat} {S:St} {t:Nat} {ty:TypeId} {ps:String} {af:Array Edge} {gd:Option (Nat×Bool)} {x:Operand}
theorem dF {T:TypeId} {n:Nm} {len l h m:Nat} {c:Ch} {lo hi:Option Operand} (hm:l + m=h) (ht:Nat.blt t nt=true) (hx:S.op x=some (o1 (.sl n 0 len))) (hc:S.ch n=some c) (hk:c.k=1) (hT:lM P T 1=true)
  (hlo:CR S lo 0 l) (hhi:CR S hi len h) (hhl:h≤len) (hl:len≤c.d.len):cu P nt ⟨some t, .slice T x lo hi none,ty,ps,af,gd⟩ S (S.put t (o1 (.sl n l m))):=by
 have:=kT (P:=P) (nt:=nt) (ty:=ty) (ps:=ps) (af:=af) (gd:=gd) (k:=1) ht hx hc hk hT ae hlo hhi ae hhl ae
 rwa [Nat.zero_add,show h - l=m by omega] at this
end
theorem Fp (zs:List Int) (L mask:Nat) (hL:zs.length=L) (hd:cw zs=true) (hmk:mask < 1000) (hf:gO zs mask=true):
  FC Tryz.prog 67 [(1003,dk zs)] [o1 (.sl 1003 0 L),vv (I6 mask)] [(2300,bG (eV zs mask))] (o1 (.sl 2300 0 (fO (comps zs mask) (comps zs mask).length).length)) []:=by
 have h4:L≤4:=by have:=c7 hd;omega
 have hC:=(xq zs L mask hL h4 hmk).nm [(1003,1003),(8,14)] (by kernel_rfl)
 have hC:FC Tryz.prog 115 [(1003,dk zs)] [o1 (.sl 1003 0 L),vv (I6 mask)] [(14,lO (comps zs mask))] (o1 (.sl 14 0 (comps zs mask).length)) []:=hC
 have hlab:∀k,k < (comps zs mask).length→nz (dz (comps zs mask) k).2:=fun k hk=>ln hd hk
 have hcs:iy (comps zs mask)≤5:=by have:=(jE zs mask).sum;omega
 have hnp:(comps zs mask).length≤5:=by have:=iO (comps zs mask);omega
 have hfa:=(ri (ps:=comps zs mask) (comps zs mask).length (Nat.le_refl _)).1 (by simpa [gO] using hf)
 have hcl:∀j,j≤(comps zs mask).length→(fO (comps zs mask) j).length≤5:=fun j hj=>Nat.le_trans (lU hlab j hj) (Nat.le_trans (mX _ _) hcs)
 unfold eV
 refine bj (nt:=67) Tryz.func67 rfl rfl (by simp) fun w0 ω0=> ?_
 generalize comps zs mask=ps at *
 generalize hN:ps.length=N at *
 have hrx:=mJ ps
 rw [hN] at hrx
 (refine ak (ah (aa rfl (ai rfl rfl) (ar (an (ak (ah (aa rfl (aj rfl rfl) (aa rfl (aj rfl rfl) ?_))))))));apply aa rfl;(apply au 115;exact bg hC ab rfl rfl ⟨rfl,rfl,ag⟩ ⟨⟨_,rfl, .inl rfl⟩,ag⟩ rfl rfl rfl);apply aa rfl;(exact ey (E:=2) (k:=1) rfl ab);refine aa rfl (ai rfl rfl) (aa rfl (ai rfl rfl) (ar (an (ak (ak (ah (aa rfl (ai rfl rfl) (ar (an (aB ?_)))))))))))
 refine bz (fun j:Nat=>St.of [(5,o1 (.sl 14 0 N)),(6,o1 (.sl 2300 0 (fO ps j).length)),(7,vv (I6 j))] [(14,lO ps),(2300,bG (cJ (fO ps j)))]) (fun j=>j≤N) (fun j=>N - j) 0 (Nat.zero_le _) (Wk.trans (nr (x:=15) (y:=2300) (s:=6) (m:=0) rfl rfl) (Wk.of ⟨rfl,rfl,rfl,ag⟩ ⟨rfl,congrArg (fun z=>some (bG z)) (show []=cJ (fO ps 0) by simp [fO,cJ]),ag⟩ trivial)) ?_
 rintro j hj
 (refine ak (ak (ah (aa rfl (aj rfl rfl) (aa rfl (aj rfl rfl) (aa rfl (bw rfl rfl rfl ab) ?_)))));refine aa rfl (aG rfl rfl rfl rfl) (ar (an ?_)))
 refine bK rfl (fun hlt=> ?_) (fun hlt=> ?_)
 ·have hjN:j < N:=by omega
  have hjp:j < ps.length:=by omega
  have hL:=hlab j hjN
  have hne:=hfa j hjN
  have hcat:=kL hjp
  have hc5:=hcl (j + 1) ae
  have hrj:=nS hjp
  have hrg:=pH hjp
  have hjr:j < (eT ps).length:=by omega
  have hix:N≤(bV (eT ps)).length:=by rw [cZ,hrx];exact Nat.le_refl _
  generalize (dz ps j).2=labs at *
  have hm4:=hL.1
  have hlm:(aL labs).length=labs.length:=bc _
  rcases AU (eT ps) j labs.length labs hjr hrg rfl hm4 with ⟨hnil,_⟩ | hD
  ·exact absurd (by rw [hnil];rfl) hne
  have hD:=hD.nm [(1000,14),(2100,26)] (by kernel_rfl)
  have hD:FC Tryz.prog 116 [(14,a6 (eT ps))] [o1 (.esl 14 j 0 labs.length)] [(26,bG (dA labs))] (o1 (.sl 26 0 (dA labs).length)) []:=hD
  rw [hcat,List.length_append] at hc5
  generalize hA:fO ps j=A at *
  generalize hM:dA labs=ds at *
  (refine aE (an (ak (aB (ak (ah (aa rfl (aj rfl rfl) (aa rfl (aj rfl rfl) ?_)))))));apply aa rfl;(first | exact aR (j:=j) rfl rfl rfl rfl rfl ab rfl hjN hix | exact bF rfl ab rfl rfl rfl hrj hlm | (apply au 116;exact bg hD ab rfl rfl ⟨rfl,ag⟩ ⟨⟨_,rfl, .inr rfl⟩,ag⟩ rfl rfl rfl));apply aa rfl;(first | exact aR (j:=j) rfl rfl rfl rfl rfl ab rfl hjN hix | exact bF rfl ab rfl rfl rfl hrj hlm | (apply au 116;exact bg hD ab rfl rfl ⟨rfl,ag⟩ ⟨⟨_,rfl, .inr rfl⟩,ag⟩ rfl rfl rfl));apply aa rfl;(first | exact aR (j:=j) rfl rfl rfl rfl rfl ab rfl hjN hix | exact bF rfl ab rfl rfl rfl hrj hlm | (apply au 116;exact bg hD ab rfl rfl ⟨rfl,ag⟩ ⟨⟨_,rfl, .inr rfl⟩,ag⟩ rfl rfl rfl));refine aa rfl (ai rfl rfl) (ar (an (ak (ah (aa rfl (ai rfl rfl) (ar (an (aB ?_)))))))))
  refine bz (fun k:Nat=>St.of [(5,o1 (.sl 14 0 N)),(6,o1 (.sl 2300 0 (A.length + k))),(7,vv (I6 j)),(8,o1 (.sl 26 0 ds.length)),(9,vv (I6 k))] [(14,lO ps),(2300,bG (cJ (A ++ ds.take k))),(26,bG ds)]) (fun k=>k≤ds.length) (fun k=>ds.length - k) 0 (Nat.zero_le _) (Wk.of ⟨rfl,rfl,rfl,rfl,rfl,ag⟩ ⟨rfl,congrArg (fun z=>some (bG (cJ z))) (by rw [List.take_zero,List.append_nil]),rfl,ag⟩ trivial) ?_
  rintro k hk
  (refine ak (ak (ah (aa rfl (aj rfl rfl) (aa rfl (aj rfl rfl) (aa rfl (bw rfl rfl rfl ab) ?_)))));refine aa rfl (aG rfl rfl rfl rfl) (ar (an ?_)))
  refine bK rfl (fun hlt=> ?_) (fun hlt=> ?_)
  ·have hkm:k < ds.length:=by omega
   have hln:(cJ (A ++ ds.take k)).length=A.length + k:=by rw [pr,List.length_append,List.length_take];omega
   have hol:A.length + k≤(aL (cJ (A ++ ds.take k))).length:=by rw [bc,hln];exact Nat.le_refl _
   have hdl:ds.length≤(aL ds).length:=by rw [bc];exact Nat.le_refl _
   have hg2:(aL ds)[k]? =some (I6 (aC ds k)):=bl hkm
   (refine aE (an (ak (aB (ak (ah (aa rfl (ai rfl rfl) (ar (an (ak (aB ?_)))))))))))
   refine bz (fun i:Nat=>St.of [(5,o1 (.sl 14 0 N)),(6,o1 (.sl 2300 0 (A.length + k))),(7,vv (I6 j)),(8,o1 (.sl 26 0 ds.length)),(9,vv (I6 k)),(10,vv (I6 i))] [(14,lO ps),(2300,bG (cJ (A ++ ds.take k))),(26,bG ds)]) (fun i=>i≤A.length + k∧∀x,x < i→aC (cJ (A ++ ds.take k)) x≤aC ds k) (fun i=>A.length + k - i) 0 ⟨Nat.zero_le _,fun x hx=>absurd hx ae⟩ (Wk.of ⟨rfl,rfl,rfl,rfl,rfl,rfl,ag⟩ ⟨rfl,rfl,rfl,ag⟩ trivial) ?_
   rintro at_ ⟨hat,hall⟩
   have hstop:(at_=A.length + k∨aC ds k < aC (cJ (A ++ ds.take k)) at_)→(cJ (A ++ ds.take k)).take at_ ++ ([aC ds k] ++ (cJ (A ++ ds.take k)).drop at_)=cJ (A ++ ds.take (k + 1)):=fun h=>by
    rw [G2 (by rw [hln];exact hat) hall (by rw [hln];exact h),List.append_assoc,List.take_add_one,List.getElem?_eq_getElem hkm,cX hkm];rfl
   by_cases hatl:at_ < A.length + k
   ·have hb1:eB .i64 .lss (at_:Int) ((A.length + k:Nat):Int)=some (.bool true):=by simp [eB];omega
    have hg1:(aL (cJ (A ++ ds.take k)))[at_]? =some (I6 (aC (cJ (A ++ ds.take k)) at_)):=bl ae
    by_cases hle:aC (cJ (A ++ ds.take k)) at_≤aC ds k
    ·have hb2:eB .i64 .leq (aC (cJ (A ++ ds.take k)) at_) (aC ds k)=some (.bool true):=by simp [eB];exact hle
     (refine ak ?_;refine ak ?_)
     apply jB 15 [] [[], [], [1], [0,1,2], [0,1,2,3], [0,1,2,3,4], [0,1,2,3,4], [0,1,2,3,4,5,6], [0,1,2,3,4,5,6,7], [0,1,2,3,4], [0,1,2,3,4], [0,1,2,3,4,9,10], [0,1,2,3,4,9,10,11], [0,1,2,3,4,5,6,7,8,9,10,11,12], [0,1,2,3,4,5,6,7,8,9,10,11,12,13]] [33,34,35,36,37,38,39,40,41,42,43,44,45,46,47] [] (by kernel_rfl) (by kernel_rfl)
     ·(apply bT rfl;(intro S1 hS;exact aj rfl (hS.op rfl)))
      (apply bT rfl;(intro S1 hS;exact aj rfl (hS.op rfl)))
      (apply bT rfl;(intro S1 hS;exact bw rfl (hS.op rfl) rfl ab))
      (apply bT rfl;(intro S1 hS;exact aG rfl (hS.op rfl) (hS.op rfl) hb1))
      (apply bT rfl;(intro S1 hS;exact aj rfl (hS.op rfl)))
      (apply cO rfl rfl rfl;(intro S1 hS;exact aj rfl (hS.op rfl)))
      (apply cO rfl rfl rfl;(intro S1 hS;exact aj rfl (hS.op rfl)))
      (apply cO rfl rfl rfl;(intro S1 hS;exact aR (j:=at_) rfl (hS.op rfl) (hS.op rfl) (hS.ch _ _ rfl) rfl ab rfl hatl hol))
      (apply cO rfl rfl rfl;(intro S1 hS;exact bf rfl ab (hS.op rfl) (hS.ch _ _ rfl) rfl hg1))
      (apply cO rfl rfl rfl;(intro S1 hS;exact aj rfl (hS.op rfl)))
      (apply cO rfl rfl rfl;(intro S1 hS;exact aj rfl (hS.op rfl)))
      (apply cO rfl rfl rfl;(intro S1 hS;exact aR (j:=k) rfl (hS.op rfl) (hS.op rfl) (hS.ch _ _ rfl) rfl ab rfl hkm hdl))
      (apply cO rfl rfl rfl;(intro S1 hS;exact bf rfl ab (hS.op rfl) (hS.ch _ _ rfl) rfl hg2))
      (apply cO rfl rfl rfl;(intro S1 hS;exact aG rfl (hS.op rfl) (hS.op rfl) hb2))
      (apply bT rfl;(intro S1 hS;exact bp rfl (hS.op rfl) (hS.op rfl)))
      exact gK.nil
     ·rfl
     ((refine bh ab ?_;skip))
     (refine an ?_)
     refine ax rfl (fun _=> ?_) (fun e=>by cases e)
     (refine aE (an (aB (ah (aa rfl (aj rfl rfl) ?_))));apply aa rfl;exact aP rfl rfl rfl bA;refine aa rfl (ai rfl rfl) (ar (aM ?_)))
     exact aW (at_ + 1) ⟨hatl,fun x hx=>by
      rcases Nat.lt_succ_iff_lt_or_eq.1 hx with h | rfl
      ·exact hall x h
      ·exact hle⟩ ae (Wk.of ⟨rfl,rfl,rfl,rfl,rfl,rfl,ag⟩ ⟨rfl,rfl,rfl,ag⟩ trivial)
    ·have hb2:eB .i64 .leq (aC (cJ (A ++ ds.take k)) at_) (aC ds k)=some (.bool false):=by simp [eB];omega
     have hins:=hstop (.inr ae)
     (refine ak ?_;refine ak ?_)
     apply jB 15 [] [[], [], [1], [0,1,2], [0,1,2,3], [0,1,2,3,4], [0,1,2,3,4], [0,1,2,3,4,5,6], [0,1,2,3,4,5,6,7], [0,1,2,3,4], [0,1,2,3,4], [0,1,2,3,4,9,10], [0,1,2,3,4,9,10,11], [0,1,2,3,4,5,6,7,8,9,10,11,12], [0,1,2,3,4,5,6,7,8,9,10,11,12,13]] [33,34,35,36,37,38,39,40,41,42,43,44,45,46,47] [] (by kernel_rfl) (by kernel_rfl)
     ·(apply bT rfl;(intro S1 hS;exact aj rfl (hS.op rfl)))
      (apply bT rfl;(intro S1 hS;exact aj rfl (hS.op rfl)))
      (apply bT rfl;(intro S1 hS;exact bw rfl (hS.op rfl) rfl ab))
      (apply bT rfl;(intro S1 hS;exact aG rfl (hS.op rfl) (hS.op rfl) hb1))
      (apply bT rfl;(intro S1 hS;exact aj rfl (hS.op rfl)))
      (apply cO rfl rfl rfl;(intro S1 hS;exact aj rfl (hS.op rfl)))
      (apply cO rfl rfl rfl;(intro S1 hS;exact aj rfl (hS.op rfl)))
      (apply cO rfl rfl rfl;(intro S1 hS;exact aR (j:=at_) rfl (hS.op rfl) (hS.op rfl) (hS.ch _ _ rfl) rfl ab rfl hatl hol))
      (apply cO rfl rfl rfl;(intro S1 hS;exact bf rfl ab (hS.op rfl) (hS.ch _ _ rfl) rfl hg1))
      (apply cO rfl rfl rfl;(intro S1 hS;exact aj rfl (hS.op rfl)))
      (apply cO rfl rfl rfl;(intro S1 hS;exact aj rfl (hS.op rfl)))
      (apply cO rfl rfl rfl;(intro S1 hS;exact aR (j:=k) rfl (hS.op rfl) (hS.op rfl) (hS.ch _ _ rfl) rfl ab rfl hkm hdl))
      (apply cO rfl rfl rfl;(intro S1 hS;exact bf rfl ab (hS.op rfl) (hS.ch _ _ rfl) rfl hg2))
      (apply cO rfl rfl rfl;(intro S1 hS;exact aG rfl (hS.op rfl) (hS.op rfl) hb2))
      (apply bT rfl;(intro S1 hS;exact bp rfl (hS.op rfl) (hS.op rfl)))
      exact gK.nil
     ·rfl
     ((refine bh ab ?_;skip))
     (refine an ?_)
     refine ax rfl (fun e=>by cases e) (fun _=> ?_)
     obtain ⟨m,hm⟩:∃m,at_ + m=A.length + k:=⟨A.length + k - at_,ae⟩
     have hm0:0 < m:=by omega
     have hdm:at_ + m=(cJ (A ++ ds.take k)).length:=by rw [hln];exact hm
     have hat2:at_≤(cJ (A ++ ds.take k)).length:=by omega
     refine qY (S':=St.of [(5,o1 (.sl 14 0 N)),(6,o1 (.sl 2300 0 (A.length + k))),(7,vv (I6 j)),(8,o1 (.sl 26 0 ds.length)),(9,vv (I6 k)),(10,vv (I6 at_))] [(14,lO ps),(2300,bG (cJ (A ++ ds.take k))),(26,bG ds)]) (Wk.of ⟨rfl,rfl,rfl,rfl,rfl,rfl,ag⟩ ⟨rfl,rfl,rfl,ag⟩ trivial) ?_
     (refine a7 ?_;refine aA ?_;refine aA ?_;refine aT ?_;refine an ?_;refine ak ?_)
     apply eE 8 [] [[], [], [0,1], [0,1,2], [0,1,2,3], [], [], [5,6], [0,1,2,3,4,5,6,7], [0,1,2,3,4,5,6,7,8]] [50,51,52,53,54,55,56,57] [54] (by kernel_rfl) (by kernel_rfl)
     ·(apply aK rfl;(focus (intro S1 hS;exact aj rfl (hS.op rfl))))
      (apply aK rfl;(focus (intro S1 hS;exact aj rfl (hS.op rfl))))
      (apply aK rfl;(focus (intro S1 hS;exact aR (j:=k) rfl (hS.op rfl) (hS.op rfl) (hS.ch _ _ rfl) rfl ab rfl hkm hdl)))
      (apply aK rfl;(focus (intro S1 hS;exact bf rfl ab (hS.op rfl) (hS.ch _ _ rfl) rfl hg2)))
      (apply gU rfl;(focus (intro S1 hS;exact bW (E:=2) rfl ab (hS.op rfl))))
      (apply aK rfl;(focus (intro S1 hS;exact aj rfl (hS.op rfl))))
      (apply aK rfl;(focus (intro S1 hS;exact aj rfl (hS.op rfl))))
      (apply aK rfl;(focus (intro S1 hS;exact dF (l:=at_) (m:=m) hm rfl (hS.op rfl) (hS.ch _ _ rfl) rfl ab (eN (hS.op rfl) rfl) dN (Nat.le_refl _) hol)))
      exact ft.nil
     ·rfl
     refine dI (St.of [(5,o1 (.sl 14 0 N)),(6,o1 (.sl 2300 0 (A.length + k))),(7,vv (I6 j)),(8,o1 (.sl 26 0 ds.length)),(9,vv (I6 k)),(10,vv (I6 at_)),(11,o1 (.sl 54 0 (1 + m)))] [(14,lO ps),(2300,bG (cJ (A ++ ds.take k))),(26,bG ds),(54,bG ([aC ds k] ++ (cJ (A ++ ds.take k)).drop at_))]) ?_ ?_
     ·((apply aF 8 rfl ab rfl rfl;(exact cR (E:=2) (zs:= [aC ds k]) (m:=m) rfl ab rfl rfl rfl rfl rfl (yE rfl rfl rfl hdm) hm0 ae));(apply aF 9 rfl ab rfl rfl;exact ai rfl rfl);(refine bh ab ?_;exact aV (Wk.of ⟨rfl,rfl,rfl,rfl,rfl,rfl,rfl,ag⟩ ⟨rfl,rfl,rfl,rfl,ag⟩ trivial)))
     have hrl:(aL ([aC ds k] ++ (cJ (A ++ ds.take k)).drop at_)).length=1 + m:=by rw [bc,List.length_append,List.length_drop];simp;omega
     rcases Nat.eq_zero_or_pos at_ with h0 | h0
     ·have hs0:∀ {S:St} {o:Operand},S.op o=some (vv (I6 at_))→CR S (some o) (A.length + k) 0:=fun h=>eN h ae
      rw [h0] at hins
      (refine an (ah ?_);apply aa rfl;(exact ey (E:=2) (k:=1) rfl ab);refine aa rfl (aj rfl rfl) (aa rfl (aj rfl rfl) ?_);apply aa rfl;(first | exact dF (l:=0) (h:=0) (m:=0) rfl rfl rfl rfl rfl ab dN (hs0 rfl) (Nat.zero_le _) hol | exact jO (zs:= []) rfl ab rfl rfl rfl rfl rfl | exact cR (E:=2) (zs:= []) (m:=1 + m) rfl ab rfl rfl rfl rfl rfl (c5 rfl rfl rfl hrl) ae ae);apply aa rfl;(first | exact dF (l:=0) (h:=0) (m:=0) rfl rfl rfl rfl rfl ab dN (hs0 rfl) (Nat.zero_le _) hol | exact jO (zs:= []) rfl ab rfl rfl rfl rfl rfl | exact cR (E:=2) (zs:= []) (m:=1 + m) rfl ab rfl rfl rfl rfl rfl (c5 rfl rfl rfl hrl) ae ae);apply aa rfl;exact aj rfl rfl;apply aa rfl;(first | exact dF (l:=0) (h:=0) (m:=0) rfl rfl rfl rfl rfl ab dN (hs0 rfl) (Nat.zero_le _) hol | exact jO (zs:= []) rfl ab rfl rfl rfl rfl rfl | exact cR (E:=2) (zs:= []) (m:=1 + m) rfl ab rfl rfl rfl rfl rfl (c5 rfl rfl rfl hrl) ae ae);refine aa rfl (ai rfl rfl) (ar (aM (an (ah (aa rfl (aj rfl rfl) ?_)))));apply aa rfl;exact aP rfl rfl rfl bA;refine aa rfl (ai rfl rfl) (ar ?_))
      exact aW (k + 1) ae ae (Wk.trans (nr (x:=59) (y:=2300) (s:=6) rfl rfl) (Wk.of ⟨rfl,congrArg (fun z:Nat=>some (o1 (.sl 2300 0 z))) (show 0 + (1 + m)=A.length + (k + 1) by omega),rfl,rfl,rfl,ag⟩ ⟨rfl,congrArg (fun z=>some (bG z)) (show [] ++ ([aC ds k] ++ (cJ (A ++ ds.take k)).drop at_)=_ by rw [List.nil_append,←hins,List.take_zero,List.nil_append,h0]),rfl,ag⟩ trivial))
     ·have hz:(0:Nat) + at_=at_:=Nat.zero_add _
      have htl:([] ++ (cJ (A ++ ds.take k)).take at_).length=0 + at_:=by rw [List.nil_append,List.length_take];omega
      (refine an (ah ?_);apply aa rfl;(exact ey (E:=2) (k:=1) rfl ab);refine aa rfl (aj rfl rfl) (aa rfl (aj rfl rfl) ?_);apply aa rfl;(first | exact dF (l:=0) (h:=at_) (m:=at_) hz rfl rfl rfl rfl ab dN (eN rfl rfl) ae hol | exact cR (E:=2) (zs:= []) (m:=at_) rfl ab rfl rfl rfl rfl rfl (gH rfl rfl rfl hat2) h0 ae | exact cR (E:=2) (zs:= [] ++ (cJ (A ++ ds.take k)).take at_) (m:=1 + m) rfl ab rfl rfl rfl htl rfl (c5 rfl rfl rfl hrl) ae ae);apply aa rfl;(first | exact dF (l:=0) (h:=at_) (m:=at_) hz rfl rfl rfl rfl ab dN (eN rfl rfl) ae hol | exact cR (E:=2) (zs:= []) (m:=at_) rfl ab rfl rfl rfl rfl rfl (gH rfl rfl rfl hat2) h0 ae | exact cR (E:=2) (zs:= [] ++ (cJ (A ++ ds.take k)).take at_) (m:=1 + m) rfl ab rfl rfl rfl htl rfl (c5 rfl rfl rfl hrl) ae ae);apply aa rfl;exact aj rfl rfl;apply aa rfl;(first | exact dF (l:=0) (h:=at_) (m:=at_) hz rfl rfl rfl rfl ab dN (eN rfl rfl) ae hol | exact cR (E:=2) (zs:= []) (m:=at_) rfl ab rfl rfl rfl rfl rfl (gH rfl rfl rfl hat2) h0 ae | exact cR (E:=2) (zs:= [] ++ (cJ (A ++ ds.take k)).take at_) (m:=1 + m) rfl ab rfl rfl rfl htl rfl (c5 rfl rfl rfl hrl) ae ae);refine aa rfl (ai rfl rfl) (ar (aM (an (ah (aa rfl (aj rfl rfl) ?_)))));apply aa rfl;exact aP rfl rfl rfl bA;refine aa rfl (ai rfl rfl) (ar ?_))
      exact aW (k + 1) ae ae (Wk.trans (nr (x:=59) (y:=2300) (s:=6) rfl rfl) (Wk.of ⟨rfl,congrArg (fun z:Nat=>some (o1 (.sl 2300 0 z))) (show 0 + at_ + (1 + m)=A.length + (k + 1) by omega),rfl,rfl,rfl,ag⟩ ⟨rfl,congrArg (fun z=>some (bG z)) (show [] ++ (cJ (A ++ ds.take k)).take at_ ++ ([aC ds k] ++ (cJ (A ++ ds.take k)).drop at_)=_ by rw [List.nil_append];exact hins),rfl,ag⟩ trivial))
   ·obtain rfl:at_=A.length + k:=by omega
    have hb1:eB .i64 .lss ((A.length + k:Nat):Int) ((A.length + k:Nat):Int)=some (.bool false):=by simp [eB]
    have hins:=hstop (.inl rfl)
    (refine ak ?_;refine ak ?_)
    apply jB 15 [] [[], [], [1], [0,1,2], [0,1,2,3], [0,1,2,3,4], [0,1,2,3,4], [0,1,2,3,4,5,6], [0,1,2,3,4,5,6,7], [0,1,2,3,4], [0,1,2,3,4], [0,1,2,3,4,9,10], [0,1,2,3,4,9,10,11], [0,1,2,3,4,5,6,7,8,9,10,11,12], [0,1,2,3,4,5,6,7,8,9,10,11,12,13]] [33,34,35,36,37,38,39,40,41,42,43,44,45,46,47] [] (by kernel_rfl) (by kernel_rfl)
    ·(apply bT rfl;(intro S1 hS;exact aj rfl (hS.op rfl)))
     (apply bT rfl;(intro S1 hS;exact aj rfl (hS.op rfl)))
     (apply bT rfl;(intro S1 hS;exact bw rfl (hS.op rfl) rfl ab))
     (apply bT rfl;(intro S1 hS;exact aG rfl (hS.op rfl) (hS.op rfl) hb1))
     (apply bT rfl;(intro S1 hS;exact aj rfl (hS.op rfl)))
     apply eX rfl rfl rfl rfl rfl
     apply eX rfl rfl rfl rfl rfl
     apply eX rfl rfl rfl rfl rfl
     apply eX rfl rfl rfl rfl rfl
     apply eX rfl rfl rfl rfl rfl
     apply eX rfl rfl rfl rfl rfl
     apply eX rfl rfl rfl rfl rfl
     apply eX rfl rfl rfl rfl rfl
     apply eX rfl rfl rfl rfl rfl
     (apply bT rfl;(intro S1 hS;exact bD rfl (hS.op rfl) (hS.op rfl)))
     exact gK.nil
    ·rfl
    ((refine bh ab ?_;skip))
    (refine an ?_)
    refine ax rfl (fun e=>by cases e) (fun _=> ?_)
    have hm:(A.length + k) + 0=A.length + k:=rfl
    have hdm:(A.length + k) + 0=(cJ (A ++ ds.take k)).length:=by rw [hln];exact hm
    have hat2:(A.length + k)≤(cJ (A ++ ds.take k)).length:=by omega
    refine qY (S':=St.of [(5,o1 (.sl 14 0 N)),(6,o1 (.sl 2300 0 (A.length + k))),(7,vv (I6 j)),(8,o1 (.sl 26 0 ds.length)),(9,vv (I6 k)),(10,vv (I6 (A.length + k)))] [(14,lO ps),(2300,bG (cJ (A ++ ds.take k))),(26,bG ds)]) (Wk.of ⟨rfl,rfl,rfl,rfl,rfl,rfl,ag⟩ ⟨rfl,rfl,rfl,ag⟩ trivial) ?_
    (refine a7 ?_;refine aA ?_;refine aA ?_;refine aT ?_;refine an ?_;refine ak ?_)
    apply eE 8 [] [[], [], [0,1], [0,1,2], [0,1,2,3], [], [], [5,6], [0,1,2,3,4,5,6,7], [0,1,2,3,4,5,6,7,8]] [50,51,52,53,54,55,56,57] [54] (by kernel_rfl) (by kernel_rfl)
    ·(apply aK rfl;(focus (intro S1 hS;exact aj rfl (hS.op rfl))))
     (apply aK rfl;(focus (intro S1 hS;exact aj rfl (hS.op rfl))))
     (apply aK rfl;(focus (intro S1 hS;exact aR (j:=k) rfl (hS.op rfl) (hS.op rfl) (hS.ch _ _ rfl) rfl ab rfl hkm hdl)))
     (apply aK rfl;(focus (intro S1 hS;exact bf rfl ab (hS.op rfl) (hS.ch _ _ rfl) rfl hg2)))
     (apply gU rfl;(focus (intro S1 hS;exact bW (E:=2) rfl ab (hS.op rfl))))
     (apply aK rfl;(focus (intro S1 hS;exact aj rfl (hS.op rfl))))
     (apply aK rfl;(focus (intro S1 hS;exact aj rfl (hS.op rfl))))
     (apply aK rfl;(focus (intro S1 hS;exact dF (l:=(A.length + k)) (m:=0) hm rfl (hS.op rfl) (hS.ch _ _ rfl) rfl ab (eN (hS.op rfl) rfl) dN (Nat.le_refl _) hol)))
     exact ft.nil
    ·rfl
    refine dI (St.of [(5,o1 (.sl 14 0 N)),(6,o1 (.sl 2300 0 (A.length + k))),(7,vv (I6 j)),(8,o1 (.sl 26 0 ds.length)),(9,vv (I6 k)),(10,vv (I6 (A.length + k))),(11,o1 (.sl 54 0 (1 + 0)))] [(14,lO ps),(2300,bG (cJ (A ++ ds.take k))),(26,bG ds),(54,bG ([aC ds k] ++ (cJ (A ++ ds.take k)).drop (A.length + k)))]) ?_ ?_
    ·((apply aF 8 rfl ab rfl rfl;(exact jO (zs:= [aC ds k]) rfl ab rfl rfl rfl rfl rfl));(apply aF 9 rfl ab rfl rfl;exact ai rfl rfl);(refine bh ab ?_;exact aV (Wk.of ⟨rfl,rfl,rfl,rfl,rfl,rfl,rfl,ag⟩ ⟨rfl,rfl,rfl,congrArg (fun z=>some (bG ([aC ds k] ++ z))) (List.drop_of_length_le (Nat.le_of_eq hln)).symm,ag⟩ trivial)))
    have hrl:(aL ([aC ds k] ++ (cJ (A ++ ds.take k)).drop (A.length + k))).length=1 + 0:=by rw [bc,List.length_append,List.length_drop];simp;omega
    rcases Nat.eq_zero_or_pos (A.length + k) with h0 | h0
    ·have hs0:∀ {S:St} {o:Operand},S.op o=some (vv (I6 (A.length + k)))→CR S (some o) (A.length + k) 0:=fun h=>eN h ae
     rw [h0] at hins
     (refine an (ah ?_);apply aa rfl;(exact ey (E:=2) (k:=1) rfl ab);refine aa rfl (aj rfl rfl) (aa rfl (aj rfl rfl) ?_);apply aa rfl;(first | exact dF (l:=0) (h:=0) (m:=0) rfl rfl rfl rfl rfl ab dN (hs0 rfl) (Nat.zero_le _) hol | exact jO (zs:= []) rfl ab rfl rfl rfl rfl rfl | exact cR (E:=2) (zs:= []) (m:=1 + 0) rfl ab rfl rfl rfl rfl rfl (c5 rfl rfl rfl hrl) ae ae);apply aa rfl;(first | exact dF (l:=0) (h:=0) (m:=0) rfl rfl rfl rfl rfl ab dN (hs0 rfl) (Nat.zero_le _) hol | exact jO (zs:= []) rfl ab rfl rfl rfl rfl rfl | exact cR (E:=2) (zs:= []) (m:=1 + 0) rfl ab rfl rfl rfl rfl rfl (c5 rfl rfl rfl hrl) ae ae);apply aa rfl;exact aj rfl rfl;apply aa rfl;(first | exact dF (l:=0) (h:=0) (m:=0) rfl rfl rfl rfl rfl ab dN (hs0 rfl) (Nat.zero_le _) hol | exact jO (zs:= []) rfl ab rfl rfl rfl rfl rfl | exact cR (E:=2) (zs:= []) (m:=1 + 0) rfl ab rfl rfl rfl rfl rfl (c5 rfl rfl rfl hrl) ae ae);refine aa rfl (ai rfl rfl) (ar (aM (an (ah (aa rfl (aj rfl rfl) ?_)))));apply aa rfl;exact aP rfl rfl rfl bA;refine aa rfl (ai rfl rfl) (ar ?_))
     exact aW (k + 1) ae ae (Wk.trans (nr (x:=59) (y:=2300) (s:=6) rfl rfl) (Wk.of ⟨rfl,congrArg (fun z:Nat=>some (o1 (.sl 2300 0 z))) (show 0 + (1 + 0)=A.length + (k + 1) by omega),rfl,rfl,rfl,ag⟩ ⟨rfl,congrArg (fun z=>some (bG z)) (show [] ++ ([aC ds k] ++ (cJ (A ++ ds.take k)).drop (A.length + k))=_ by rw [List.nil_append,←hins,List.take_zero,List.nil_append,h0]),rfl,ag⟩ trivial))
    ·have hz:(0:Nat) + (A.length + k)=(A.length + k):=Nat.zero_add _
     have htl:([] ++ (cJ (A ++ ds.take k)).take (A.length + k)).length=0 + (A.length + k):=by rw [List.nil_append,List.length_take];omega
     (refine an (ah ?_);apply aa rfl;(exact ey (E:=2) (k:=1) rfl ab);refine aa rfl (aj rfl rfl) (aa rfl (aj rfl rfl) ?_);apply aa rfl;(first | exact dF (l:=0) (h:=(A.length + k)) (m:=(A.length + k)) hz rfl rfl rfl rfl ab dN (eN rfl rfl) ae hol | exact cR (E:=2) (zs:= []) (m:=(A.length + k)) rfl ab rfl rfl rfl rfl rfl (gH rfl rfl rfl hat2) h0 ae | exact cR (E:=2) (zs:= [] ++ (cJ (A ++ ds.take k)).take (A.length + k)) (m:=1 + 0) rfl ab rfl rfl rfl htl rfl (c5 rfl rfl rfl hrl) ae ae);apply aa rfl;(first | exact dF (l:=0) (h:=(A.length + k)) (m:=(A.length + k)) hz rfl rfl rfl rfl ab dN (eN rfl rfl) ae hol | exact cR (E:=2) (zs:= []) (m:=(A.length + k)) rfl ab rfl rfl rfl rfl rfl (gH rfl rfl rfl hat2) h0 ae | exact cR (E:=2) (zs:= [] ++ (cJ (A ++ ds.take k)).take (A.length + k)) (m:=1 + 0) rfl ab rfl rfl rfl htl rfl (c5 rfl rfl rfl hrl) ae ae);apply aa rfl;exact aj rfl rfl;apply aa rfl;(first | exact dF (l:=0) (h:=(A.length + k)) (m:=(A.length + k)) hz rfl rfl rfl rfl ab dN (eN rfl rfl) ae hol | exact cR (E:=2) (zs:= []) (m:=(A.length + k)) rfl ab rfl rfl rfl rfl rfl (gH rfl rfl rfl hat2) h0 ae | exact cR (E:=2) (zs:= [] ++ (cJ (A ++ ds.take k)).take (A.length + k)) (m:=1 + 0) rfl ab rfl rfl rfl htl rfl (c5 rfl rfl rfl hrl) ae ae);refine aa rfl (ai rfl rfl) (ar (aM (an (ah (aa rfl (aj rfl rfl) ?_)))));apply aa rfl;exact aP rfl rfl rfl bA;refine aa rfl (ai rfl rfl) (ar ?_))
     exact aW (k + 1) ae ae (Wk.trans (nr (x:=59) (y:=2300) (s:=6) rfl rfl) (Wk.of ⟨rfl,congrArg (fun z:Nat=>some (o1 (.sl 2300 0 z))) (show 0 + (A.length + k) + (1 + 0)=A.length + (k + 1) by omega),rfl,rfl,rfl,ag⟩ ⟨rfl,congrArg (fun z=>some (bG z)) (show [] ++ (cJ (A ++ ds.take k)).take (A.length + k) ++ ([aC ds k] ++ (cJ (A ++ ds.take k)).drop (A.length + k))=_ by rw [List.nil_append];exact hins),rfl,ag⟩ trivial))
  ·obtain rfl:k=ds.length:=by omega
   (refine a7 (aA (aA (aT (aM (an (ah (aa rfl (aj rfl rfl) ?_)))))));apply aa rfl;exact aP rfl rfl rfl bA;refine aa rfl (ai rfl rfl) (ar ?_))
   exact aW (j + 1) ae ae (Wk.of ⟨rfl,congrArg (fun z:Nat=>some (o1 (.sl 2300 0 z))) (by rw [hcat,List.length_append]),rfl,ag⟩ ⟨rfl,congrArg (fun z=>some (bG (cJ z))) (by rw [hcat,List.take_length]),ag⟩ trivial)
 ·obtain rfl:j=N:=by omega
  (refine a7 (aA (aA (aT (an (ak (ah (aa rfl (aj rfl rfl) (aa rfl (ai rfl rfl) (ar (an (aS ?_))))))))))))
  exact bu (.inl rfl) rfl (.tmp rfl) ⟨rfl,ag⟩ trivial
end Go.Proofs.YtekbhbcgoadciaaGreat
namespace Go.Proofs.YtekbhbcgoadciaaGreat
open Go.RowKit
def fW (A:List Int) (k:Nat):Int:=(A.take k).foldl (· * ·) 1
theorem lV {A:List Int} {k:Nat} (h:k < A.length):fW A (k + 1)=fW A k * aC A k:=by
 unfold fW
 rw [List.take_add_one,List.getElem?_eq_getElem h,List.foldl_append,cX h];rfl
theorem mU {A:List Int} (hA:∀z∈A,2≤z∧z≤32):∀k,k≤A.length→1≤fW A k∧fW A k≤((32 ^ k:Nat):Int)
 | 0,_=>by simp [fW]
 | k + 1,h=>by
  have ih:=mU hA k ae
  have hz:=hA _ (eH (zs:=A) (k:=k) ae)
  rw [lV ae,Nat.pow_succ,Int.natCast_mul]
  refine ⟨?_,Int.mul_le_mul ih.2 ae ae (Int.natCast_nonneg _)⟩
  have:=Int.mul_le_mul ih.1 (show (1:Int)≤aC A k by omega) ae ae
  omega
theorem BR {A:List Int} (hA:∀z∈A,2≤z∧z≤32) (h5:A.length≤5) {k:Nat} (h:k≤A.length):1≤fW A k∧fW A k≤33554432:=by
 have h1:=mU hA k h
 have h2:32 ^ k≤32 ^ 5:=Nat.pow_le_pow_right (by decide) ae
 have h3:(32:Nat) ^ 5=33554432:=by decide
 omega
theorem Be {ps:eO} (hL:∀k,k < ps.length→nz (dz ps k).2):∀j,j≤ps.length→∀z∈fO ps j,2≤z∧z≤32
 | 0,_=>by intro z hz;simp [fO] at hz
 | j + 1,h=>by
  intro z hz
  rw [kL ae] at hz
  rcases List.mem_append.1 hz with hz | hz
  ·exact Be hL j ae z hz
  ·exact qU (hL j ae) z hz
theorem oB {zs:List Int} {mask:Nat} (hd:cw zs=true):∀z∈eV zs mask,2≤z∧z≤32:=fun z hz=>
 Be (fun k hk=>ln hd hk) _ (Nat.le_refl _) z ((List.mergeSort_perm _ _).mem_iff.1 hz)
theorem mm (zs:List Int) (mask:Nat):(eV zs mask).length=(fO (comps zs mask) (comps zs mask).length).length:=pr _
theorem mR {zs:List Int} {mask:Nat} (hd:cw zs=true):(eV zs mask).length≤5:=by
 have h4:=c7 hd
 have h1:=lU (fun k hk=>ln hd (mask:=mask) hk) _ (Nat.le_refl _)
 have h2:=mX (comps zs mask) (comps zs mask).length
 have h3:=(jE zs mask).sum
 rw [mm];omega
def sy (zs:List Int) (mask:Nat):Int:=fW (eV zs mask) (eV zs mask).length
def DE (zs:List Int) (m:Int):Int:=if gR zs m=0 then sy zs m.toNat else 0
theorem CM (zs:List Int) (L mask:Nat) (hL:zs.length=L) (hd:cw zs=true) (hmk:mask < 1000) (hf:gO zs mask=true):
  FC Tryz.prog 56 [(1003,dk zs)] [o1 (.sl 1003 0 L),vv (I6 mask)] [] (.tup [.one (.val (I6 (sy zs mask))), .one (.val (.bool true))]) []:=by
 have hA:=(mN zs L mask hL hd hmk hf).nm [(1003,1003),(2200,15)] (by kernel_rfl)
 unfold D9 at hA
 rw [←mm] at hA
 have hA:FC Tryz.prog 65 [(1003,dk zs)] [o1 (.sl 1003 0 L),vv (I6 mask)] [(15,bG (eV zs mask))] (.tup [.one (.sl 15 0 (eV zs mask).length), .one (.val (I6 (wv zs mask:Nat))), .one (.val (.bool true))]) []:=hA
 have hin:=oB (mask:=mask) hd
 have hle:=mR (mask:=mask) hd
 unfold sy
 refine bj (nt:=31) Tryz.func56 rfl rfl (by simp) fun w0 ω0=> ?_
 generalize eV zs mask=B at *
 have hil:B.length≤(aL B).length:=by rw [bc];exact Nat.le_refl _
 (refine ak (ah (aa rfl (ai rfl rfl) (aa rfl (ai rfl rfl) (ar (an (ak (ah (aa rfl (aj rfl rfl) (aa rfl (aj rfl rfl) ?_)))))))));apply aa rfl;(apply au 65;exact bg hA ab rfl rfl ⟨rfl,rfl,ag⟩ ⟨⟨_,rfl, .inl rfl⟩,ag⟩ rfl rfl rfl);refine aa rfl (aj rfl rfl) (aa rfl (aN rfl rfl rfl) (aa rfl (aN rfl rfl rfl) (aa rfl (aN rfl rfl rfl) (aa rfl (ai rfl rfl) (aa rfl (ai rfl rfl) (aa rfl (ai rfl rfl) (ar (an (ak (ah (aa rfl (ai rfl rfl) ?_)))))))))));refine ar (an (ak (ak (ah (aa rfl (aj rfl rfl) (aa rfl (bw rfl rfl rfl ab) ?_))))));refine aa rfl (aj rfl rfl) (ar (an (aB ?_))))
 refine bz (fun k:Nat=>St.of [(8,vv (.bool true)),(9,vv (I6 (fW B k))),(19,o1 (.sl 15 0 B.length)),(20,vv (I6 B.length)),(21,vv (I6 k))] [(15,bG B)]) (fun k=>k≤B.length) (fun k=>B.length - k) 0 (Nat.zero_le _) (Wk.of ⟨rfl,rfl,rfl,rfl,rfl,ag⟩ ⟨rfl,ag⟩ trivial) ?_
 rintro k hk
 (refine ak (ah (aa rfl (aG rfl rfl rfl rfl) (ar (an (ak ?_))))))
 refine bK rfl (fun hlt=> ?_) (fun hlt=> ?_)
 ·have hkm:k < B.length:=by omega
  have hp:=BR hin hle (k:=k + 1) hkm
  have hg:(aL B)[k]? =some (I6 (aC B k)):=bl hkm
  have hw:IntKind.i64.wrap (fW B k * aC B k)=fW B (k + 1):=by rw [←lV hkm];exact IntWalk.i64_in _ ae
  (refine aE (an (ak (aB (ak (ah ?_)))));apply aa rfl;(first | exact aR (j:=k) rfl rfl rfl rfl rfl ab rfl hkm hil | exact dV rfl rfl rfl hw);apply aa rfl;exact bf rfl ab rfl rfl rfl aQ;refine aa rfl (ai rfl rfl) (ar (an (ah (aa rfl (aj rfl rfl) (aa rfl (aj rfl rfl) ?_)))));apply aa rfl;(first | exact aR (j:=k) rfl rfl rfl rfl rfl ab rfl hkm hil | exact dV rfl rfl rfl hw);refine aa rfl (ai rfl rfl) (ar (aM (an (ah ?_))));apply aa rfl;exact aP rfl rfl rfl bA;refine aa rfl (aj rfl rfl) (ar ?_))
  exact aW (k + 1) ae ae (Wk.of ⟨rfl,rfl,rfl,rfl,rfl,ag⟩ ⟨rfl,ag⟩ trivial)
 ·obtain rfl:k=B.length:=by omega
  (refine a7 (aA (aA (aT (an (ak (ah (aa rfl (aj rfl rfl) (aa rfl (aj rfl rfl) (aa rfl (ai rfl rfl) (aa rfl (ai rfl rfl) (ar ?_)))))))))));refine an (aS ?_))
  exact bN (.inl rfl) rfl (.tmp rfl) (.tmp rfl) trivial trivial
theorem Dw (zs:List Int) (L mask:Nat) (hL:zs.length=L) (hd:cw zs=true) (hmk:mask < 1000) (hf:gO zs mask=false):
  FC Tryz.prog 56 [(1003,dk zs)] [o1 (.sl 1003 0 L),vv (I6 mask)] [] (.tup [.one (.val (I6 1)), .one (.val (.bool false))]) []:=by
 have hA:=oU zs L mask hL hd hmk hf
 refine bj (nt:=31) Tryz.func56 rfl rfl (by simp) fun w0 ω0=> ?_
 (refine ak (ah (aa rfl (ai rfl rfl) (aa rfl (ai rfl rfl) (ar (an (ak (ah (aa rfl (aj rfl rfl) (aa rfl (aj rfl rfl) ?_)))))))));apply aa rfl;(apply au 65;exact aw hA ab rfl rfl ⟨rfl,rfl,ag⟩ ⟨⟨_,rfl, .inl rfl⟩,ag⟩ rfl rfl);refine aa rfl (aj rfl rfl) (aa rfl (aN rfl rfl rfl) (aa rfl (aN rfl rfl rfl) (aa rfl (aN rfl rfl rfl) (aa rfl (ai rfl rfl) (aa rfl (ai rfl rfl) (aa rfl (ai rfl rfl) (ar (an (ak (ah (aa rfl (ai rfl rfl) ?_)))))))))));refine ar (an (ak (ak (ah (aa rfl (aj rfl rfl) (aa rfl (bw rfl rfl rfl ab) ?_))))));refine aa rfl (aj rfl rfl) (ar (an (aB ?_))))
 refine bz (fun _:Nat=>St.of [(8,vv (.bool false)),(9,vv (I6 1)),(20,vv (I6 0)),(21,vv (I6 0))] []) (fun _=>True) (fun _=>0) 0 trivial (Wk.of ⟨rfl,rfl,rfl,rfl,ag⟩ trivial trivial) ?_
 rintro _ _
 (refine ak (ah (aa rfl (aG rfl rfl rfl rfl) (ar (an (ak ?_))))))
 refine ax rfl (fun e=>by simp at e) (fun _=> ?_)
 (refine a7 (aA (aA (aT (an (ak (ah (aa rfl (aj rfl rfl) (aa rfl (aj rfl rfl) (aa rfl (ai rfl rfl) (aa rfl (ai rfl rfl) (ar ?_)))))))))));refine an (aS ?_))
 exact bN (.inl rfl) rfl (.tmp rfl) (.tmp rfl) trivial trivial
theorem BW (zs:List Int) (L:Nat) (m:Int) (hL:zs.length=L) (h4:L≤4):
  FC Tryz.prog 55 [(1003,dk zs)] [o1 (.sl 1003 0 L),vv (I6 m)] [] (vv (.bool (kY m 0 (cB zs)))) []:=by
 have hA:=ly zs L hL h4
 have hW:=CB m 0 (cB zs)
 refine bj (nt:=9) Tryz.func55 rfl rfl (by simp) fun w0 ω0=> ?_
 (refine ak (ah (aa rfl (ai rfl rfl) (ar (an (ak (ah (aa rfl (aj rfl rfl) (aa rfl (aj rfl rfl) ?_))))))));apply aa rfl;(first | (apply au 57;exact aw hA ab rfl rfl ⟨rfl,ag⟩ ⟨⟨_,rfl, .inl rfl⟩,ag⟩ rfl rfl) | (apply au 61;exact aw hW ab rfl rfl ⟨rfl,rfl,rfl,ag⟩ trivial rfl rfl));apply aa rfl;(first | (apply au 57;exact aw hA ab rfl rfl ⟨rfl,ag⟩ ⟨⟨_,rfl, .inl rfl⟩,ag⟩ rfl rfl) | (apply au 61;exact aw hW ab rfl rfl ⟨rfl,rfl,rfl,ag⟩ trivial rfl rfl));refine aa rfl (ai rfl rfl) (ar (an (aS ?_))))
 exact bu (.inl rfl) rfl (.tmp rfl) trivial trivial
end Go.Proofs.YtekbhbcgoadciaaGreat
namespace Go.Proofs.YtekbhbcgoadciaaGreat
def D0 (zs:List Int) (mask:Nat):Int:=(fO (comps zs mask) (comps zs mask).length).foldl (· * ·) 1
theorem BC {a b:List Int} (h:a.Perm b):∀z:Int,a.foldl (· * ·) z=b.foldl (· * ·) z:=by
 induction h with
 | nil=>intro z;rfl
 | cons x _ ih=>intro z;exact ih _
 | swap x y l=>
  intro z
  show List.foldl _ (z * y * x) l=List.foldl _ (z * x * y) l
  rw [Int.mul_assoc,Int.mul_comm y x,←Int.mul_assoc]
 | trans _ _ ih1 ih2=>intro z;exact (ih1 z).trans (ih2 z)
theorem Af (zs:List Int) (mask:Nat):sy zs mask=D0 zs mask:=by
 unfold sy D0 fW eV
 rw [List.take_length]
 exact BC (List.mergeSort_perm _ _) 1
end Go.Proofs.YtekbhbcgoadciaaGreat
namespace Go.Proofs.YtekbhbcgoadciaaGreat
def fv:Lv:=⟨2,8,(.n (.l 1) (.l 1099511627776))⟩
def kR:Lv:=⟨3,8,(.n (.n (.l 259) (.l 3298534884097)) (.l 2199023255554))⟩
def ru:Lv:=⟨4,8,(.n (.n (.l 260) (.l 3298534884097)) (.n (.l 2199023255554) (.l 3298534883844)))⟩
def rX:Lv:=⟨5,8,(.n (.n (.n (.l 261) (.l 3298534884611)) (.l 3298534884097)) (.n (.l 2199023255554) (.l 3298534883844)))⟩
def sr:Lv:=⟨4,8,(.n (.n (.l 66820) (.l 6597070094595)) (.n (.l 4398046511620) (.l 7696581723138)))⟩
def EX:Lv:=⟨6,8,(.n (.n (.n (.l 67334) (.l 7696581722886)) (.l 6597070225667)) (.n (.n (.l 4398046511622) (.l 7696581658374)) (.l 7696581854210)))⟩
def Dy:Lv:=⟨8,8,(.n (.n (.n (.l 67848) (.l 6597069900037)) (.n (.l 6597070029059) (.l 7696581854473))) (.n (.n (.l 4398046511624) (.l 7696581592580)) (.n (.l 7696581724162) (.l 7696581789705))))⟩
def Ev:Lv:=⟨12,8,(.n (.n (.n (.n (.l 68876) (.l 7696582182665)) (.l 7696581788421)) (.n (.n (.l 6597070618883) (.l 7696582117645)) (.l 7696581659911))) (.n (.n (.n (.l 4398046511628) (.l 7696582183432)) (.l 7696581856260)) (.n (.n (.l 7696582247426) (.l 7696582052877)) (.l 7696581724166))))⟩
def GM:Lv:=⟨20,8,(.n (.n (.n (.n (.n (.l 70932) (.l 7696582251793)) (.l 7696582772998)) (.n (.l 6597069899269) (.l 7696582707726))) (.n (.n (.n (.l 6597070029059) (.l 7696582643989)) (.l 7696581856267)) (.n (.l 6597071143944) (.l 7696582709004)))) (.n (.n (.n (.n (.l 4398046511636) (.l 7696582382096)) (.l 7696582117383)) (.n (.l 7696581592836) (.l 7696582445839))) (.n (.n (.n (.l 7696581727234) (.l 7696582579221)) (.l 7696581987594)) (.n (.l 7696582051081) (.l 7696582512141)))))⟩
def ku:Lv:=⟨2,8,(.n (.l 258) (.l 2199023255554))⟩
def wQ:Lv:=⟨3,8,(.n (.n (.l 66563) (.l 6597070029059)) (.l 4398046511619))⟩
def rB:Lv:=⟨2,8,(.n (.l 66306) (.l 4398046511874))⟩
def xl:Lv:=⟨6,8,(.n (.n (.n (.l 262) (.l 3298534884611)) (.l 3298534884097)) (.n (.n (.l 2199023255554) (.l 3298534884358)) (.l 3298534883844)))⟩
def sE:Lv:=⟨2,8,(.n (.l 66306) (.l 4398046511874))⟩
def Ay:Lv:=⟨5,8,(.n (.n (.n (.l 17237509) (.l 16492792251651)) (.l 13194257040133)) (.n (.l 8796093154821) (.l 15393280623108)))⟩
def r9:Lv:=⟨2,8,(.n (.l 66306) (.l 4398046511874))⟩
def JG:Lv:=⟨7,8,(.n (.n (.n (.l 263) (.l 3298534884611)) (.n (.l 3298534884097) (.l 3298534885125))) (.n (.n (.l 2199023255554) (.l 3298534884358)) (.l 3298534883844)))⟩
def Hg:Lv:=⟨3,8,(.n (.n (.l 17105923) (.l 13194223485955)) (.l 8796093154307))⟩
def tv:Lv:=⟨2,8,(.n (.l 66306) (.l 4398046511874))⟩
def IQ:Lv:=⟨3,8,(.n (.n (.l 17105923) (.l 13194223485955)) (.l 8796093154307))⟩
def G3:Lv:=⟨16,8,(.n (.n (.n (.n (.l 17961232) (.l 15393330958857)) (.n (.l 13194174268944) (.l 16492826529034))) (.n (.n (.l 13194206708496) (.l 15393298125324)) (.n (.l 15393213645831) (.l 16492926931218)))) (.n (.n (.n (.l 8796093157648) (.l 16492876204808)) (.n (.l 16492792975363) (.l 16492859886610))) (.n (.n (.l 15393264566789) (.l 16492893571346)) (.n (.l 16492758896646) (.l 16492910350610)))))⟩
def Hl:Lv:=⟨8,8,(.n (.n (.n (.l 17434888) (.l 16492842779907)) (.n (.l 13194307371784) (.l 16492792187144))) (.n (.n (.l 8796093155592) (.l 16492842583048)) (.n (.l 15393331151364) (.l 16492775737608))))⟩
def It:Lv:=⟨4,8,(.n (.n (.l 17171716) (.l 13194240262916)) (.n (.l 8796093154564) (.l 15393263780356)))⟩
def Hs:Lv:=⟨2,8,(.n (.l 17040130) (.l 8796093285122))⟩
def EU:Lv:=⟨2,8,(.n (.l 17040130) (.l 8796093285122))⟩
def FQ:Lv:=⟨2,8,(.n (.l 4379116290) (.l 17592270193410))⟩
def DY:Lv:=⟨2,8,(.n (.l 17040130) (.l 8796093285122))⟩
def Hu:Lv:=⟨24,8,(.n (.n (.n (.n (.n (.l 18487576) (.l 16492927323666)) (.l 16492859622937)) (.n (.n (.l 16493111023619) (.l 16493111809299)) (.l 16492843112473))) (.n (.n (.n (.l 13194575807256) (.l 16492960946448)) (.l 16492876273689)) (.n (.n (.l 16492825675781) (.l 16493061675288)) (.l 16492893311001)))) (.n (.n (.n (.n (.l 8796093159704) (.l 16492978116879)) (.l 16492776786695)) (.n (.n (.l 15393280432390) (.l 16493112071192)) (.l 16492910022425))) (.n (.n (.n (.l 15393599324676) (.l 16493111678996)) (.l 16492809488665)) (.n (.n (.l 15393248385289) (.l 16493045225752)) (.l 16492944559377)))))⟩
def IT:Lv:=⟨600,12,(.n (.n (.n (.n (.n (.n (.n (.n (.n (.n (.l 78821823064) (.l 17293858242868335091)) (.l 17293839203847704812)) (.n (.l 17293831023997960304) (.l 17293863876254159252))) (.n (.n (.n (.l 17293827930144858189) (.l 17293861611867763269)) (.l 17293845389674463574)) (.n (.l 17293834392393404626) (.l 17293852057578168785)))) (.n (.n (.n (.n (.l 17293863870162681881) (.l 17293863947457348139)) (.l 17293863942725255437)) (.n (.l 17293832948126781585) (.l 17293852537456738739))) (.n (.n (.l 17293830129721888851) (.l 17293845321508929906)) (.n (.l 17293836591955284173) (.l 17293854394107761135))))) (.n (.n (.n (.n (.n (.l 17293823325386133517) (.l 17293859548840440408)) (.l 17293839822625067299)) (.n (.l 17293831230475202721) (.l 17293848758138016164))) (.n (.n (.n (.l 17293827174868303940) (.l 17293863535795057230)) (.l 17293844634028871995)) (.n (.l 17293838247244067005) (.l 17293853569624826337)))) (.n (.n (.n (.n (.l 17293825250135605288) (.l 17293860374346625591)) (.l 17293842022151606556)) (.n (.l 17293835972069040321) (.l 17293850822892437953))) (.n (.n (.l 17293829924201046144) (.l 17293849169397911938)) (.n (.l 17293840508594963032) (.l 17293857692827242975)))))) (.n (.n (.n (.n (.n (.n (.l 17293822912887095302) (.l 17293857350085579259)) (.l 17293839272550449397)) (.n (.l 17293830749287842393) (.l 17293850887769928090))) (.n (.n (.n (.l 17293828480018141269) (.l 17293863879325266498)) (.l 17293843676066599253)) (.n (.l 17293834873580765403) (.l 17293855080782332344)))) (.n (.n (.n (.n (.l 16140903126902370352) (.l 17293861198560948765)) (.l 17293841403558834492)) (.n (.l 17293834735554490555) (.l 17293850407891198553))) (.n (.n (.l 17293830816950349915) (.l 17293848207139778938)) (.n (.l 17293837141843726586) (.l 17293855013119824472))))) (.n (.n (.n (.n (.n (.l 16140903195101749277) (.l 17293858587287810594)) (.l 17293842776958619948)) (.n (.l 17293833780461072553) (.l 17293851918847353257))) (.n (.n (.l 17293829580100259915) (.l 17293844702731612483)) (.n (.l 17293836522429006057) (.l 17293856112346169944)))) (.n (.n (.n (.n (.l 17293825731322904623) (.l 17293862160918901310)) (.l 17293843189829255462)) (.n (.l 17293863941600600664) (.l 17293853981002793416))) (.n (.n (.l 17293829725995171945) (.l 17293847043337920869)) (.n (.l 17293838310377005324) (.l 17293858174081606149))))))) (.n (.n (.n (.n (.n (.n (.n (.l 13835058192838582872) (.l 17293857075140858456)) (.l 17293841952039436569)) (.n (.l 17293830405623328916) (.l 17293850544205934961))) (.n (.n (.n (.l 17293826487474298960) (.l 17293862848415654473)) (.l 17293846351143342385)) (.n (.l 17293835423235920049) (.l 17293852469945397684)))) (.n (.n (.n (.n (.l 17293863870229774364) (.l 17293859618247778862)) (.l 17293844082880373007)) (.n (.l 17293832605200367763) (.l 17293849995389915536))) (.n (.n (.l 17293830473285836913) (.l 17293848413264634190)) (.n (.l 17293836866898698449) (.l 17293856457906536915))))) (.n (.n (.n (.n (.n (.l 17293824365875499023) (.l 17293863946954080777)) (.l 17293842983083471102)) (.n (.l 17293831574139846788) (.l 17293863876589785472))) (.n (.n (.n (.l 17293827449830117449) (.l 17293863261118485073)) (.l 17293847450923299177)) (.n (.l 17293838515327209703) (.l 17293855630806630851)))) (.n (.n (.n (.n (.l 17293863801493643309) (.l 17293860855433306684)) (.l 17293863943715029321)) (.n (.l 17293833704561213638) (.l 17293851164006814148))) (.n (.n (.l 17293829993004531813) (.l 17293846696217149831)) (.n (.l 17293840852276089097) (.l 17293855906674401880)))))) (.n (.n (.n (.n (.n (.n (.l 16140902301614247953) (.l 17293859411300721175)) (.l 17293839547646472440)) (.n (.l 17293833299424690333) (.l 17293851231451218303))) (.n (.n (.n (.l 17293826908513210433) (.l 17293863810572329551)) (.l 17293844565225341281)) (.n (.l 17293837965405294777) (.l 17293852951099191771)))) (.n (.n (.n (.n (.l 17293824906471026741) (.l 17293861129891828259)) (.l 17293844014261600536)) (.n (.l 17293835765860118719) (.l 17293851301294756249))) (.n (.n (.l 17293830550662393950) (.l 17293846283749269881)) (.n (.l 17293837897808314624) (.l 17293855288098533881))))) (.n (.n (.n (.n (.n (.l 17293863870078738468) (.l 17293860442411786770)) (.l 17293840647443218736)) (.n (.l 17293832192715698350) (.l 17293849513850241454))) (.n (.n (.l 17293827999720079962) (.l 17293847794671849799)) (.n (.l 17293863872864530671) (.l 17293856386804789738)))) (.n (.n (.n (.n (.l 17293826006267940915) (.l 17293861474042909236)) (.l 17293842847003480360)) (.n (.l 17293836728167887449) (.l 17293854324683485610))) (.n (.n (.l 17293832122939261530) (.l 17293847383529419114)) (.n (.l 17293839135044178193) (.l 17293856868378124807)))))))) (.n (.n (.n (.n (.n (.n (.n (.n (.l 13835058330176860760) (.l 17293858792657699416)) (.l 17293838929036804375)) (.n (.l 17293830344470507635) (.l 17293850475369156976))) (.n (.n (.n (.l 17293863802080895031) (.l 17293863879241343560)) (.l 17293846213670826287)) (.n (.l 17293837346760491222) (.l 17293854256047927730)))) (.n (.n (.n (.n (.l 17293825593229553707) (.l 17293859343353348632)) (.l 17293843945458032950)) (.n (.l 17293834941025169586) (.l 17293851988338467213))) (.n (.n (.l 17293828961423786071) (.l 17293848345098637686)) (.n (.l 17293836798128873718) (.l 17293856799205986770))))) (.n (.n (.n (.n (.n (.l 16140901889532284951) (.l 17293859823751909916)) (.l 17293842914934247719)) (.n (.l 17293833841748226177) (.l 17293851643885384102))) (.n (.n (.n (.l 17293827312340722266) (.l 17293863810773611098)) (.l 17293844359217959271)) (.n (.l 17293835698382454976) (.l 17293855768128020962)))) (.n (.n (.n (.n (.l 17293826693043236905) (.l 17293860511819199017)) (.l 17293863805571588382)) (.n (.l 17293836178261037218) (.l 17293853224953721282))) (.n (.n (.l 17293831641768542339) (.l 17293846627464270176)) (.n (.l 17293840171356152031) (.l 17293855700482888163)))))) (.n (.n (.n (.n (.n (.n (.l 16140942433822208014) (.l 17293857831138607638)) (.l 17293839341454315805)) (.n (.l 17293830886760358042) (.l 17293848277134311799))) (.n (.n (.n (.l 17293863802215079998) (.l 17293862436300149325)) (.l 17293843878013800759)) (.n (.l 17293835079772917943) (.l 17293852882346811993)))) (.n (.n (.n (.n (.l 17293824837718061091) (.l 17293860167752041009)) (.l 17293863805437206846)) (.n (.l 17293833086339220057) (.l 17293853156133405116))) (.n (.n (.l 17293830954422866522) (.l 17293845940118311292)) (.n (.l 17293837279316386007) (.l 17293857280409698780))))) (.n (.n (.n (.n (.n (.l 17293823944045981717) (.l 17293858861830259288)) (.l 17293840441251221806)) (.n (.l 17293831986542387338) (.l 17293852125039350152))) (.n (.n (.l 17293827862247661646) (.l 17293844840338342213)) (.n (.l 17293836110833410285) (.l 17293856043173843545)))) (.n (.n (.n (.n (.l 17293827380271665201) (.l 17293863878939386419)) (.l 17293845595044503885)) (.n (.l 17293834048712266329) (.l 17293854187261170123))) (.n (.n (.l 17293829855699837530) (.l 17293849375723278696)) (.n (.l 17293838447832637672) (.l 17293858311503892971))))))) (.n (.n (.n (.n (.n (.n (.n (.l 16140901270805299208) (.l 17293857212612973073)) (.l 17293841334235242737)) (.n (.l 17293830611815456886) (.l 17293848551274156405))) (.n (.n (.n (.l 17293826564915798075) (.l 17293862917118399039)) (.l 17293863806578139475)) (.n (.l 17293834804358127796) (.l 17293854943309800025)))) (.n (.n (.n (.n (.l 17293824572067606559) (.l 17293861061138694703)) (.l 17293841815120884024)) (.n (.l 17293863940711481493) (.l 17293852743732769170))) (.n (.n (.l 17293828618379960409) (.l 17293848482034291033)) (.n (.l 17293863873032458451) (.l 17293854806844064214))))) (.n (.n (.n (.n (.n (.l 17293863869776773139) (.l 17293858724693275146)) (.l 17293843120572600587)) (.n (.l 17293831711595455065) (.l 17293849104922345859))) (.n (.n (.n (.l 17293827518583050339) (.l 17293863742087729754)) (.l 17293846833135882560)) (.n (.l 17293838652749541570) (.l 17293853707081187814)))) (.n (.n (.n (.n (.l 17293827036607152191) (.l 17293861886007431725)) (.l 17293845251480502562)) (.n (.l 17293836453189292197) (.l 17293863808356995527))) (.n (.n (.l 17293829649476194438) (.l 17293849651087556962)) (.n (.l 17293838172872347874) (.l 17293858036542444120)))))) (.n (.n (.n (.n (.n (.n (.l 17293863938515369994) (.l 17293859273945747969)) (.l 17293842570665926907)) (.n (.l 17293831161722302591) (.l 17293850956707537275))) (.n (.n (.n (.l 17293826968676208730) (.l 17293863329586324048)) (.l 17293847107242008932)) (.n (.l 17293835491485819481) (.l 17293853088571830717)))) (.n (.n (.n (.n (.l 17293826418232422437) (.l 17293860305593795108)) (.l 17293841884680388890)) (.n (.l 17293833361267466396) (.l 17293850751136432540))) (.n (.n (.l 17293829168270028897) (.l 17293863875868209537)) (.n (.l 17293840302386073857) (.l 17293857624493515261))))) (.n (.n (.n (.n (.n (.l 16140903813694455847) (.l 17293858999722218023)) (.l 17293863805252706610)) (.n (.l 17293834597461192845) (.l 17293852331248820619))) (.n (.n (.l 17293829519870070892) (.l 17293848000847089995)) (.n (.l 17293838584130769099) (.l 17293856592996786639)))) (.n (.n (.n (.n (.l 17293863801996918858) (.l 17293862504633745976)) (.l 17293863805772968234)) (.n (.l 17293834323455971501) (.l 17293852400521380301))) (.n (.n (.l 17293832466586857615) (.l 17293850131704623706)) (.n (.l 17293841608358146324) (.l 17293856525317501451))))))))) (.n (.n (.n (.n (.n (.n (.n (.n (.n (.l 9223372036890792536) (.l 17293858449076990478)) (.l 17293841745814053102)) (.n (.l 17293832673231835282) (.l 17293863876187210094))) (.n (.n (.n (.l 17293826290037874764) (.l 17293861955129557561)) (.l 17293845664032448813)) (.n (.l 17293837209288130736) (.l 17293852197282189744)))) (.n (.n (.n (.n (.l 17293825455757103131) (.l 17293863947189006869)) (.l 17293863943278743861)) (.n (.l 17293832398974939280) (.l 17293849792083607955))) (.n (.n (.l 17293828274681888878) (.l 17293846077389472076)) (.n (.l 17293839408814833907) (.l 17293854738141336016))))) (.n (.n (.n (.n (.n (.l 17293824149885632524) (.l 17293858106134004230)) (.l 17293840578505605372)) (.n (.l 17293831848363438240) (.l 17293848827007726170))) (.n (.n (.n (.l 17293828548838416477) (.l 17293863123679552084)) (.l 17293847244697919805)) (.n (.l 17293835560926568676) (.l 17293853294797263296)))) (.n (.n (.n (.n (.l 16140905119618539578) (.l 17293860786378347050)) (.l 17293844907698671940)) (.n (.l 17293834117230231748) (.l 17293851026518286751))) (.n (.n (.l 17293831504296153188) (.l 17293849306919723396)) (.n (.l 17293839890773827846) (.l 17293855495800357375)))))) (.n (.n (.n (.n (.n (.n (.l 16140901957949767691) (.l 17293863946735931924)) (.l 17293842158281928948)) (.n (.l 17293833153968185465) (.l 17293848620681351581))) (.n (.n (.n (.l 17293826762450755668) (.l 17293863054674780740)) (.l 17293863944067436852)) (.n (.l 17293837759194817112) (.l 17293852815758033369)))) (.n (.n (.n (.n (.l 17293826074416910386) (.l 17293859755787412018)) (.l 17293841541014733077)) (.n (.l 17293835017411866776) (.l 17293853018661036440))) (.n (.n (.l 17293828832643879032) (.l 17293848688243097940)) (.n (.l 17293837828401119448) (.l 17293857007662375415))))) (.n (.n (.n (.n (.n (.l 16140942365404770336) (.l 17293859893863834125)) (.l 17293843326782767364)) (.n (.l 17293834253697909337) (.l 17293849857883660716))) (.n (.n (.l 17293827724791824486) (.l 17293847588462936422)) (.n (.l 17293838859495043269) (.l 17293853915269202377)))) (.n (.n (.n (.n (.l 17293827242818117699) (.l 17293861405256258113)) (.l 17293842640778076453)) (.n (.l 17293836659414692044) (.l 17293854049739055705))) (.n (.n (.l 17293832054186090633) (.l 17293847177320624492)) (.n (.l 17293863873988681987) (.l 17293856250355802604))))))) (.n (.n (.n (.n (.n (.n (.n (.l 17293823128944082947) (.l 17293858930247574008)) (.l 17293839071878160984)) (.n (.l 17293832879021183577) (.l 17293847933436240279))) (.n (.n (.n (.l 17293828205425435226) (.l 17293862024184635968)) (.l 17293843534366187866)) (.n (.l 17293837553506132185) (.l 17293854874574094805)))) (.n (.n (.n (.n (.l 17293825799606095918) (.l 17293860924656288283)) (.l 17293841197350060345)) (.n (.l 17293835147235655862) (.l 17293863807518204506))) (.n (.n (.l 17293829030646476916) (.l 17293845531509191032)) (.n (.l 17293839615040348407) (.l 17293856936761840216))))) (.n (.n (.n (.n (.n (.l 17293823600347906074) (.l 17293863946987541025)) (.l 17293840028850450729)) (.n (.l 17293863940444749990) (.l 17293851713192075865))) (.n (.n (.n (.l 17293829373572808776) (.l 17293863467226579546)) (.l 17293844500700373320)) (.n (.l 17293835835871756483) (.l 17293855974353686981)))) (.n (.n (.n (.n (.l 17293825525097414700) (.l 17293861680553574973)) (.l 17293863943614533921)) (.n (.l 17293834186033741987) (.l 17293851370182034009))) (.n (.n (.l 17293831779224408167) (.l 17293847314021519750)) (.n (.l 17293838035264250120) (.l 17293856181535535619)))))) (.n (.n (.n (.n (.n (.n (.l 16140901683289989136) (.l 17293859069230055961)) (.l 17293863942389633312)) (.n (.l 17293833497664278686) (.l 17293850682349560226))) (.n (.n (.n (.l 17293828754963267648) (.l 17293862779931112010)) (.l 17293846969769664826)) (.n (.l 17293835285981536480) (.l 17293853500301496766)))) (.n (.n (.n (.n (.l 17293863801376174132) (.l 17293861336083739190)) (.l 17293844220587639105)) (.n (.l 17293833223642284222) (.l 17293853362845491647))) (.n (.n (.l 17293829099535831642) (.l 17293863875314712923)) (.n (.l 17293837485541798106) (.l 17293855837820686813))))) (.n (.n (.n (.n (.n (.l 17293825180828848152) (.l 17293860579884212776)) (.l 17293840784899113226)) (.n (.l 17293834536377229452) (.l 17293849926687179145))) (.n (.n (.l 17293829304954040401) (.l 17293845046546956655)) (.n (.l 17293836385744888408) (.l 17293854669337842157)))) (.n (.n (.n (.n (.l 17293827586480439367) (.l 17293862230309429813)) (.l 17293845801253146961)) (.n (.l 17293836941573927120) (.l 17293851851369394638))) (.n (.n (.l 17293832329114472559) (.l 17293850062969213327)) (.n (.l 17293841470885798123) (.l 17293858518064890350)))))))) (.n (.n (.n (.n (.n (.n (.n (.n (.l 16140901486895833093) (.l 17293857143826780661)) (.l 17293863874173268217)) (.n (.l 17293832741532016754) (.l 17293847867972489622))) (.n (.n (.n (.l 17293828067600691257) (.l 17293863879107183163)) (.l 17293843396726989144)) (.n (.l 17293834667355369685) (.l 17293854462290108884)))) (.n (.n (.n (.n (.l 17293824425283731498) (.l 17293860648687686188)) (.l 17293841128597188880)) (.n (.l 17293833017466884277) (.l 17293852606310445657))) (.n (.n (.l 17293828412154503254) (.l 17293845458461356367)) (.n (.l 17293839484162773199) (.l 17293854600752624114))))) (.n (.n (.n (.n (.n (.l 16140942365119582230) (.l 17293858655906591263)) (.l 17293839959560716543)) (.n (.l 17293831436683976868) (.l 17293848898730357153))) (.n (.n (.n (.l 17293829236150530144) (.l 17293863604598407770)) (.l 17293863806796292422)) (.n (.l 17293863872730349798) (.l 17293855358394835428)))) (.n (.n (.n (.n (.l 17293825387624833084) (.l 17293863878788362810)) (.l 17293845113907474751)) (.n (.l 17293836315733401799) (.l 17293853637320794528))) (.n (.n (.l 17293829451117248642) (.l 17293849444342055263)) (.n (.l 17293840714803736801) (.l 17293857486702383616)))))) (.n (.n (.n (.n (.n (.n (.l 17293823668748611593) (.l 17293857556294267390)) (.l 17293842295771066646)) (.n (.l 17293831092365279834) (.l 17293851093978571166))) (.n (.n (.n (.l 17293828686528901208) (.l 17293862573755912775)) (.l 17293846763577667934)) (.n (.l 17293837415580823774) (.l 17293855218355388858)))) (.n (.n (.n (.n (.l 17293826211839156258) (.l 17293863947608396320)) (.l 17293841678470312223)) (.n (.l 17293835628387750043) (.l 17293850614133674427))) (.n (.n (.l 17293830267714523259) (.l 17293846146293531226)) (.n (.l 17293840096177414397) (.l 17293857417882092026))))) (.n (.n (.n (.n (.n (.l 17293824974636851233) (.l 17293860237461226021)) (.l 17293843469907824903)) (.n (.l 17293834459888140459) (.l 17293852262511706543))) (.n (.n (.l 17293829785958846568) (.l 17293863874962317677)) (.n (.l 17293836248289300680) (.l 17293854119565255116)))) (.n (.n (.n (.n (.l 16140904441835790406) (.l 17293863878972879427)) (.l 17293843259269996880)) (.n (.l 17293836041543389352) (.l 17293851782616498603))) (.n (.n (.l 17293831367494647915) (.l 17293849581998997902)) (.n (.l 17293841264693801230) (.l 17293856319108727304))))))) (.n (.n (.n (.n (.n (.n (.n (.l 13835099424474309208) (.l 17293857761949463036)) (.l 17293842095518200091)) (.n (.l 17293832535407165591) (.l 17293848070908899700))) (.n (.n (.n (.l 17293828342545723453) (.l 17293862092669190731)) (.l 17293846557368725852)) (.n (.l 17293837621705674931) (.l 17293863808642949558)))) (.n (.n (.n (.n (.l 17293825868174647326) (.l 17293859687034454558)) (.l 17293844289659420946)) (.n (.l 17293835353442718297) (.l 17293850201715978679))) (.n (.n (.l 17293830679496593525) (.l 17293845733909696850)) (.n (.l 17293839752613421268) (.l 17293855150038798937))))) (.n (.n (.n (.n (.n (.l 17293823737820454930) (.l 17293860098713944588)) (.l 17293840235042615554)) (.n (.l 17293833566467817607) (.l 17293849239391596933))) (.n (.n (.n (.l 17293828136605470818) (.l 17293863673418584666)) (.l 17293847524340408922)) (.n (.l 17293835904624636138) (.l 17293853775917625945)))) (.n (.n (.n (.n (.l 17293863801862672450) (.l 17293860992922624560)) (.l 17293842503305408842)) (.n (.l 17293833911224598730) (.l 17293851576374149543))) (.n (.n (.l 17293831917183337049) (.l 17293846902425923978)) (.n (.l 17293840989748768997) (.l 17293857969735569897)))))) (.n (.n (.n (.n (.n (.n (.l 17293824022278090772) (.l 17293857899942085208)) (.l 17293842708138275108)) (.n (.l 17293833635086590078) (.l 17293851437659992445))) (.n (.n (.n (.l 17293828892452467290) (.l 17293863810639405644)) (.l 17293844152438903139)) (.n (.l 17293838109771546851) (.l 17293855561919361502)))) (.n (.n (.n (.n (.l 17293825112679800888) (.l 17293861542359630374)) (.l 17293844770227331394)) (.n (.l 17293833430018691231) (.l 17293853431078580635))) (.n (.n (.l 17293831298104156285) (.l 17293846489958170973)) (.n (.l 17293863873183494364) (.l 17293855425168400864))))) (.n (.n (.n (.n (.n (.l 16140902723863347238) (.l 17293859480724922899)) (.l 17293840922354696491)) (.n (.l 17293832261502296239) (.l 17293849720578970033))) (.n (.n (.l 17293830060903862874) (.l 17293848138319442291)) (.n (.l 17293838796966375666) (.l 17293856730469167600)))) (.n (.n (.n (.n (.l 17293827792672436278) (.l 17293862642106204742)) (.l 17293846007462052147)) (.n (.l 17293837003112906924) (.l 17293854531361894829))) (.n (.n (.l 17293830199397908622) (.l 17293850269160382860)) (.n (.l 17293838722291290387) (.l 17293856664031638001))))))))))⟩
def IZ:Lv:=⟨120,8,(.n (.n (.n (.n (.n (.n (.n (.l 24803704) (.l 16493701776504)) (.n (.l 16493180165412) (.l 16494693735779))) (.n (.n (.l 16494688565779) (.l 16493971798092)) (.n (.l 16493571552300) (.l 16494544189806)))) (.n (.n (.n (.l 16492859361799) (.l 16493839993924)) (.n (.l 16493431761957) (.l 16494459512171))) (.n (.n (.l 16493112071451) (.l 16494225806427)) (.l 16493684488568)))) (.n (.n (.n (.n (.l 16494729168131) (.l 16493772881992)) (.n (.l 16493230717216) (.l 16494308587641))) (.n (.n (.l 16492961167481) (.l 16494172854353)) (.n (.l 16493634400376) (.l 16494729196915)))) (.n (.n (.n (.l 16492933942794) (.l 16493904480336)) (.n (.l 16493504440368) (.l 16494477471338))) (.n (.n (.l 16494689720698) (.l 16494157125983)) (.l 16493618166136))))) (.n (.n (.n (.n (.n (.l 13196186420088) (.l 16494708999742)) (.n (.l 16493330702118) (.l 16494258118521))) (.n (.n (.l 16492910677881) (.l 16494139102798)) (.n (.l 16493449804335) (.l 16494728606577)))) (.n (.n (.n (.l 16492900386828) (.l 16494004424263)) (.n (.l 16493470885422) (.l 16494427137900))) (.n (.n (.l 16493084940061) (.l 16494123374458)) (.l 16494707949110)))) (.n (.n (.n (.n (.l 16494721792005) (.l 16494709326403)) (.n (.l 16493398010402) (.l 16494694523753))) (.n (.n (.l 16494689260313) (.l 16494192251514)) (.n (.l 16494707684154) (.l 16494678604152)))) (.n (.n (.n (.l 16492977523833) (.l 16494071728722)) (.n (.l 16493521238570) (.l 16494510566512))) (.n (.n (.l 16493213522721) (.l 16494324964217)) (.l 16494708734530)))))) (.n (.n (.n (.n (.n (.n (.l 8796093184376) (.l 16493819346245)) (.n (.l 16493280917790) (.l 16494358329465))) (.n (.n (.l 16493010909305) (.l 16494105491796)) (.n (.l 16493416164661) (.l 16494728476786)))) (.n (.n (.n (.l 16492799883531) (.l 16493954614605)) (.n (.l 16493297760301) (.l 16494694726246))) (.n (.n (.l 16494689459222) (.l 16494089428053)) (.l 16493550843256)))) (.n (.n (.n (.n (.l 16494721696774) (.l 16493886720321)) (.n (.l 16493364410408) (.l 16494408919161))) (.n (.n (.l 16493061478521) (.l 16494038841689)) (.n (.l 16493483538737) (.l 16494729000056)))) (.n (.n (.n (.l 16492843240207) (.l 16494021998665)) (.n (.l 16493348335913) (.l 16494527933295))) (.n (.n (.l 16493135274010) (.l 16494693605498)) (.l 16493751910776))))) (.n (.n (.n (.n (.n (.l 15395217539588) (.l 16494709129030)) (.n (.l 16493202384762) (.l 16494693934688))) (.n (.n (.l 16494688671248) (.l 16493988630359)) (.n (.l 16494707553847) (.l 16494729196148)))) (.n (.n (.n (.l 16492816633097) (.l 16493873560143)) (.n (.l 16493314912039) (.l 16494493265256))) (.n (.n (.l 16493162602008) (.l 16494276140632)) (.l 16494712469311)))) (.n (.n (.n (.n (.l 16492825770248) (.l 16493937130058)) (.n (.l 16493247537963) (.l 16494375496313))) (.n (.n (.l 16493028055673) (.l 16494056004179)) (.n (.l 16494707751731) (.l 16494662154616)))) (.n (.n (.n (.l 16492876993037) (.l 16493923881803)) (.n (.l 16493382413106) (.l 16494561491309))) (.n (.n (.l 16493263463034) (.l 16494207656540)) (.l 16494712472379)))))))⟩
def F7:Lv:=⟨6,8,(.n (.n (.n (.l 4446488326) (.l 33024138216197)) (.l 26426950747910)) (.n (.n (.l 17592220124934) (.l 34123649844740)) (.l 30825114633222)))⟩
def FJ:Lv:=⟨32,8,(.n (.n (.n (.n (.n (.l 4884406560) (.l 34171314311950)) (.n (.l 33007010383370) (.l 33076099031834))) (.n (.n (.l 26397456605472) (.l 34153966933522)) (.n (.l 30825553006368) (.l 34192790198819)))) (.n (.n (.n (.l 26405475918112) (.l 33045831688980)) (.n (.l 34115145506824) (.l 34184200592408))) (.n (.n (.l 30799361738784) (.l 34166886372387)) (.n (.l 33063212622608) (.l 34218493157923))))) (.n (.n (.n (.n (.l 17592221835552) (.l 34141266780175)) (.n (.l 30837968145184) (.l 34205490419491))) (.n (.n (.l 33020281160455) (.l 33088732275479)) (.n (.l 34158043734027) (.l 34201329738275)))) (.n (.n (.n (.l 30812665939232) (.l 34179905490979)) (.n (.l 33049908480269) (.l 34209953030691))) (.n (.n (.l 34128382730245) (.l 34196867389717)) (.n (.l 33033165081617) (.l 34214248522275))))))⟩
def Ij:Lv:=⟨2,8,(.n (.l 17040130) (.l 8796093285122))⟩
def DR:Lv:=⟨4,8,(.n (.n (.l 66820) (.l 6597069963524)) (.n (.l 4398046511620) (.l 6597069899012)))⟩
def Dt:Lv:=⟨5,8,(.n (.n (.n (.l 67077) (.l 6597070160645)) (.l 6597069963525)) (.n (.l 4398046511621) (.l 6597069898757)))⟩
def GB:Lv:=⟨6,8,(.n (.n (.n (.l 67334) (.l 6597070095110)) (.l 6597069963526)) (.n (.n (.l 4398046511622) (.l 6597070030598)) (.l 6597069898758)))⟩
def sB:Lv:=⟨2,8,(.n (.l 66306) (.l 4398046511874))⟩
def Iu:Lv:=⟨3,8,(.n (.n (.l 17105923) (.l 13194223485955)) (.l 8796093154307))⟩
def II:Lv:=⟨4,8,(.n (.n (.l 17171716) (.l 13194189931780)) (.n (.l 8796093154564) (.l 13194173482244)))⟩
def Im:Lv:=⟨5,8,(.n (.n (.n (.l 17237509) (.l 13194257171973)) (.l 13194189932037)) (.n (.l 8796093154821) (.l 13194173351429)))⟩
def Ih:Lv:=⟨6,8,(.n (.n (.n (.l 17303302) (.l 13194223617798)) (.l 13194189932294)) (.n (.n (.l 8796093155078) (.l 13194207168262)) (.l 13194173351686)))⟩
def IA:Lv:=⟨2,8,(.n (.l 17040130) (.l 8796093285122))⟩
def Hk:Lv:=⟨8,8,(.n (.n (.n (.l 17434888) (.l 13194173744392)) (.n (.l 13194206708488) (.l 15393280559624))) (.n (.n (.l 8796093155592) (.l 15393213514760)) (.n (.l 15393247265288) (.l 15393264044552))))⟩
def Iz:Lv:=⟨20,8,(.n (.n (.n (.n (.n (.l 18224404) (.l 15393382338836)) (.l 15393532478996)) (.n (.l 13194173482260) (.l 15393515769364))) (.n (.n (.n (.l 13194206708500) (.l 15393482675732)) (.l 15393281018644)) (.n (.l 13194508896276) (.l 15393516096532)))) (.n (.n (.n (.n (.l 8796093158676) (.l 15393415630868)) (.l 15393347864340)) (.n (.l 15393213580308) (.l 15393431949076))) (.n (.n (.n (.l 15393248051732) (.l 15393466160660)) (.l 15393314638356)) (.n (.l 15393330891028) (.l 15393448922388)))))⟩
def Hy:Lv:=⟨2,8,(.n (.l 17040130) (.l 8796093285122))⟩
def Iq:Lv:=⟨6,8,(.n (.n (.n (.l 17303302) (.l 15393246873350)) (.l 13194273817350)) (.n (.n (.l 8796093155078) (.l 15393230423814)) (.l 15393297269254)))⟩
def GS:Lv:=⟨2,8,(.n (.l 17040130) (.l 8796093285122))⟩
def Hb:Lv:=⟨12,8,(.n (.n (.n (.n (.l 17698060) (.l 15393381353740)) (.l 15393263650060)) (.n (.n (.l 13194374480652) (.l 15393347931660)) (.l 15393230817036))) (.n (.n (.n (.l 8796093156620) (.l 15393381550092)) (.l 15393281082380)) (.n (.n (.l 15393397932556) (.l 15393331416588)) (.l 15393247200780))))⟩
def Ic:Lv:=⟨2,8,(.n (.l 17040130) (.l 8796093285122))⟩
def IB:Lv:=⟨4,8,(.n (.n (.l 17171716) (.l 13194189931780)) (.n (.l 8796093154564) (.l 13194173482244)))⟩
def G9:Lv:=⟨5,8,(.n (.n (.n (.l 17237509) (.l 13194257171973)) (.l 13194189932037)) (.n (.l 8796093154821) (.l 13194173351429)))⟩
def IY:Lv:=⟨6,8,(.n (.n (.n (.l 17303302) (.l 13194223617798)) (.l 13194189932294)) (.n (.n (.l 8796093155078) (.l 13194207168262)) (.l 13194173351686)))⟩
def IJ:Lv:=⟨2,8,(.n (.l 17040130) (.l 8796093285122))⟩
def Ht:Lv:=⟨2,8,(.n (.l 17040130) (.l 8796093285122))⟩
def EA:Lv:=⟨2,8,(.n (.l 17040130) (.l 8796093285122))⟩
def IX:Lv:=⟨4,8,(.n (.n (.l 17171716) (.l 13194189931780)) (.n (.l 8796093154564) (.l 13194173482244)))⟩
def GY:Lv:=⟨5,8,(.n (.n (.n (.l 17237509) (.l 13194257171973)) (.l 13194189932037)) (.n (.l 8796093154821) (.l 13194173351429)))⟩
def G4:Lv:=⟨6,8,(.n (.n (.n (.l 17303302) (.l 13194223617798)) (.l 13194189932294)) (.n (.n (.l 8796093155078) (.l 13194207168262)) (.l 13194173351686)))⟩
def Hi:Lv:=⟨2,8,(.n (.l 17040130) (.l 8796093285122))⟩
def Eo:Lv:=⟨2,8,(.n (.l 17040130) (.l 8796093285122))⟩
def GW:Lv:=⟨3,8,(.n (.n (.l 17105923) (.l 13194223485955)) (.l 8796093154307))⟩
def Hf:Lv:=⟨4,8,(.n (.n (.l 17171716) (.l 13194189931780)) (.n (.l 8796093154564) (.l 13194173482244)))⟩
def IN:Lv:=⟨5,8,(.n (.n (.n (.l 17237509) (.l 13194257171973)) (.l 13194189932037)) (.n (.l 8796093154821) (.l 13194173351429)))⟩
def HY:Lv:=⟨6,8,(.n (.n (.n (.l 17303302) (.l 13194223617798)) (.l 13194189932294)) (.n (.n (.l 8796093155078) (.l 13194207168262)) (.l 13194173351686)))⟩
def E7:Lv:=⟨2,8,(.n (.l 17040130) (.l 8796093285122))⟩
def G6:Lv:=⟨3,8,(.n (.n (.l 17105923) (.l 13194223485955)) (.l 8796093154307))⟩
def Iy:Lv:=⟨4,8,(.n (.n (.l 17171716) (.l 13194189931780)) (.n (.l 8796093154564) (.l 13194173482244)))⟩
def IC:Lv:=⟨5,8,(.n (.n (.n (.l 17237509) (.l 13194257171973)) (.l 13194189932037)) (.n (.l 8796093154821) (.l 13194173351429)))⟩
def G5:Lv:=⟨6,8,(.n (.n (.n (.l 17303302) (.l 13194223617798)) (.l 13194189932294)) (.n (.n (.l 8796093155078) (.l 13194207168262)) (.l 13194173351686)))⟩
def FR:Lv:=⟨2,8,(.n (.l 4379116290) (.l 17592270193410))⟩
def Ga:Lv:=⟨2,8,(.n (.l 4379116290) (.l 17592270193410))⟩
def Gr:Lv:=⟨2,8,(.n (.l 4379116290) (.l 17592270193410))⟩
def Jg:Lv:=⟨2,8,(.n (.l 66306) (.l 4398046511874))⟩
def Hq:Lv:=⟨2,8,(.n (.l 17040130) (.l 8796093285122))⟩
def FL:Lv:=⟨2,8,(.n (.l 4379116290) (.l 17592270193410))⟩
def Gj:Lv:=⟨2,8,(.n (.l 4379116290) (.l 17592270193410))⟩
def D3:List (List Lv):= [[fv],
 [kR,fv],
 [ru,fv],
 [rX,fv],
 [sr,kR,fv],
 [EX,ru,fv],
 [Dy,kR,fv],
 [Ev,rX,fv],
 [GM,kR,fv],
 [ku,fv],
 [wQ,ku,fv],
 [rB,kR,fv],
 [sE,xl,fv],
 [Ay,sr,kR,fv],
 [r9,ku,fv],
 [JG,fv],
 [Hg,rB,kR,fv],
 [IQ,tv,ru,fv],
 [G3,sr,kR,fv],
 [Hl,EX,ru,fv],
 [It,wQ,ku,fv],
 [Hs,sr,kR,fv],
 [FQ,EU,r9,ku,fv],
 [DY,rB,kR,fv],
 [Hu,Dy,kR,fv],
 [IT,sr,kR,fv],
 [IZ,Ev,rX,fv],
 [F7,Ay,sr,kR,fv],
 [FJ,Ay,sr,kR,fv],
 [Ij,Ev,rX,fv],
 [xl,fv],
 [DR,ku,fv],
 [Dt,ku,fv],
 [GB,ku,fv],
 [tv,ru,fv],
 [sB,rX,fv],
 [EU,r9,ku,fv],
 [Iu,r9,ku,fv],
 [II,r9,ku,fv],
 [Im,r9,ku,fv],
 [Ih,r9,ku,fv],
 [IA,wQ,ku,fv],
 [Hk,wQ,ku,fv],
 [Iz,wQ,ku,fv],
 [Hy,DR,ku,fv],
 [Iq,DR,ku,fv],
 [GS,Dt,ku,fv],
 [Hb,Dt,ku,fv],
 [Ic,GB,ku,fv],
 [IB,rB,kR,fv],
 [G9,rB,kR,fv],
 [IY,rB,kR,fv],
 [IJ,Dy,kR,fv],
 [Ht,GM,kR,fv],
 [EA,tv,ru,fv],
 [IX,tv,ru,fv],
 [GY,tv,ru,fv],
 [G4,tv,ru,fv],
 [Hi,EX,ru,fv],
 [Eo,sB,rX,fv],
 [GW,sB,rX,fv],
 [Hf,sB,rX,fv],
 [IN,sB,rX,fv],
 [HY,sB,rX,fv],
 [E7,sE,xl,fv],
 [G6,sE,xl,fv],
 [Iy,sE,xl,fv],
 [IC,sE,xl,fv],
 [G5,sE,xl,fv],
 [FR,DY,rB,kR,fv],
 [Ga,EA,tv,ru,fv],
 [Gr,Eo,sB,rX,fv],
 [FL,Hq,Jg,JG,fv],
 [Gj,E7,sE,xl,fv]]
def df:List (List Int×List Lv):=Cx.zip D3
def IU (p:List Int×List Lv):Bool:=p.1.all (fun z=>decide (0 < z)) && (p.2.length == p.1.length + 1 && zI (yU p.1) p.2)
def I3 (p:List Int×List Lv):Bool:=m6 (yU p.1) p.2
def I7 (p:List Int×List Lv):Bool:=oz p.2
def Ig (p:List Int×List Lv):Bool:=(dQ p.2:Int) == D0 p.1 (cB p.1) && (List.range (cB p.1 + 1)).all fun I=>(qg I p.2:Int) == D0 p.1 I && (Nat.blt 0 (qg I p.2) && dQ p.2 % qg I p.2 == 0)
end Go.Proofs.YtekbhbcgoadciaaGreat
namespace Go.Proofs.YtekbhbcgoadciaaGreat
theorem JW:((df.drop 0).take 25).all IU=true:=by decide +kernel
theorem I8:((df.drop 25).take 1).all IU=true:=by decide +kernel
theorem JF:((df.drop 26).take 17).all IU=true:=by decide +kernel
theorem JP:((df.drop 43).take 30).all IU=true:=by decide +kernel
theorem Ji:((df.drop 73).take 1).all IU=true:=by decide +kernel
theorem FX:df.all IU=true:=by
 have e:df=(df.drop 0).take 25 ++ (df.drop 25).take 1 ++ (df.drop 26).take 17 ++ (df.drop 43).take 30 ++ (df.drop 73).take 1:=rfl
 rw [e]
 simp only [List.all_append,JW,I8,JF,JP,Ji]
 rfl
end Go.Proofs.YtekbhbcgoadciaaGreat
namespace Go.Proofs.YtekbhbcgoadciaaGreat
theorem Jc:((df.drop 0).take 25).all I3=true:=by decide +kernel
theorem JO:((df.drop 25).take 1).all I3=true:=by decide +kernel
theorem Jd:((df.drop 26).take 17).all I3=true:=by decide +kernel
theorem Jh:((df.drop 43).take 30).all I3=true:=by decide +kernel
theorem Jn:((df.drop 73).take 1).all I3=true:=by decide +kernel
theorem F4:df.all I3=true:=by
 have e:df=(df.drop 0).take 25 ++ (df.drop 25).take 1 ++ (df.drop 26).take 17 ++ (df.drop 43).take 30 ++ (df.drop 73).take 1:=rfl
 rw [e]
 simp only [List.all_append,Jc,JO,Jd,Jh,Jn]
 rfl
end Go.Proofs.YtekbhbcgoadciaaGreat
namespace Go.Proofs.YtekbhbcgoadciaaGreat
theorem Jp:((df.drop 0).take 25).all I7=true:=by decide +kernel
theorem JY:((df.drop 25).take 1).all I7=true:=by decide +kernel
theorem JT:((df.drop 26).take 17).all I7=true:=by decide +kernel
theorem JH:((df.drop 43).take 30).all I7=true:=by decide +kernel
theorem JI:((df.drop 73).take 1).all I7=true:=by decide +kernel
theorem FE:df.all I7=true:=by
 have e:df=(df.drop 0).take 25 ++ (df.drop 25).take 1 ++ (df.drop 26).take 17 ++ (df.drop 43).take 30 ++ (df.drop 73).take 1:=rfl
 rw [e]
 simp only [List.all_append,Jp,JY,JT,JH,JI]
 rfl
end Go.Proofs.YtekbhbcgoadciaaGreat
namespace Go.Proofs.YtekbhbcgoadciaaGreat
theorem JA:((df.drop 0).take 25).all Ig=true:=by decide +kernel
theorem Jw:((df.drop 25).take 1).all Ig=true:=by decide +kernel
theorem JU:((df.drop 26).take 17).all Ig=true:=by decide +kernel
theorem Jt:((df.drop 43).take 30).all Ig=true:=by decide +kernel
theorem JX:((df.drop 73).take 1).all Ig=true:=by decide +kernel
theorem Gy:df.all Ig=true:=by
 have e:df=(df.drop 0).take 25 ++ (df.drop 25).take 1 ++ (df.drop 26).take 17 ++ (df.drop 43).take 30 ++ (df.drop 73).take 1:=rfl
 rw [e]
 simp only [List.all_append,JA,Jw,JU,Jt,JX]
 rfl
end Go.Proofs.YtekbhbcgoadciaaGreat
namespace Go.Proofs.YtekbhbcgoadciaaGreat
theorem Gf:Cx.length=D3.length:=rfl
theorem GU {zs:List Int} (h:zs∈Cx):∃tw,qK zs tw∧(zs,tw)∈df:=by
 obtain ⟨i,hi,rfl⟩:=List.getElem_of_mem h
 have hi2:i < D3.length:=by rw [←Gf];exact hi
 have hm:(Cx[i],D3[i])∈df:=by
  unfold df
  rw [List.mem_iff_getElem]
  exact ⟨i,by rw [List.length_zip];omega,List.getElem_zip⟩
 refine ⟨D3[i], ?_,hm⟩
 have h1:=List.all_eq_true.1 FX _ hm
 unfold IU at h1
 simp only [Bool.and_eq_true] at h1
 obtain ⟨p1,p2,p3⟩:=h1
 refine ⟨fun j hj=> ?_,eq_of_beq p2,p3,List.all_eq_true.1 F4 _ hm,List.all_eq_true.1 FE _ hm⟩
 rw [cX hj]
 simpa using List.all_eq_true.1 p1 _ (List.getElem_mem hj)
theorem Ie {zs:List Int} {tw:List Lv} (h:(zs,tw)∈df):(dQ tw:Int)=sy zs (cB zs)∧∀I,I≤cB zs→(qg I tw:Int)=sy zs I∧0 < qg I tw∧qg I tw ∣ dQ tw:=by
 have h1:=List.all_eq_true.1 Gy _ h
 unfold Ig at h1
 rw [Bool.and_eq_true] at h1
 refine ⟨(eq_of_beq h1.1).trans (Af _ _).symm,fun I hI=> ?_⟩
 have h2:=dH.1 h1.2 I (Nat.lt_succ_of_le hI)
 simp only [Bool.and_eq_true] at h2
 exact ⟨(eq_of_beq h2.1).trans (Af _ _).symm,by simpa [Nat.blt_eq] using h2.2.1,Nat.dvd_of_mod_eq_zero (eq_of_beq h2.2.2)⟩
end Go.Proofs.YtekbhbcgoadciaaGreat
namespace Go.Proofs.YtekbhbcgoadciaaGreat
open Go.RowKit
end Go.Proofs.YtekbhbcgoadciaaGreat
namespace Go.Proofs.YtekbhbcgoadciaaGreat
open Go.RowKit
end Go.Proofs.YtekbhbcgoadciaaGreat
namespace Go.Proofs.YtekbhbcgoadciaaGreat
open Go.RowKit
theorem Ja {pre O:List Int} {o i c:Nat} (h:pre.length=o) (hi:i < O.length) (hc:aC O i=(c:Int)):(aL (pre ++ O.drop i))[(o + 0) * 1]? =some (I6 (c:Int)):=by
 apply vT
 rw [List.getElem?_append_right ae,show (o + 0) * 1 - pre.length=0 by omega,List.getElem?_drop,Nat.add_zero,List.getElem?_eq_getElem hi,←hc,cX hi]
theorem E5 {pre O:List Int} {o i:Nat} (h:pre.length=o) (hi:i≤O.length):(o + (O.length - i)) * 1=(aL (pre ++ O.drop i)).length:=by
 rw [bc,List.length_append,List.length_drop,h,Nat.mul_one]
theorem GO {pre O:List Int} {o i:Nat} (h:pre.length=o) (hi:i≤O.length) (d:Int):(aL (pre ++ O.drop i)).drop (o * 1) ++ ((aL [d]).drop (0 * 1)).take (1 * 1)=aL ([] ++ (O ++ [d]).drop i):=by
 have h1:(aL (pre ++ O.drop i)).drop (o * 1)=aL (O.drop i):=by
  rw [show aL (pre ++ O.drop i)=aL pre ++ aL (O.drop i) by simp [aL],List.drop_append_of_le_length (by rw [bc];omega),List.drop_of_length_le (by rw [bc];omega),List.nil_append]
 rw [h1,List.drop_append_of_le_length hi]
 simp [aL]
theorem GR {pre O:List Int} {i:Nat} (hi:i≤O.length) (d:Int):aL (pre ++ O.drop i) ++ ((aL [d]).drop (0 * 1)).take (1 * 1)=aL (pre ++ (O ++ [d]).drop i):=by
 rw [List.drop_append_of_le_length hi]
 simp [aL]
theorem GL {pre O:List Int} {i c:Nat} (hi:i < O.length) (hc:aC O i=(c:Int)):pre ++ O.drop i=(pre ++ [(c:Int)]) ++ O.drop (i + 1):=by
 rw [List.drop_eq_getElem_cons hi,←cX hi,hc];simp
end Go.Proofs.YtekbhbcgoadciaaGreat
