/- Coset enumeration: l11Table where the procedure does not fail. guards: -/
import Derived.Test.YtfpcfckocmmcnaaPart5
import Derived.Test.YtfpcfckocmmcnaaPart4
import Derived.Test.YtfpcfckocmmcnaaPart3
set_option maxRecDepth 100000
set_option maxHeartbeats 6400000
namespace Go.Proofs.Ytfpcfckocmmcnaa
open Go.RowKit
def jB (n j:Nat):List Int:=(List.range n).map fun i=>if 1≤i∧i < j then -1 else 0
theorem fh (n j:Nat):(jB n j).length=n:=by simp [jB]
theorem jN {n j i:Nat} (h:i < n):aD (jB n j) i=if 1≤i∧i < j then -1 else 0:=by simp [aD,jB,h]
theorem zd (n:Nat):jB n 1=List.replicate n 0:=by
 refine j7 (by rw [fh];simp) fun k hk=> ?_
 rw [fh] at hk
 rw [jN hk,if_neg ab,fl hk]
theorem yu {n j:Nat} (h:1≤j) (hj:j < n):(jB n j).set j (-1)=jB n (j + 1):=by
 refine j7 (by rw [List.length_set,fh,fh]) fun k hk=> ?_
 rw [List.length_set,fh] at hk
 rw [cO,jN hk,jN hk,fh]
 by_cases e:j=k
 ·subst e;rw [if_pos ⟨rfl,hj⟩,if_pos ⟨h,ab⟩]
 ·rw [if_neg (fun h=>e h.1)]
  by_cases e2:1≤k∧k < j
  ·rw [if_pos e2,if_pos ⟨e2.1,ab⟩]
  ·rw [if_neg e2,if_neg ab]
theorem xf {n j:Nat} (h0:0 < n) (h:n≤j):jB n j=(ez n).2:=by
 refine j7 (by rw [fh];simp [ez]) fun k hk=> ?_
 rw [fh] at hk
 show _=aD ((List.replicate n (-1)).set 0 0) k
 rw [jN hk,cO,fl hk]
 by_cases e:0=k
 ·subst e;rw [if_neg ab,if_pos ⟨rfl,by simpa using h0⟩]
 ·rw [if_pos ab,if_neg (fun h=>e h.1)]
def iV (im:List (List Int)) (less:List Int) (s:jR) (g k:Nat):Int:=aD s.2 (image im less (aD s.1 k).toNat g).toNat
theorem r8 (ng:Nat) (im:List (List Int)) (less:List Int):dv ng im less=(List.range ng).map fun g=>(List.range (cq ng im less).1.length).map (iV im less (cq ng im less) g):=by
 unfold dv
 refine List.map_congr_left fun g _=> ?_
 refine List.ext_getElem (by simp) fun k h1 h2=> ?_
 simp at h1
 simp [iV,aD,h1]
theorem oh {ng:Nat} {im:List (List Int)} {less:List Int} {f i:Nat} {s:jR} (h:i < s.1.length):dw ng im less (f + 1) i s=dw ng im less f (i + 1) (l4 ng im less i s):=by rw [dw,if_pos h]
theorem sS (ng:Nat) (rels words:List (List Int)) (R m:Nat) (hR:rels.length=R) (hm:words.length=m) (hr:∀w∈rels,bA ng w) (hw:∀w∈words,bA ng w) (hng:ng≤1000) (hrl:∀w∈rels,w.length≤1000000000) (hwl:∀w∈words,w.length≤1000000000) (hR2:R≤1000000000) (hm2:m≤1000000000) (hf:(dq ng rels words).2.2=false):
  FC Try.prog 66 [(1002,bh words),(1003,bh rels)] [.s (.agg [.val (I6 ng), .sl 1003 0 R]),o1 (.sl 1002 0 m)] [(69,cS (dv ng (dq ng rels words).1 (dq ng rels words).2.1))] (.tup [.one (.sl 69 0 ng), .one (.val (.bool true))]) []:=by
 have hRun:=tD ng rels words R m hR hm hr hw hng hrl hwl hR2 hm2 _ rfl
 have hF:=lF hr hw hf
 have hhi:=(vi hr hw).hi
 obtain ⟨X,hX⟩:∃X,dq ng rels words=X:=⟨_,rfl⟩
 rw [hX] at hRun hF hhi hf ⊢
 clear hX
 obtain ⟨im,less,bb⟩:=X
 dsimp only at hRun hF hhi hf ⊢
 subst hf
 have hn0:=hF.pos
 have him:im.length=less.length:=hF.wf.len
 have hts:=ix hF
 refine cu (nt:=101) Try.func66 rfl rfl (by simp) fun w0 ω0=> ?_
 (refine au (ah (aa rfl (du rfl rfl rfl rfl) (aa rfl (ay rfl rfl) (aa rfl (ay rfl rfl) (aA (ax (au (ah (aa rfl (bz rfl rfl rfl rfl rfl rfl ae) ?_)))))))));apply aa rfl;exact an rfl rfl;apply aa rfl;(apply aI 89;exact cX [] hRun ae rfl rfl ⟨⟨.inl rfl, .inl rfl,aq⟩,rfl,aq⟩ ⟨⟨_,rfl, .inl rfl⟩,⟨_,rfl, .inl rfl⟩,aq⟩ trivial rfl rfl);apply aa rfl;exact dc [.slice none 0 0, .slice none 0 0, .bool false] rfl ae;apply aa rfl;exact bj rfl rfl rfl rfl rfl rfl rfl rfl ae rfl;refine aA (ax (au (au (ah ?_))));apply aa rfl;(exact aB (d:=2) rfl rfl rfl ae);apply aa rfl;exact aN rfl ae rfl rfl rfl rfl;refine aA (ax ?_))
 refine bf rfl (fun e=>by cases e) (fun _=> ?_)
 (refine aU (ax (au (ah ?_)));apply aa rfl;(exact cN (E:=2) rfl ae rfl);refine aa rfl (ay rfl rfl) (aA (ax (au (ah ?_))));apply aa rfl;(exact aB (d:=1) rfl rfl rfl ae);apply aa rfl;exact aN rfl ae rfl rfl rfl rfl;apply aa rfl;exact bF rfl rfl rfl ae;apply aa rfl;(exact BN (E:=2) rfl ae ae rfl rfl rfl rfl ab);refine aa rfl (ay rfl rfl) (aA (ax (au (au (ah (aa rfl (ay rfl rfl) (aA (ax (aQ ?_))))))))))
 refine bR (fun j:Nat=>St.of [(2,o1 (.ptr 2 0)),(6,o1 (.ptr 6 0)),(7,o1 (.sl 22 0 1)),(8,o1 (.sl 26 0 less.length)),(9,vv (I6 j))] [(1000,cS im),(1001,cD less),(2,⟨true,34,2, .flat [.val (I6 ng), .sl 1003 0 R]⟩),(6,⟨true,108,3, .flat [.sl 1000 0 less.length, .sl 1001 0 less.length, .val (.bool false)]⟩),(22,cD [0]),(26,cD (jB less.length j))])
  (fun j=>1≤j∧j≤less.length) (fun j=>less.length - j) 1 ⟨Nat.le_refl _,hn0⟩ (Wk.of ⟨rfl,rfl,rfl,rfl,rfl,aq⟩ ⟨rfl,rfl,rfl,rfl,rfl,by rw [zd];rfl,aq⟩ trivial) ?_
 rintro j ⟨hj1,hj2⟩
 have hbl:(jB less.length j).length=less.length:=fh _ _
 (refine au (au (ah (aa rfl (an rfl rfl) (aa rfl (an rfl rfl) (aa rfl (bF rfl rfl rfl ae) ?_)))));refine aa rfl (bd rfl rfl rfl rfl) (aA (ax ?_)))
 refine bY rfl (fun h=> ?_) (fun h=> ?_)
 ·have hlt:j < less.length:=by omega
  (refine aU (ax (au (aQ (ah (aa rfl (an rfl rfl) (aa rfl (an rfl rfl) ?_))))));apply aa rfl;exact aP rfl rfl rfl rfl rfl ae aY aC aZ;apply aa rfl;exact jK rfl rfl rfl rfl rfl aC ae;refine aA (bp (ax (ah (aa rfl (an rfl rfl) ?_))));apply aa rfl;exact bG rfl rfl rfl bL;refine aa rfl (ay rfl rfl) (aA ?_))
  exact bu (j + 1) ⟨ab,hlt⟩ ab (Wk.of ⟨rfl,rfl,rfl,rfl,rfl,aq⟩ ⟨rfl,rfl,rfl,rfl,rfl,by rw [←yu hj1 hlt];rfl,aq⟩ trivial)
 ·obtain rfl:j=less.length:=by omega
  clear h
  have hb2:jB less.length less.length=(ez less.length).2:=xf hn0 (Nat.le_refl _)
  rw [hb2]
  clear hb2 hbl
  (refine bI (aF (aF (bt (ax (au (au (ah (aa rfl (ay rfl rfl) (aA (ax (aQ ?_))))))))))))
  refine bR (fun q:Nat×jR=>St.of [(2,o1 (.ptr 2 0)),(6,o1 (.ptr 6 0)),(7,o1 (.sl 22 0 q.2.1.length)),(8,o1 (.sl 26 0 less.length)),(10,vv (I6 q.1))] [(1000,cS im),(1001,cD less),(2,⟨true,34,2, .flat [.val (I6 ng), .sl 1003 0 R]⟩),(6,⟨true,108,3, .flat [.sl 1000 0 less.length, .sl 1001 0 less.length, .val (.bool false)]⟩),(22,cD q.2.1),(26,cD q.2.2)])
   (fun q=>q.1≤q.2.1.length∧p7 less.length less q.2∧dw ng im less (less.length + 1 - q.1) q.1 q.2=cq ng im less) (fun q=>less.length + 1 - q.1) (0,ez less.length) ⟨Nat.zero_le _,hts,rfl⟩ (Wk.of ⟨rfl,rfl,rfl,rfl,rfl,aq⟩ ⟨rfl,rfl,rfl,rfl,rfl,rfl,aq⟩ trivial) ?_
  rintro ⟨i,O,M⟩ ⟨hi,htok,hnum⟩
  dsimp only at hi hnum ⊢
  have hOl:O.length≤less.length:=htok.le
  (refine au (au (ah (aa rfl (an rfl rfl) (aa rfl (an rfl rfl) (aa rfl (bF rfl rfl rfl ae) ?_)))));refine aa rfl (bd rfl rfl rfl rfl) (aA (ax ?_)))
  refine bY rfl (fun h=> ?_) (fun h=> ?_)
  ·have hlt:i < O.length:=by omega
   have hnum':dw ng im less (less.length - i) (i + 1) (l4 ng im less i (O,M))=cq ng im less:=by
    rw [←hnum,show less.length + 1 - i=(less.length - i) + 1 by omega]
    exact (oh hlt).symm
   obtain ⟨s0,hs0⟩:∃s0:jR,s0=(O,M):=⟨_,rfl⟩
   obtain ⟨d,hd1,hd2,hd3, -⟩:=htok.live i hlt
   dsimp only at hd1
   have hrow:∀n,n≤ng→p7 less.length less ((List.range n).foldl (dz im less i) s0)∧iR s0 ((List.range n).foldl (dz im less i) s0):=fun n hn=>
    have:=fI hF (i:=i) (s:=s0) (by rw [hs0];exact htok) (by rw [hs0];exact hlt) n hn
    ⟨this.1,this.2.1⟩
   have hfin:dw ng im less (less.length - i) (i + 1) ((List.range ng).foldl (dz im less i) s0)=cq ng im less:=by rw [hs0];exact hnum'
   (refine aU (ax (au (aQ (au (ah (aa rfl (ay rfl rfl) (aA (ax (aQ ?_))))))))))
   refine bR (fun q:Nat×jR=>St.of [(2,o1 (.ptr 2 0)),(6,o1 (.ptr 6 0)),(7,o1 (.sl 22 0 q.2.1.length)),(8,o1 (.sl 26 0 less.length)),(10,vv (I6 i)),(11,vv (I6 q.1))] [(1000,cS im),(1001,cD less),(2,⟨true,34,2, .flat [.val (I6 ng), .sl 1003 0 R]⟩),(6,⟨true,108,3, .flat [.sl 1000 0 less.length, .sl 1001 0 less.length, .val (.bool false)]⟩),(22,cD q.2.1),(26,cD q.2.2)])
    (fun q=>q.1≤ng∧(List.range q.1).foldl (dz im less i) s0=q.2) (fun q=>ng - q.1) (0,s0) ⟨Nat.zero_le _,rfl⟩ (Wk.of (by rw [hs0];exact ⟨rfl,rfl,rfl,rfl,rfl,rfl,aq⟩) (by rw [hs0];exact ⟨rfl,rfl,rfl,rfl,rfl,rfl,aq⟩) trivial) ?_
   have hO0:s0.1.length=O.length:=by rw [hs0]
   have hd0:aD s0.1 i=(d:Int):=by rw [hs0];exact hd1
   clear hnum hnum' htok hs0 hd1
   generalize O.length=on at *
   rintro ⟨g,O,M⟩ ⟨hg,hfo⟩
   dsimp only at hg hfo ⊢
   obtain ⟨tok,grw⟩:=hrow g hg
   rw [hfo] at tok grw
   have hiO:i < O.length:=Nat.lt_of_lt_of_le ab grw.len
   have hOl':O.length≤less.length:=tok.le
   have hML:M.length=less.length:=tok.len
   have hdO:aD O i=(d:Int):=(grw.pre i ab).trans hd0
   have hget:(aV O)[i]? =some (I6 (d:Int)):=by rw [ck hiO,hdO]
   (refine au (au (ah (aa rfl (an rfl rfl) ?_)));apply aa rfl;(exact aB (d:=0) rfl rfl rfl ae);apply aa rfl;exact aN rfl ae rfl rfl rfl rfl;refine aa rfl (bd rfl rfl rfl rfl) (aA (ax ?_)))
   refine bY rfl (fun h2=> ?_) (fun h2=> ?_)
   ·have hgn:g < ng:=by omega
    obtain ⟨e,he1,he2,_⟩:=hF.image hd2 hd3 hgn
    have hI:=iC im less less.length less.length d g false him rfl hF.wf.down ab (by rw [hF.wf.row d ab];exact hgn) (hF.wf.bT d g ab hgn)
    rw [he1] at hI
    have hst:(List.range (g + 1)).foldl (dz im less i) s0=visit (O,M) e:=by
     rw [List.range_succ,List.foldl_append,hfo]
     show visit (O,M) (image im less (aD O i).toNat g).toNat=_
     rw [hdO,Int.toNat_natCast,he1,Int.toNat_natCast]
    (refine aU ?_;refine ax ?_;refine au ?_;refine aQ ?_;refine au ?_)
    apply eC 6 [] [[], [], [], [1,2], [1,2,3], [], [0,1,2,3,4,5], [0,1,2,3,4,5,6]] [48,49,50,51,52,53] [] (by kernel_rfl) (by kernel_rfl)
    ·(apply aE rfl;(intro S1 hS;exact bz rfl (hS.op rfl) (hS.ch _ _ rfl) rfl rfl rfl ae);apply aE rfl;(intro S1 hS;exact an rfl (hS.op rfl));apply aE rfl;(intro S1 hS;exact an rfl (hS.op rfl));apply aE rfl;(intro S1 hS;exact aP rfl (hS.op rfl) (hS.op rfl) (hS.ch _ _ rfl) rfl ae aY aC aZ);apply aE rfl;(intro S1 hS;exact bO rfl ae (hS.op rfl) (hS.ch _ _ rfl) rfl aK);apply aE rfl;(intro S1 hS;exact an rfl (hS.op rfl));exact fJ.nil)
    ·rfl
    ((apply aG 6 rfl ae rfl rfl;(apply aI 90;exact aL hI ae rfl rfl ⟨⟨.inl rfl, .inl rfl, .inl rfl,aq⟩,rfl,rfl,aq⟩ ⟨⟨_,rfl, .inr rfl⟩,⟨_,rfl, .inr rfl⟩,aq⟩ rfl rfl));(apply aG 7 rfl ae rfl rfl;exact ay rfl rfl);(refine bl ae ?_;skip))
    (refine ax (au (ah (aa rfl (an rfl rfl) (aa rfl (an rfl rfl) ?_))));apply aa rfl;exact aP rfl rfl rfl rfl rfl ae aY aC aZ;apply aa rfl;exact bO rfl ae rfl rfl rfl aK;refine aa rfl (bd rfl rfl rfl rfl) (aA (ax ?_)))
    refine bf rfl (fun hc=> ?_) (fun hc=> ?_)
    ·have hneg:aD M e < 0:=by simpa using hc
     have hv:visit (O,M) e=(O ++ [(e:Int)],M.set e (O.length:Int)):=if_pos hneg
     (refine au (ah (aa rfl (an rfl rfl) (aa rfl (an rfl rfl) (aa rfl (an rfl rfl) (aa rfl (bF rfl rfl rfl ae) ?_)))));apply aa rfl;exact aP rfl rfl rfl rfl rfl ae aY aC aZ;apply aa rfl;exact jK rfl rfl rfl rfl rfl aC ae;refine aA (ax (ah (aa rfl (an rfl rfl) (aa rfl (an rfl rfl) ?_))));apply aa rfl;(exact cN (E:=2) rfl ae rfl);apply aa rfl;(exact fo rfl ae rfl rfl rfl (by first | rfl | assumption | (simp;done)) rfl rfl ab);refine aa rfl (ay rfl rfl) (aA (bp (ax (ah (aa rfl (an rfl rfl) ?_)))));apply aa rfl;exact bG rfl rfl rfl bL;refine aa rfl (ay rfl rfl) (aA ?_))
     exact bu (g + 1,(O ++ [(e:Int)],M.set e (O.length:Int))) ⟨hgn,hst.trans hv⟩ (by show ng - (g + 1) < ng - g;omega) (Wk.of ⟨rfl,rfl,by simp;rfl,rfl,rfl,rfl,aq⟩ ⟨rfl,rfl,rfl,rfl,rfl,rfl,aq⟩ trivial)
    ·have hneg:¬aD M e < 0:=by simpa using hc
     have hv:visit (O,M) e=(O,M):=if_neg hneg
     (refine aU (bp (ax (ah (aa rfl (an rfl rfl) ?_))));apply aa rfl;exact bG rfl rfl rfl bL;refine aa rfl (ay rfl rfl) (aA ?_))
     exact bu (g + 1,(O,M)) ⟨hgn,hst.trans hv⟩ (by show ng - (g + 1) < ng - g;omega) (Wk.of ⟨rfl,rfl,rfl,rfl,rfl,rfl,aq⟩ ⟨rfl,rfl,rfl,rfl,rfl,rfl,aq⟩ trivial)
   ·obtain rfl:g=ng:=by omega
    (refine bI (aF (aF (bt (bp (ax (ah (aa rfl (an rfl rfl) ?_)))))));apply aa rfl;exact bG rfl rfl rfl bL;refine aa rfl (ay rfl rfl) (aA ?_))
    exact bu (i + 1,(O,M)) ⟨hiO,tok,by rw [←hfin,hfo];show dw _ _ _ (less.length + 1 - (i + 1)) _ _=_;rw [show less.length + 1 - (i + 1)=less.length - i by omega]⟩ (by show less.length + 1 - (i + 1) < less.length + 1 - i;omega) (Wk.of ⟨rfl,rfl,rfl,rfl,rfl,aq⟩ ⟨rfl,rfl,rfl,rfl,rfl,rfl,aq⟩ trivial)
  ·have hio:i=O.length:=by omega
   have hOM:cq ng im less=(O,M):=by
    rw [←hnum,show less.length + 1 - i=(less.length - i) + 1 by omega,dw,if_neg (by show ¬i < O.length;omega)]
   have hML:M.length=less.length:=htok.len
   have htb:=r8 ng im less
   rw [hOM] at htb
   dsimp only at htb
   rw [htb]
   clear hnum h htb hio hi
   (refine bI (aF (aF (bt (ax (au (ah ?_))))));apply aa rfl;(exact AR (E:=24) (F:=2) rfl ae);refine aa rfl (ay rfl rfl) (aA (ax (au (au (ah (aa rfl (ay rfl rfl) (aA (ax (aQ ?_))))))))))
   refine bR (fun g:Nat=>St.of [(2,o1 (.ptr 2 0)),(6,o1 (.ptr 6 0)),(7,o1 (.sl 22 0 O.length)),(8,o1 (.sl 26 0 less.length)),(13,o1 (.sl 69 0 g)),(14,vv (I6 g))] [(1000,cS im),(1001,cD less),(2,⟨true,34,2, .flat [.val (I6 ng), .sl 1003 0 R]⟩),(6,⟨true,108,3, .flat [.sl 1000 0 less.length, .sl 1001 0 less.length, .val (.bool false)]⟩),(22,cD O),(26,cD M),(69,cS ((List.range g).map fun g=>(List.range O.length).map (iV im less (O,M) g)))])
    (fun g=>g≤ng) (fun g=>ng - g) 0 (Nat.zero_le _) (Wk.of ⟨rfl,rfl,rfl,rfl,rfl,rfl,aq⟩ ⟨rfl,rfl,rfl,rfl,rfl,rfl,rfl,aq⟩ trivial) ?_
   intro g hg
   (refine au (au (ah (aa rfl (an rfl rfl) ?_)));apply aa rfl;(exact aB (d:=0) rfl rfl rfl ae);apply aa rfl;exact aN rfl ae rfl rfl rfl rfl;refine aa rfl (bd rfl rfl rfl rfl) (aA (ax ?_)))
   refine bY rfl (fun h2=> ?_) (fun h2=> ?_)
   ·have hgn:g < ng:=by omega
    (refine aU (ax (au (aQ (au (ah ?_)))));apply aa rfl;(exact wg (E:=2) (k:=1) rfl ae);refine aa rfl (ay rfl rfl) (aA (ax (au (au (ah (aa rfl (ay rfl rfl) (aA (ax (aQ ?_))))))))))
    refine bR (fun k:Nat=>St.of [(2,o1 (.ptr 2 0)),(6,o1 (.ptr 6 0)),(7,o1 (.sl 22 0 O.length)),(8,o1 (.sl 26 0 less.length)),(13,o1 (.sl 69 0 g)),(14,vv (I6 g)),(15,o1 (.sl 76 0 k)),(16,vv (I6 k))] [(1000,cS im),(1001,cD less),(2,⟨true,34,2, .flat [.val (I6 ng), .sl 1003 0 R]⟩),(6,⟨true,108,3, .flat [.sl 1000 0 less.length, .sl 1001 0 less.length, .val (.bool false)]⟩),(22,cD O),(26,cD M),(69,cS ((List.range g).map fun g=>(List.range O.length).map (iV im less (O,M) g))),(76,cD ((List.range k).map (iV im less (O,M) g)))])
     (fun k=>k≤O.length) (fun k=>O.length - k) 0 (Nat.zero_le _) (Wk.of ⟨rfl,rfl,rfl,rfl,rfl,rfl,rfl,rfl,aq⟩ ⟨rfl,rfl,rfl,rfl,rfl,rfl,rfl,rfl,aq⟩ trivial) ?_
    intro k hk
    (refine au (au (ah (aa rfl (an rfl rfl) (aa rfl (an rfl rfl) (aa rfl (bF rfl rfl rfl ae) ?_)))));refine aa rfl (bd rfl rfl rfl rfl) (aA (ax ?_)))
    refine bY rfl (fun h3=> ?_) (fun h3=> ?_)
    ·have hkO:k < O.length:=by omega
     obtain ⟨d,hd1,hd2,hd3, -⟩:=htok.live k hkO
     dsimp only at hd1
     obtain ⟨e,he1,he2,_⟩:=hF.image hd2 hd3 hgn
     have hI:=iC im less less.length less.length d g false him rfl hF.wf.down ab (by rw [hF.wf.row d ab];exact hgn) (hF.wf.bT d g ab hgn)
     rw [he1] at hI
     have hget:(aV O)[k]? =some (I6 (d:Int)):=by rw [ck hkO,hd1]
     have htc:iV im less (O,M) g k=aD M e:=by unfold iV;dsimp only;rw [hd1,Int.toNat_natCast,he1,Int.toNat_natCast]
     have hkl:((List.range k).map (iV im less (O,M) g)).length=k:=by simp
     (refine aU ?_;refine ax ?_;refine au ?_;refine aQ ?_)
     apply eC 12 [] [[], [], [], [], [], [3,4], [3,4,5], [], [2,3,4,5,6,7], [1,2,3,4,5,6,7,8], [1,2,3,4,5,6,7,8,9], [1,2,3,4,5,6,7,8,9,10], [0,1,2,3,4,5,6,7,8,9,10,11], [0,1,2,3,4,5,6,7,8,9,10,11,12]] [83,84,85,86,87,88,89,90,91,92,93,94] [94] (by kernel_rfl) (by kernel_rfl)
     ·(apply aE rfl;(intro S1 hS;exact an rfl (hS.op rfl));apply aE rfl;(intro S1 hS;exact an rfl (hS.op rfl));apply aE rfl;(intro S1 hS;exact bz rfl (hS.op rfl) (hS.ch _ _ rfl) rfl rfl rfl ae);apply aE rfl;(intro S1 hS;exact an rfl (hS.op rfl));apply aE rfl;(intro S1 hS;exact an rfl (hS.op rfl));apply aE rfl;(intro S1 hS;exact aP rfl (hS.op rfl) (hS.op rfl) (hS.ch _ _ rfl) rfl ae aY aC aZ);apply aE rfl;(intro S1 hS;exact bO rfl ae (hS.op rfl) (hS.ch _ _ rfl) rfl aK);apply aE rfl;(intro S1 hS;exact an rfl (hS.op rfl));(apply aE rfl;(focus (intro S1 hS;apply aI 90;exact aL hI ae rfl (dG hS rfl) ⟨⟨.inl rfl, .inl rfl, .inl rfl,aq⟩,rfl,rfl,aq⟩ (cL hS ⟨⟨_,rfl, .inr rfl⟩,⟨_,rfl, .inr rfl⟩,aq⟩) rfl rfl)));apply aE rfl;(intro S1 hS;exact aP rfl (hS.op rfl) (hS.op rfl) (hS.ch _ _ rfl) rfl ae aY aC aZ);apply aE rfl;(intro S1 hS;exact bO rfl ae (hS.op rfl) (hS.ch _ _ rfl) rfl aK);apply ju rfl;(intro S1 hS;exact cN (E:=2) rfl ae (hS.op rfl));exact fJ.nil)
     ·rfl
     ((apply aG 12 rfl ae rfl rfl;(exact fo rfl ae rfl rfl rfl (by first | rfl | assumption | (simp;done)) rfl rfl ab));(apply aG 13 rfl ae rfl rfl;exact ay rfl rfl);(refine bl ae ?_;skip))
     (refine bp (ax (ah (aa rfl (an rfl rfl) ?_)));apply aa rfl;exact bG rfl rfl rfl bL;refine aa rfl (ay rfl rfl) (aA ?_))
     exact bu (k + 1) hkO ab (Wk.of ⟨rfl,rfl,rfl,rfl,rfl,rfl,rfl,rfl,aq⟩ ⟨rfl,rfl,rfl,rfl,rfl,rfl,rfl,by rw [List.range_succ,List.map_append,List.map_singleton,htc];rfl,aq⟩ trivial)
    ·obtain rfl:k=O.length:=by omega
     have hgl:((List.range g).map fun g=>(List.range O.length).map (iV im less (O,M) g)).length=g:=by simp
     have hkl:((List.range O.length).map (iV im less (O,M) g)).length=O.length:=by simp
     (refine bI (aF (aF (bt (ax (ah (aa rfl (an rfl rfl) (aa rfl (an rfl rfl) ?_)))))));apply aa rfl;(exact rC (E:=24) rfl ae rfl rfl rfl);apply aa rfl;(exact lO rfl ae rfl rfl (by first | rfl | assumption | (simp;done)) rfl rfl rfl (by first | rfl | assumption | (simp;done)) rfl ab);refine aa rfl (ay rfl rfl) (aA (bp (ax (ah (aa rfl (an rfl rfl) ?_)))));apply aa rfl;exact bG rfl rfl rfl bL;refine aa rfl (ay rfl rfl) (aA ?_))
     exact bu (g + 1) hgn ab (Wk.of ⟨rfl,rfl,rfl,rfl,rfl,rfl,aq⟩ ⟨rfl,rfl,rfl,rfl,rfl,rfl,by rw [List.range_succ (n:=g),List.map_append];rfl,aq⟩ trivial)
   ·obtain rfl:g=ng:=by omega
    (refine bI (aF (aF (bt (ax (au (ah (aa rfl (an rfl rfl) (aa rfl (ay rfl rfl) (aa rfl (ay rfl rfl) (aA (ax ?_)))))))))));refine bw ?_)
    exact dJ (.inl rfl) rfl (.tmp rfl) (.tmp rfl) ⟨rfl,aq⟩ trivial
end Go.Proofs.Ytfpcfckocmmcnaa
namespace Go.Proofs.Ytfpcfckocmmcnaa
open Go.RowKit
abbrev I7 (m n:Nat) (b:Bool):List A1:= [.sl 1000 0 m, .sl 1001 0 n, .val (.bool b)]
abbrev Dk (m n:Nat) (b:Bool):Ch:=⟨false,89,3, .flat (I7 m n b)⟩
abbrev nJ (m n:Nat) (b:Bool):Ch:=⟨true,89,3, .flat (I7 m n b)⟩
theorem ra (im:List (List Int)) (less:List Int) (m n c:Nat) (b:Bool) (hn:less.length=n) (hd:Down less) (hc:c < less.length):
  FC Try.prog 93 [(1010,Dk m n b),(1000,AY im),(1001,zk less)] [o1 (.ptr 1010 0),vv (I6 c)] [] (vv (I6 (root less c))) []:=by
 subst hn
 refine cu (nt:=22) Try.func93 rfl rfl (by simp) fun w0 ω0=> ?_
 (refine au (ah (aa rfl (ay rfl rfl) (aA (ax (au (aQ ?_)))))))
 refine bR (fun k:Nat=>St.of [(0,o1 (.ptr 1010 0)),(1,vv (I6 k))] [(1010,Dk m less.length b),(1001,zk less)]) (fun k=>k < less.length∧root less k=root less c) (fun k=>k) c ⟨hc,rfl⟩ (Wk.of ⟨rfl,rfl,aq⟩ ⟨rfl,rfl,aq⟩ trivial) ?_
 rintro k ⟨hk,hr⟩
 (refine au (au (ah (aa rfl (an rfl rfl) (aa rfl (bH rfl rfl rfl) ?_))));apply aa rfl;(exact aB (d:=1) rfl rfl rfl ae);apply aa rfl;exact aN rfl ae rfl rfl rfl rfl;apply aa rfl;exact an rfl rfl;apply aa rfl;exact aP rfl rfl rfl rfl rfl ae aY aC aZ;apply aa rfl;exact bO rfl ae rfl rfl rfl aK;refine aa rfl (an rfl rfl) (aa rfl (bd rfl rfl rfl rfl) (aA (ax ?_))))
 have hk2:=hd k hk
 refine bf rfl (fun h=> ?_) (fun h=> ?_)
 ·have hne:aD less k≠k:=by simpa using h
  have hz:aD less k=(((aD less k).toNat:Nat):Int):=(Int.toNat_of_nonneg hk2.1).symm
  (refine aU (ax (aQ (ah (aa rfl (an rfl rfl) (aa rfl (bH rfl rfl rfl) ?_)))));apply aa rfl;(exact aB (d:=1) rfl rfl rfl ae);apply aa rfl;exact aN rfl ae rfl rfl rfl rfl;apply aa rfl;exact an rfl rfl;apply aa rfl;exact aP rfl rfl rfl rfl rfl ae aY aC aZ;apply aa rfl;exact bO rfl ae rfl rfl rfl aK;refine aa rfl (ay rfl rfl) (aA (bp ?_)))
  exact bu (aD less k).toNat ⟨ab,(fO hd hk hne).symm.trans hr⟩ ab (Wk.of ⟨rfl,congrArg (fun z=>some (vv (I6 z))) hz,aq⟩ ⟨rfl,rfl,aq⟩ trivial)
 ·have he:aD less k=k:=by simpa using h
  have e:k=root less c:=by rw [←hr,de he]
  (refine bI (aF (aF (bt (ax (au (ah (aa rfl (an rfl rfl) (aa rfl (ay rfl rfl) (aA (ax (bw ?_))))))))))))
  exact bQ (.inl rfl) rfl (.tmp (congrArg (fun z:Nat=>some (vv (I6 z))) e)) trivial trivial
theorem mi (im:List (List Int)) (less:List Int) (m n c g:Nat) (b:Bool) (hm:im.length=m) (hn:less.length=n) (hd:Down less) (hc:c < im.length) (hg:g < (aT im c).length) (he:bT im c g < less.length):
  FC Try.prog 75 [(1010,Dk m n b),(1000,AY im),(1001,zk less)] [o1 (.ptr 1010 0),vv (I6 c),vv (I6 g)] [] (vv (I6 (image im less c g))) []:=by
 subst hm hn
 refine cu (nt:=23) Try.func75 rfl rfl (by simp) fun w0 ω0=> ?_
 (refine au (ah (aa rfl (ay rfl rfl) (aA (ax (au (au (ah (aa rfl (an rfl rfl) (aa rfl (bH rfl rfl rfl) ?_)))))))));apply aa rfl;(exact aB (d:=0) rfl rfl rfl ae);apply aa rfl;exact aN rfl ae rfl rfl rfl rfl;apply aa rfl;exact an rfl rfl;apply aa rfl;exact aP rfl rfl rfl rfl rfl ae aY aC aZ;apply aa rfl;exact aM rfl ae rfl rfl rfl aK df;apply aa rfl;exact an rfl rfl;apply aa rfl;exact bn rfl rfl rfl rfl rfl ae aK aY aC aZ;apply aa rfl;exact br rfl ae rfl rfl rfl aK aK;refine aa rfl (ay rfl rfl) (aA (ax (au (ah (aa rfl (an rfl rfl) (aa rfl (bd rfl rfl rfl rfl) (aA (ax ?_)))))))))
 refine bf rfl (fun h=> ?_) (fun h=> ?_)
 ·have h:¬bT im c g < 0:=by unfold bT;simp at h;omega
  have e:image im less c g=root less (bT im c g).toNat:=if_neg h
  have hF:=ra im less im.length less.length (bT im c g).toNat b rfl hd ab
  have hz:aD (aT im c) g=(((bT im c g).toNat:Nat):Int):=(Int.toNat_of_nonneg (show 0≤aD (aT im c) g from Int.not_lt.1 h)).symm
  (refine au (ah (aa rfl (an rfl rfl) (aa rfl (an rfl rfl) ?_)));apply aa rfl;(apply aI 93;exact aL hF ae rfl rfl ⟨rfl,congrArg (fun z=>vv (I6 z)) hz,aq⟩ ⟨⟨_,rfl, .inl rfl⟩,⟨_,rfl, .inl rfl⟩,⟨_,rfl, .inl rfl⟩,aq⟩ rfl rfl);refine aa rfl (ay rfl rfl) (aA (ax (bw (aJ ?_)))))
  exact bQ (.inl rfl) rfl (.tmp (congrArg (fun z=>some (vv (I6 z))) e.symm)) trivial trivial
 ·have h:bT im c g < 0:=by unfold bT;simp at h;omega
  have e:image im less c g= -1:=if_pos h
  (refine aU (ax (au (ah (aa rfl (ay rfl rfl) (aA (ax (bw ?_))))))))
  exact bQ (.inl rfl) rfl (.tmp (congrArg (fun z=>some (vv (I6 z))) e.symm)) trivial trivial
theorem xR (im:List (List Int)) (less:List Int) (m n c d g:Nat) (b:Bool) (hm:im.length=m) (hc:c < im.length) (hg:g < (aT im c).length) (hdl:d < im.length) (hg2:g < (aT im d).length):
  FC Try.prog 92 [(1010,nJ m n b),(1000,cS im),(1001,cD less)] [o1 (.ptr 1010 0),vv (I6 c),vv (I6 d),vv (I6 g)] [(1010,nJ m n b),(1000,cS (eo (eo im c g d) d g c)),(1001,cD less)] (.tup []) [(0,o1 (.ptr 1010 0))]:=by
 subst hm
 have hrr:(aT (eo im c g (d:Int)) d).length=(aT im d).length:=iA _ _ _ _ _
 have hg3:g < (aT (eo im c g (d:Int)) d).length:=by rw [iA];exact hg2
 have hd3:d < (eo im c g (d:Int)).length:=by rw [dE];exact hdl
 refine cu (nt:=28) Try.func92 rfl rfl (by simp) fun w0 ω0=> ?_
 (skip)
 refine jx (St.of [] [(1010,nJ im.length n b),(1000,cS (eo (eo im c g d) d g c)),(1001,cD less)] [(0,o1 (.ptr 1010 0))]) ?_ ?_
 ·apply zq 18 [] [15,17] [[], [0], [0,1], [0,1,2], [], [0,1,2,3,4], [0,1,2,3,4,5], [], [], [8], [8,9], [8,9,10], [], [8,9,10,11,12], [8,9,10,11,12,13], [], [], [], [0,1,2,3,4,5,6,7,8,9,10,11,12,13,14,16], [0,1,2,3,4,5,6,7,8,9,10,11,12,13,14,16,18], [0,1,2,3,4,5,6,7,8,9,10,11,12,13,14,15,16,17,18,19], [0,1,2,3,4,5,6,7,8,9,10,11,12,13,14,15,16,17,18,19,20]] [8,9,10,11,12,13,14,15,16,17,18,19,20,21,22,23,24,25] [] (by kernel_rfl) (by kernel_rfl) (by kernel_rfl)
  ·(apply aE rfl;(intro S1 hS;exact an rfl (hS.op rfl));apply aE rfl;(intro S1 hS;exact bH rfl (hS.op rfl) (hS.ch _ _ rfl));apply aE rfl;(intro S1 hS;exact aB (d:=0) rfl (hS.op rfl) (hS.ch _ _ rfl) ae);apply aE rfl;(intro S1 hS;exact aN rfl ae (hS.op rfl) (hS.ch _ _ rfl) rfl rfl);apply aE rfl;(intro S1 hS;exact an rfl (hS.op rfl));apply aE rfl;(intro S1 hS;exact aP rfl (hS.op rfl) (hS.op rfl) (hS.ch _ _ rfl) rfl ae aY aC aZ);apply aE rfl;(intro S1 hS;exact aM rfl ae (hS.op rfl) (hS.ch _ _ rfl) rfl aK df);apply aE rfl;(intro S1 hS;exact an rfl (hS.op rfl));apply aE rfl;(intro S1 hS;exact an rfl (hS.op rfl));apply aE rfl;(intro S1 hS;exact bH rfl (hS.op rfl) (hS.ch _ _ rfl));apply aE rfl;(intro S1 hS;exact aB (d:=0) rfl (hS.op rfl) (hS.ch _ _ rfl) ae);apply aE rfl;(intro S1 hS;exact aN rfl ae (hS.op rfl) (hS.ch _ _ rfl) rfl rfl);apply aE rfl;(intro S1 hS;exact an rfl (hS.op rfl));apply aE rfl;(intro S1 hS;exact aP rfl (hS.op rfl) (hS.op rfl) (hS.ch _ _ rfl) rfl ae aY aC aZ);apply aE rfl;(intro S1 hS;exact aM rfl ae (hS.op rfl) (hS.ch _ _ rfl) rfl aK df);apply aE rfl;(intro S1 hS;exact an rfl (hS.op rfl));apply aE rfl;(intro S1 hS;exact an rfl (hS.op rfl));apply aE rfl;(intro S1 hS;exact an rfl (hS.op rfl));exact fJ.nil)
  ·rfl
  refine ⟨⟨?_, ?_⟩, ?_, ?_⟩
  ·((apply aG 18 rfl ae rfl rfl;exact bn rfl rfl rfl rfl rfl ae aK aY aC aZ);(apply aG 19 rfl ae rfl rfl;exact ct rfl rfl rfl rfl rfl aC aC ae);(apply aG 20 rfl ae rfl rfl;exact bn rfl rfl rfl rfl rfl ae aK aY aC aZ);(apply aG 21 rfl ae rfl rfl;exact ct rfl rfl rfl rfl rfl aC aC ae);(refine bl ae ?_;exact bB (Wk.of trivial ⟨rfl,rfl,rfl,aq⟩ ⟨rfl,aq⟩)))
  ·((apply cG 17 18 rfl ae rfl rfl rfl rfl;exact an rfl rfl;exact bn rfl rfl rfl rfl rfl ae aK aY aC aZ;(focus ((apply aG 18 rfl ae rfl rfl;exact bn rfl rfl rfl rfl rfl ae aK aY aC aZ);(apply aG 19 rfl ae rfl rfl;exact ct rfl rfl rfl rfl rfl aC aC ae);(apply aG 20 rfl ae rfl rfl;exact bn rfl rfl rfl rfl rfl ae aK aY aC aZ);(apply aG 21 rfl ae rfl rfl;exact ct rfl rfl rfl rfl rfl aC aC ae);(refine bl ae ?_;exact bB (Wk.of trivial ⟨rfl,rfl,rfl,aq⟩ ⟨rfl,aq⟩))));(focus ((apply cG 17 19 rfl ae rfl rfl rfl rfl;exact an rfl rfl;exact ct rfl rfl rfl rfl rfl aC aC ae;(focus ((apply aG 19 rfl ae rfl rfl;exact ct rfl rfl rfl rfl rfl aC aC ae);(apply aG 20 rfl ae rfl rfl;exact bn rfl rfl rfl rfl rfl ae aK aY aC aZ);(apply aG 21 rfl ae rfl rfl;exact ct rfl rfl rfl rfl rfl aC aC ae);(refine bl ae ?_;exact bB (Wk.of trivial ⟨rfl,rfl,rfl,aq⟩ ⟨rfl,aq⟩))));(focus ((apply aG 17 rfl ae rfl rfl;exact an rfl rfl);(apply aG 20 rfl ae rfl rfl;exact bn rfl rfl rfl rfl rfl ae aK aY aC aZ);(apply aG 21 rfl ae rfl rfl;exact ct rfl rfl rfl rfl rfl aC aC ae);(refine bl ae ?_;exact bB (Wk.of trivial ⟨rfl,rfl,rfl,aq⟩ ⟨rfl,aq⟩)))))))))
  ·((apply cG 15 18 rfl ae rfl rfl rfl rfl;exact an rfl rfl;exact bn rfl rfl rfl rfl rfl ae aK aY aC aZ;(focus ((apply aG 18 rfl ae rfl rfl;exact bn rfl rfl rfl rfl rfl ae aK aY aC aZ);(apply aG 19 rfl ae rfl rfl;exact ct rfl rfl rfl rfl rfl aC aC ae);(apply aG 20 rfl ae rfl rfl;exact bn rfl rfl rfl rfl rfl ae aK aY aC aZ);(apply aG 21 rfl ae rfl rfl;exact ct rfl rfl rfl rfl rfl aC aC ae);(refine bl ae ?_;exact bB (Wk.of trivial ⟨rfl,rfl,rfl,aq⟩ ⟨rfl,aq⟩))));(focus ((apply cG 15 19 rfl ae rfl rfl rfl rfl;exact an rfl rfl;exact ct rfl rfl rfl rfl rfl aC aC ae;(focus ((apply aG 19 rfl ae rfl rfl;exact ct rfl rfl rfl rfl rfl aC aC ae);(apply aG 20 rfl ae rfl rfl;exact bn rfl rfl rfl rfl rfl ae aK aY aC aZ);(apply aG 21 rfl ae rfl rfl;exact ct rfl rfl rfl rfl rfl aC aC ae);(refine bl ae ?_;exact bB (Wk.of trivial ⟨rfl,rfl,rfl,aq⟩ ⟨rfl,aq⟩))));(focus ((apply aG 15 rfl ae rfl rfl;exact an rfl rfl);(apply aG 20 rfl ae rfl rfl;exact bn rfl rfl rfl rfl rfl ae aK aY aC aZ);(apply aG 21 rfl ae rfl rfl;exact ct rfl rfl rfl rfl rfl aC aC ae);(refine bl ae ?_;exact bB (Wk.of trivial ⟨rfl,rfl,rfl,aq⟩ ⟨rfl,aq⟩)))))))))
  ·((apply mP 15 17 18 rfl ae rfl rfl rfl rfl rfl rfl;exact an rfl rfl;exact an rfl rfl;exact bn rfl rfl rfl rfl rfl ae aK aY aC aZ;(focus ((apply cG 17 18 rfl ae rfl rfl rfl rfl;exact an rfl rfl;exact bn rfl rfl rfl rfl rfl ae aK aY aC aZ;(focus ((apply aG 18 rfl ae rfl rfl;exact bn rfl rfl rfl rfl rfl ae aK aY aC aZ);(apply aG 19 rfl ae rfl rfl;exact ct rfl rfl rfl rfl rfl aC aC ae);(apply aG 20 rfl ae rfl rfl;exact bn rfl rfl rfl rfl rfl ae aK aY aC aZ);(apply aG 21 rfl ae rfl rfl;exact ct rfl rfl rfl rfl rfl aC aC ae);(refine bl ae ?_;exact bB (Wk.of trivial ⟨rfl,rfl,rfl,aq⟩ ⟨rfl,aq⟩))));(focus ((apply cG 17 19 rfl ae rfl rfl rfl rfl;exact an rfl rfl;exact ct rfl rfl rfl rfl rfl aC aC ae;(focus ((apply aG 19 rfl ae rfl rfl;exact ct rfl rfl rfl rfl rfl aC aC ae);(apply aG 20 rfl ae rfl rfl;exact bn rfl rfl rfl rfl rfl ae aK aY aC aZ);(apply aG 21 rfl ae rfl rfl;exact ct rfl rfl rfl rfl rfl aC aC ae);(refine bl ae ?_;exact bB (Wk.of trivial ⟨rfl,rfl,rfl,aq⟩ ⟨rfl,aq⟩))));(focus ((apply aG 17 rfl ae rfl rfl;exact an rfl rfl);(apply aG 20 rfl ae rfl rfl;exact bn rfl rfl rfl rfl rfl ae aK aY aC aZ);(apply aG 21 rfl ae rfl rfl;exact ct rfl rfl rfl rfl rfl aC aC ae);(refine bl ae ?_;exact bB (Wk.of trivial ⟨rfl,rfl,rfl,aq⟩ ⟨rfl,aq⟩))))))))));(focus ((apply cG 15 18 rfl ae rfl rfl rfl rfl;exact an rfl rfl;exact bn rfl rfl rfl rfl rfl ae aK aY aC aZ;(focus ((apply aG 18 rfl ae rfl rfl;exact bn rfl rfl rfl rfl rfl ae aK aY aC aZ);(apply aG 19 rfl ae rfl rfl;exact ct rfl rfl rfl rfl rfl aC aC ae);(apply aG 20 rfl ae rfl rfl;exact bn rfl rfl rfl rfl rfl ae aK aY aC aZ);(apply aG 21 rfl ae rfl rfl;exact ct rfl rfl rfl rfl rfl aC aC ae);(refine bl ae ?_;exact bB (Wk.of trivial ⟨rfl,rfl,rfl,aq⟩ ⟨rfl,aq⟩))));(focus ((apply cG 15 19 rfl ae rfl rfl rfl rfl;exact an rfl rfl;exact ct rfl rfl rfl rfl rfl aC aC ae;(focus ((apply aG 19 rfl ae rfl rfl;exact ct rfl rfl rfl rfl rfl aC aC ae);(apply aG 20 rfl ae rfl rfl;exact bn rfl rfl rfl rfl rfl ae aK aY aC aZ);(apply aG 21 rfl ae rfl rfl;exact ct rfl rfl rfl rfl rfl aC aC ae);(refine bl ae ?_;exact bB (Wk.of trivial ⟨rfl,rfl,rfl,aq⟩ ⟨rfl,aq⟩))));(focus ((apply aG 15 rfl ae rfl rfl;exact an rfl rfl);(apply aG 20 rfl ae rfl rfl;exact bn rfl rfl rfl rfl rfl ae aK aY aC aZ);(apply aG 21 rfl ae rfl rfl;exact ct rfl rfl rfl rfl rfl aC aC ae);(refine bl ae ?_;exact bB (Wk.of trivial ⟨rfl,rfl,rfl,aq⟩ ⟨rfl,aq⟩))))))))));(focus ((apply mP 15 17 19 rfl ae rfl rfl rfl rfl rfl rfl;exact an rfl rfl;exact an rfl rfl;exact ct rfl rfl rfl rfl rfl aC aC ae;(focus ((apply cG 17 19 rfl ae rfl rfl rfl rfl;exact an rfl rfl;exact ct rfl rfl rfl rfl rfl aC aC ae;(focus ((apply aG 19 rfl ae rfl rfl;exact ct rfl rfl rfl rfl rfl aC aC ae);(apply aG 20 rfl ae rfl rfl;exact bn rfl rfl rfl rfl rfl ae aK aY aC aZ);(apply aG 21 rfl ae rfl rfl;exact ct rfl rfl rfl rfl rfl aC aC ae);(refine bl ae ?_;exact bB (Wk.of trivial ⟨rfl,rfl,rfl,aq⟩ ⟨rfl,aq⟩))));(focus ((apply aG 17 rfl ae rfl rfl;exact an rfl rfl);(apply aG 20 rfl ae rfl rfl;exact bn rfl rfl rfl rfl rfl ae aK aY aC aZ);(apply aG 21 rfl ae rfl rfl;exact ct rfl rfl rfl rfl rfl aC aC ae);(refine bl ae ?_;exact bB (Wk.of trivial ⟨rfl,rfl,rfl,aq⟩ ⟨rfl,aq⟩)))))));(focus ((apply cG 15 19 rfl ae rfl rfl rfl rfl;exact an rfl rfl;exact ct rfl rfl rfl rfl rfl aC aC ae;(focus ((apply aG 19 rfl ae rfl rfl;exact ct rfl rfl rfl rfl rfl aC aC ae);(apply aG 20 rfl ae rfl rfl;exact bn rfl rfl rfl rfl rfl ae aK aY aC aZ);(apply aG 21 rfl ae rfl rfl;exact ct rfl rfl rfl rfl rfl aC aC ae);(refine bl ae ?_;exact bB (Wk.of trivial ⟨rfl,rfl,rfl,aq⟩ ⟨rfl,aq⟩))));(focus ((apply aG 15 rfl ae rfl rfl;exact an rfl rfl);(apply aG 20 rfl ae rfl rfl;exact bn rfl rfl rfl rfl rfl ae aK aY aC aZ);(apply aG 21 rfl ae rfl rfl;exact ct rfl rfl rfl rfl rfl aC aC ae);(refine bl ae ?_;exact bB (Wk.of trivial ⟨rfl,rfl,rfl,aq⟩ ⟨rfl,aq⟩)))))));(focus ((apply cG 15 17 rfl ae rfl rfl rfl rfl;exact an rfl rfl;exact an rfl rfl;(focus ((apply aG 17 rfl ae rfl rfl;exact an rfl rfl);(apply aG 20 rfl ae rfl rfl;exact bn rfl rfl rfl rfl rfl ae aK aY aC aZ);(apply aG 21 rfl ae rfl rfl;exact ct rfl rfl rfl rfl rfl aC aC ae);(refine bl ae ?_;exact bB (Wk.of trivial ⟨rfl,rfl,rfl,aq⟩ ⟨rfl,aq⟩))));(focus ((apply aG 15 rfl ae rfl rfl;exact an rfl rfl);(apply aG 20 rfl ae rfl rfl;exact bn rfl rfl rfl rfl rfl ae aK aY aC aZ);(apply aG 21 rfl ae rfl rfl;exact ct rfl rfl rfl rfl rfl aC aC ae);(refine bl ae ?_;exact bB (Wk.of trivial ⟨rfl,rfl,rfl,aq⟩ ⟨rfl,aq⟩))))))))))))
 ·exact iE (.inr rfl) rfl ⟨rfl,rfl,rfl,aq⟩ ⟨rfl,aq⟩
end Go.Proofs.Ytfpcfckocmmcnaa
namespace Go.Proofs.Ytfpcfckocmmcnaa
open Go.RowKit
theorem nN (x n:Nat):FC Try.prog 73 [] [o1 (.sl x 0 n)] [] (vv (I6 n)) []:=by
 refine cu (nt:=5) Try.func73 rfl rfl (by simp) fun w0 ω0=> ?_
 (refine au (ah (aa rfl (ay rfl rfl) (aA (ax (au (ah (aa rfl (an rfl rfl) (aa rfl (bF rfl rfl rfl ae) ?_))))))));refine aa rfl (ay rfl rfl) (aA (ax (bw ?_))))
 exact bQ (.inl rfl) rfl (.tmp rfl) trivial trivial
theorem Da (x n:Nat):FC Try.prog 39 [] [o1 (.sl x 0 n)] [] (vv (I6 n)) []:=by
 refine cu (nt:=5) Try.func39 rfl rfl (by simp) fun w0 ω0=> ?_
 (refine au (ah (aa rfl (ay rfl rfl) (aA (ax (au (ah (aa rfl (an rfl rfl) (aa rfl (bF rfl rfl rfl ae) ?_))))))));refine aa rfl (ay rfl rfl) (aA (ax (bw ?_))))
 exact bQ (.inl rfl) rfl (.tmp rfl) trivial trivial
theorem qG (x i n:Nat):FC Try.prog 39 [] [o1 (.esl x i 0 n)] [] (vv (I6 n)) []:=by
 refine cu (nt:=5) Try.func39 rfl rfl (by simp) fun w0 ω0=> ?_
 (refine au (ah (aa rfl (ay rfl rfl) (aA (ax (au (ah (aa rfl (an rfl rfl) (aa rfl (bF rfl rfl rfl ae) ?_))))))));refine aa rfl (ay rfl rfl) (aA (ax (bw ?_))))
 exact bQ (.inl rfl) rfl (.tmp rfl) trivial trivial
theorem wa (z:Int):∀n,dM [z] n=List.replicate n z:=fun n=>by
 unfold dM
 induction n with
 | zero=>rfl
 | succ n ih=>simp [List.replicate_succ] at ih ⊢
theorem Ep {α:Type} (x:Nat) (c:α):lk x [(x,c)]=some c:=by simp [lk]
theorem mJ (x y n:Nat) (z:Int) (hn:n≤1048576) (hn0:0 < n):
  FC Try.prog 53 [(x,⟨false,2,1, .cz (aV [z])⟩)] [o1 (.sl x 0 1),vv (I6 n)] [(y,⟨true,2,1, .cz (aV (List.replicate n z))⟩)] (o1 (.sl y 0 n)) []:=by
 have h:=AW (P:=Try.prog) (f:=53) (ins:= [(x,⟨false,2,1, .cz (aV [z])⟩)]) (args:= [o1 (.sl x 0 1),vv (I6 n)]) (x:=y) (E:=2) (zs:=List.replicate n z) fun w η ω us hm hd=>by
  obtain ⟨hl,ha⟩:=hd
  obtain ⟨u0,h0,d0⟩:=ha 0 _ rfl
  obtain ⟨u1,h1,d1⟩:=ha 1 _ rfl
  obtain ⟨ao,c,e0,hi⟩:=Jn (zs:= [z]) (E:=2) (own:=false) hm (Ep _ _) d0 (by simp)
  have d1:u1=I6 n:=d1
  subst e0 d1
  obtain rfl:us= [.slice ao 1 c,I6 n]:=by
   match us,hl,h0,h1 with
   | [p,q],_,h0,h1=>simp at h0 h1;rw [h0,h1]
  refine (kK ao 1 c n [z] w hi ab hn ab ab).mono ?_
  rintro e w' ⟨ao',c',rfl,ho,hb⟩
  rw [Nat.one_mul,wa] at ho
  rw [List.length_replicate]
  exact ⟨ao',c',by rw [Nat.one_mul],ho,hb⟩
 rw [List.length_replicate] at h
 exact h
end Go.Proofs.Ytfpcfckocmmcnaa
namespace Go.Proofs.Ytfpcfckocmmcnaa
open Go.RowKit
theorem ox (im:List (List Int)) (less:List Int) (m n c g:Nat) (b:Bool) (hm:im.length=m) (h:2000≤im.length):
  FC Try.prog 74 [(1010,nJ m n b),(1000,cS im),(1001,cD less)] [o1 (.ptr 1010 0),vv (I6 c),vv (I6 g)] [(1010,nJ m n true),(1000,cS im),(1001,cD less)] (vv (I6 c)) [(0,o1 (.ptr 1010 0))]:=by
 have hS:=nN 1000 m
 refine cu (nt:=53) Try.func74 rfl rfl (by simp) fun w0 ω0=> ?_
 (refine au (ah (aa rfl (ay rfl rfl) (aA (ax (au (ah (aa rfl (an rfl rfl) (aa rfl (bH rfl rfl rfl) ?_))))))));apply aa rfl;(exact aB (d:=0) rfl rfl rfl ae);apply aa rfl;exact aN rfl ae rfl rfl rfl rfl;apply aa rfl;(apply aI 73;exact aL hS ae rfl rfl ⟨rfl,aq⟩ trivial rfl rfl);refine aa rfl (ay rfl rfl) (aA (ax (au (au (ah (aa rfl (an rfl rfl) (aa rfl (bd rfl rfl rfl rfl) (aA (ax ?_))))))))))
 refine bf rfl (fun e=> ?_) (fun e=> ?_)
 ·(refine au (ah (aa rfl (an rfl rfl) (aa rfl (bH rfl rfl rfl) ?_)));apply aa rfl;(exact aB (d:=2) rfl rfl rfl ae);apply aa rfl;exact fB rfl rfl rfl rfl rfl rfl ae rfl;refine aA (ax (au (ah (aa rfl (an rfl rfl) (aa rfl (ay rfl rfl) (aA (ax (bw (aJ ?_))))))))))
  exact bQ (.inl rfl) rfl (.tmp rfl) ⟨rfl,rfl,rfl,aq⟩ ⟨rfl,aq⟩
 ·exfalso;simp at e;omega
theorem rG (ng:Nat) (im:List (List Int)) (less:List Int) (m n c g:Nat) (b:Bool) (hm:im.length=m) (hn:less.length=n) (h:im.length < 2000) (hw:WF ng im less) (hc:c < less.length) (hg:g < ng) (hng:ng≤1000):
  FC Try.prog 74 [(1010,nJ m n b),(1000,cS im),(1001,cD less)] [o1 (.ptr 1010 0),vv (I6 c),vv (I6 g)] [(1010,nJ (m + 1) (n + 1) b),(1000,cS (mQ ng im less.length c g)),(1001,cD (less ++ [(n:Int)]))] (vv (I6 n)) [(0,o1 (.ptr 1010 0))]:=by
 have hlen:=hw.len
 obtain rfl:m=n:=by omega
 subst hn
 have hS:=nN 1000 less.length
 have h0:=hw.row 0 ab
 have hrow0:(bU im)[0]? =some (aV (aT im 0)):=bV ab
 have hR:FC Try.prog 53 [(24,⟨false,2,1, .cz (aV [-1])⟩)] [o1 (.sl 24 0 1),vv (I6 ng)] [(32,⟨true,2,1, .cz (aV (List.replicate ng (-1)))⟩)] (o1 (.sl 32 0 ng)) []:=mJ 24 32 ng (-1) ab ab
 have hA:=hw.app
 have hlA:(im ++ [List.replicate ng (-1)]).length=less.length + 1:=by simp;omega
 have hL:=xR (im ++ [List.replicate ng (-1)]) (less ++ [(less.length:Int)]) (less.length + 1) (less.length + 1) c less.length g b hlA ab (by rw [hA.row c ab];exact hg) ab (by rw [hA.row less.length ab];exact hg)
 refine cu (nt:=53) Try.func74 rfl rfl (by simp) fun w0 ω0=> ?_
 (refine au (ah (aa rfl (ay rfl rfl) (aA (ax (au (ah (aa rfl (an rfl rfl) (aa rfl (bH rfl rfl rfl) ?_))))))));apply aa rfl;(exact aB (d:=0) rfl rfl rfl ae);apply aa rfl;exact aN rfl ae rfl rfl rfl rfl;apply aa rfl;(apply aI 73;exact aL hS ae rfl rfl ⟨rfl,aq⟩ trivial rfl rfl);refine aa rfl (ay rfl rfl) (aA (ax (au (au (ah (aa rfl (an rfl rfl) (aa rfl (bd rfl rfl rfl rfl) (aA (ax ?_))))))))))
 refine bf rfl (fun e=> ?_) (fun e=> ?_)
 ·exfalso;simp at e;omega
 ·(refine aU ?_;refine ax ?_;refine au ?_)
  refine jx (St.of [(0,o1 (.ptr 1010 0)),(1,vv (I6 c)),(2,vv (I6 g)),(7,vv (I6 less.length))] [(1010,⟨true,89,3, .flat [.sl 1000 0 (less.length + 1), .sl 1001 0 less.length, .val (.bool b)]⟩),(1000,cS (im ++ [List.replicate ng (-1)])),(1001,cD less)] [(0,o1 (.ptr 1010 0))]) ?_ ?_
  ·apply rD 15 [] 0 [[], [], [1], [1,2], [1,2,3], [], [], [6], [6,7], [6,7,8], [6,7,8,9], [6,7,8,9,10], [6,7,8,9,10,11], [5,6,7,8,9,10,11,12], [5,6,7,8,9,10,11,12,13], [1,2,3,4,5,6,7,8,9,10,11,12,13,14], [0,1,2,3,4,5,6,7,8,9,10,11,12,13,14,15], [0,1,2,3,4,5,6,7,8,9,10,11,12,13,14,15,16], [0,1,2,3,4,5,6,7,8,9,10,11,12,13,14,15,16,17]] [19,20,21,22,23,24,25,26,27,28,29,30,31,32,33] [24,32,33] (by kernel_rfl) (by kernel_rfl) (by kernel_rfl)
   ·(apply aE rfl;(intro S1 hS;exact an rfl (hS.op rfl));apply aE rfl;(intro S1 hS;exact an rfl (hS.op rfl));apply aE rfl;(intro S1 hS;exact bH rfl (hS.op rfl) (hS.ch _ _ rfl));apply aE rfl;(intro S1 hS;exact aB (d:=0) rfl (hS.op rfl) (hS.ch _ _ rfl) ae);apply aE rfl;(intro S1 hS;exact aN rfl ae (hS.op rfl) (hS.ch _ _ rfl) rfl rfl);apply ju rfl;(intro S1 hS;exact cN (E:=2) rfl ae (hS.op rfl));apply aE rfl;(intro S1 hS;exact an rfl (hS.op rfl));apply aE rfl;(intro S1 hS;exact bH rfl (hS.op rfl) (hS.ch _ _ rfl));apply aE rfl;(intro S1 hS;exact aB (d:=0) rfl (hS.op rfl) (hS.ch _ _ rfl) ae);apply aE rfl;(intro S1 hS;exact aN rfl ae (hS.op rfl) (hS.ch _ _ rfl) rfl rfl);apply aE rfl;(intro S1 hS;exact aP rfl (hS.op rfl) (hS.op rfl) (hS.ch _ _ rfl) rfl ae aY aC aZ);apply aE rfl;(intro S1 hS;exact aM rfl ae (hS.op rfl) (hS.ch _ _ rfl) rfl aK df);apply aE rfl;(intro S1 hS;exact bF rfl (hS.op rfl) rfl ae);(apply ju rfl;(focus (intro S1 hS1;apply aI 53;exact dK hR ae rfl (dG hS1 rfl) ⟨rfl,congrArg (fun z:Nat=>vv (I6 z)) h0,aq⟩ (cL hS1 ⟨⟨_,rfl, .inr rfl⟩,aq⟩) rfl rfl rfl)));apply ju rfl;(intro S1 hS;exact rC (E:=24) rfl ae (hS.op rfl) rfl rfl);exact fJ.nil)
   ·rfl
   ·((apply aG 15 rfl ae rfl rfl;(exact lO rfl ae rfl rfl (by first | rfl | assumption | (simp;done)) rfl rfl rfl (by first | rfl | assumption | (simp;done)) rfl ab));(apply aG 16 rfl ae rfl rfl;exact bH rfl rfl rfl);(apply aG 17 rfl ae rfl rfl;(exact aB (d:=0) rfl rfl rfl ae));(apply aG 18 rfl ae rfl rfl;exact fB rfl rfl rfl rfl rfl rfl ae rfl);(refine bl ae ?_;exact bB (Wk.of ⟨rfl,rfl,rfl,rfl,aq⟩ ⟨rfl,rfl,rfl,aq⟩ ⟨rfl,aq⟩)))
   ·((apply cG 0 15 rfl ae rfl rfl rfl rfl;exact an rfl rfl;(exact lO rfl ae rfl rfl (by first | rfl | assumption | (simp;done)) rfl rfl rfl (by first | rfl | assumption | (simp;done)) rfl ab);(focus ((apply aG 15 rfl ae rfl rfl;(exact lO rfl ae rfl rfl (by first | rfl | assumption | (simp;done)) rfl rfl rfl (by first | rfl | assumption | (simp;done)) rfl ab));(apply aG 16 rfl ae rfl rfl;exact bH rfl rfl rfl);(apply aG 17 rfl ae rfl rfl;(exact aB (d:=0) rfl rfl rfl ae));(apply aG 18 rfl ae rfl rfl;exact fB rfl rfl rfl rfl rfl rfl ae rfl);(refine bl ae ?_;exact bB (Wk.of ⟨rfl,rfl,rfl,rfl,aq⟩ ⟨rfl,rfl,rfl,aq⟩ ⟨rfl,aq⟩))));(focus ((apply aG 0 rfl ae rfl rfl;exact an rfl rfl);(apply aG 16 rfl ae rfl rfl;exact bH rfl rfl rfl);(apply aG 17 rfl ae rfl rfl;(exact aB (d:=0) rfl rfl rfl ae));(apply aG 18 rfl ae rfl rfl;exact fB rfl rfl rfl rfl rfl rfl ae rfl);(refine bl ae ?_;exact bB (Wk.of ⟨rfl,rfl,rfl,rfl,aq⟩ ⟨rfl,rfl,rfl,aq⟩ ⟨rfl,aq⟩))))))
  (refine ax (au (ah (aa rfl (an rfl rfl) (aa rfl (an rfl rfl) (aa rfl (bH rfl rfl rfl) ?_)))));apply aa rfl;(exact aB (d:=1) rfl rfl rfl ae);apply aa rfl;exact aN rfl ae rfl rfl rfl rfl;apply aa rfl;exact an rfl rfl;apply aa rfl;(exact cN (E:=2) rfl ae rfl);apply aa rfl;(exact fo rfl ae rfl rfl rfl (by first | rfl | assumption | (simp;done)) rfl rfl ab);apply aa rfl;exact bH rfl rfl rfl;apply aa rfl;(exact aB (d:=1) rfl rfl rfl ae);apply aa rfl;exact fB rfl rfl rfl rfl rfl rfl ae rfl;refine aA (ax (au (ah (aa rfl (an rfl rfl) (aa rfl (an rfl rfl) (aa rfl (an rfl rfl) (aa rfl (an rfl rfl) ?_)))))));apply aa rfl;(apply aI 92;exact cX [(0,1010)] hL ae rfl rfl ⟨rfl,rfl,rfl,rfl,aq⟩ ⟨⟨_,rfl, .inl rfl⟩,⟨_,rfl, .inl rfl⟩,⟨_,rfl, .inl rfl⟩,aq⟩ ⟨rfl,rfl,rfl,aq⟩ rfl rfl);refine aA (ax (au (ah (aa rfl (an rfl rfl) (aa rfl (ay rfl rfl) (aA (ax (bw ?_)))))))))
  exact bQ (.inl rfl) rfl (.tmp rfl) ⟨rfl,rfl,rfl,aq⟩ ⟨rfl,aq⟩
end Go.Proofs.Ytfpcfckocmmcnaa
namespace Go.Proofs.Ytfpcfckocmmcnaa
open Go.RowKit
theorem yh {P:Program} {ω:bW} {w:World} {ow:Nm×Option Nat} {h:Hd} {T E k dlen n m off c:Nat} {ty:TypeId} {u:Value} {cell:Nat→Value→Prop} {a:Addr} {news:List Value} (hT:tS P T E k=true) (hk0:0 < k) (hk:h.k=k)
  (hv:fj ω w ow h E dlen cell) (hu:Df h off n u) (hd:(off + n) * k=dlen) (hm0:0 < m) (hl:news.length=m * k) (hnews:∀j v,news[j]? =some v→w.cell? (a.add j)=some v) (h1:∀v∈news,v.oneCell'=true) (hb:n + m≤2199023255552):
  ∃ao' c' w',(Builtin.append_ #[T,T] ty #[u, .slice (some a) m c]).run P w= .ok (.slice ao' (n + m) c') w'∧((∃h',ao'=h'.ao∧c'=h'.c∧Grown ω w w' ow h' E k (n * k) news (fun j u=>cell (off * k + j) u))∨
   (Df h off (n + m) (.slice ao' (n + m) c')∧Grown ω w w' ow h E k dlen news cell)):=by
 rcases Nat.eq_zero_or_pos off with hoff | hoff
 ·obtain ⟨h',w',r1,r2⟩:=lM (ty:=ty) (c:=c) hT hk0 hk hv hu hoff hd hm0 hl hnews h1 hb
  exact ⟨_,_,w',r1, .inl ⟨h',rfl,rfl,r2⟩⟩
 obtain ⟨i,z,e1,e2,e3,e4,e5,e6⟩:=fW hT
 obtain ⟨ao,rfl,ha0,ha1⟩:=hu
 have hby:(n + m) * i.bytes≤140737488355328:=Nat.le_trans (Nat.mul_le_mul_left _ e4) ab
 have hb0:0 + m≤maxLen:=by simp [maxLen];omega
 have hbn:n + m≤maxLen:=by simp [maxLen];omega
 subst e3
 have fresh:∀(cs0:List Value) (cap:Nat),cs0.length=n * i.size→n + m≤cap→cap≤maxLen→(∀j,j < n * i.size→∃u,cs0[j]? =some u∧cell (off * i.size + j) u)→∀w1:World,w1.heap=w.heap→w1.os=w.os→w1.tape=w.tape→w1.output=w.output→
   Grown ω w (w1.alloc (.cells (cs0.toArray ++ news.toArray ++ Builtin.zeroCells z.cells (cap - (n + m))) E)) ow ⟨some ⟨w.heap.size,0,none⟩,cap,i.size⟩ E i.size (n * i.size) news (fun j u=>cell (off * i.size + j) u):=by
  intro cs0 cap hc0 hcap hcm hcs w1 hw1 ho1 ht1 hout1
  have hs1:w1.heap.size=w.heap.size:=by rw [hw1]
  refine { k_:=rfl,os:=ho1,tape:=ht1,output:=hout1,size:=by simp [hs1],other:=fun b hb _=> ?_,vec:=⟨w.heap.size,0,_,rfl,by simp [bW.new],by rw [←hs1];exact heap_alloc_new w1 _, ?_, ?_,hcm,fun j hj=> ?_,fun j v hj=> ?_⟩ }
  ·rw [Below.heap_alloc w1 _ b ab,hw1]
  ·simp only [Array.size_append,List.size_toArray,size_zeroCells,e6,hc0,hl,←Nat.add_mul,Nat.zero_add]
   exact ⟨trivial,by congr 1;omega⟩
  ·rw [hl,←Nat.add_mul];exact Nat.mul_le_mul_right _ hcap
  ·obtain ⟨u,hu,hcu⟩:=hcs j hj
   refine ⟨u, ?_,hcu⟩
   rw [Nat.zero_add,Array.getElem?_append_left (by simp [hc0];omega),Array.getElem?_append_left (by simp [hc0];omega)]
   simpa using hu
  ·have hjl:j < news.length:=(List.getElem?_eq_some_iff.1 hj).1
   rw [Nat.zero_add,Array.getElem?_append_left (by simp [hc0];omega),Array.getElem?_append_right (by simp [hc0])]
   simpa [hc0] using hj
 rcases hv with ⟨hao,hc,hd0⟩ | ⟨b,o,cs,g1,g2,g3,⟨ho,g4⟩,g5,g6,g7⟩
 ·exfalso
  have h0:(off + n) * i.size=0:=by rw [hd,hd0]
  rcases Nat.eq_zero_or_pos (off + n) with h8 | h8
  ·omega
  ·have:=Nat.mul_pos h8 hk0;omega
 ·rw [hk] at g4 g5
  have hoc:off + n≤h.c:=Nat.le_of_mul_le_mul_right (by rw [hd];exact g5) hk0
  have hmul:∀x,x≤h.c→x * i.size≤h.c * i.size:=fun x hx=>Nat.mul_le_mul_right _ hx
  have hbs:b < w.heap.size:=ff g3
  have old:∀j,j < n * i.size→∃u,cs[o + off * i.size + j]? =some u∧cell (off * i.size + j) u:=fun j hj=>by
   obtain ⟨u,hu,hcu⟩:=g7 (off * i.size + j) (by rw [←hd,Nat.add_mul];omega)
   exact ⟨u,by rw [Nat.add_assoc];exact hu,hcu⟩
  have haos:off < h.c→ao=some ⟨b,o + off * i.size,none⟩:=fun hlt=>by
   rcases Nat.eq_zero_or_pos off with h0 | h0
   ·rw [ha0 h0,g1,h0];simp
   ·rw [ha1 h0 hlt,g1,hk];rfl
  by_cases hroom:n + m≤h.c - off
  ·have hlt:off < h.c:=by omega
   rw [haos hlt]
   have hfit:o + off * i.size + n * i.size + news.length≤cs.size:=by
    have h2:=hmul (off + n + m) ab
    rw [Nat.add_mul,Nat.add_mul] at h2
    rw [hl];omega
   have hr:=jU (P:=P) (ty:=ty) w T E i e1 e2 b (o + off * i.size) n (h.c - off) cs g3 a m c news hl hnews h1 hroom hfit
   have hnl:n * i.size + news.length≤(h.c - off) * i.size:=by rw [hl,←Nat.add_mul];exact Nat.mul_le_mul_right _ hroom
   have htl:(cs.toList.take (o + off * i.size + n * i.size)).length=o + off * i.size + n * i.size:=by
    rw [List.length_take,Array.length_toList];omega
   refine ⟨some ⟨b,o + off * i.size,none⟩,h.c - off,_,hr, .inr ⟨⟨_,rfl,fun e=>absurd e ab,fun _ _=>by rw [g1,hk];rfl⟩, ?_⟩⟩
   have hon:o + off * i.size + n * i.size=o + dlen:=by rw [←hd,Nat.add_mul];omega
   rw [hon] at hfit htl
   refine { k_:=hk,os:=rfl,tape:=rfl,output:=rfl,size:=by simp,other:=fun b' _ hne=>setRow_other w b b' _ (fun e=>hne (e ▸ g2)),vec:=⟨b,o,_,g1,by simp [bW.new,Nat.ne_of_lt hbs,g2],setRow_heap w b cs _ E _ g3,⟨ho, ?_⟩, ?_,g6,fun j hj=> ?_,fun j v hj=> ?_⟩ }
   ·rw [hon]
    simp only [List.size_toArray,List.length_append,htl,List.length_drop,Array.length_toList]
    omega
   ·omega
   ·obtain ⟨u,hu,hcu⟩:=g7 j hj
    refine ⟨u, ?_,hcu⟩
    rw [hon]
    simp only [List.getElem?_toArray]
    rw [List.append_assoc,List.getElem?_append_left (by rw [htl];omega),List.getElem?_take,if_pos ab]
    simpa using hu
   ·rw [hon]
    simp only [List.getElem?_toArray]
    have:=rp (a:=cs.toList.take (o + dlen)) (c:=cs.toList.drop (o + dlen + news.length)) hj
    rw [htl] at this
    exact this
  ·have holds:∀u',n * i.size≠0→ao=some u'→u'=⟨b,o + off * i.size,none⟩:=fun u' hn0 he=>by
    have hnp:0 < n:=by
     rcases Nat.eq_zero_or_pos n with h8 | h8
     ·subst h8;simp at hn0
     ·exact h8
    rw [haos ab] at he;exact (Option.some.inj he).symm
   have hol:((cs.toList.drop (o + off * i.size)).take (n * i.size)).length=n * i.size:=by
    rw [List.length_take,List.length_drop,Array.length_toList]
    have h2:=hmul (off + n) hoc
    rw [Nat.add_mul] at h2
    omega
   have hoat:∀(j:Nat) (u:Value),((cs.toList.drop (o + off * i.size)).take (n * i.size))[j]? =some u→j < n * i.size∧cs[o + off * i.size + j]? =some u:=fun j u hj=>by
    have hjl:j < n * i.size:=by have:=(List.getElem?_eq_some_iff.1 hj).1;omega
    rw [List.getElem?_take,if_pos hjl,List.getElem?_drop] at hj
    exact ⟨hjl,by simpa using hj⟩
   have hfresh:=fresh ((cs.toList.drop (o + off * i.size)).take (n * i.size)) (grownCap w (n + m) (h.c - off) E) hol (grownCap_ge _ _ _ _) (grownCap_le_maxLen _ _ _ _ hbn) (fun j hj=>by
    obtain ⟨u,hu,hcu⟩:=old j hj
    refine ⟨u, ?_,hcu⟩
    rw [List.getElem?_take,if_pos hj,List.getElem?_drop]
    simpa using hu) w.drew rfl rfl rfl rfl
   cases hao:ao with
   | none=>
    have hno:¬off < h.c:=fun hlt=>by rw [haos hlt] at hao;cases hao
    have hn0:n=0:=by omega
    subst hn0
    have hc0:h.c - off=0:=by omega
    rw [hc0] at hfresh ⊢
    have hr:=run_append_nil (P:=P) (ty:=ty) w T E i z e1 e2 e5 a m c news hl hnews hm0 ab (by simp only [Nat.zero_add] at hby;omega)
    exact ⟨_,_,_,by rw [hr,Nat.zero_add], .inl ⟨⟨some ⟨w.heap.size,0,none⟩,grownCap w m 0 E,i.size⟩,rfl,rfl,by simpa using hfresh⟩⟩
   | some a'=>
    have hr:=run_append_grow (P:=P) (ty:=ty) w T E i z e1 e2 e5 a' n (h.c - off) _ hol (fun j u hj=>by
     obtain ⟨hj1,hj2⟩:=hoat j u hj
     rw [holds a' ab hao,Addr.add_lit]
     show w.cell? ⟨b,o + off * i.size + j,none⟩=some u
     rw [cell_of_row w b _ cs E (0,0) g3];exact hj2) a m c news hl hnews ab ab (growslice_fits ab hby)
    exact ⟨_,_,_,hr, .inl ⟨⟨some ⟨w.heap.size,0,none⟩,grownCap w (n + m) (h.c - off) E,i.size⟩,rfl,rfl,hfresh⟩⟩
section
variable {P:Program} {nt:Nat} {S S1 S2:St} {w0 w:World} {ω0:lI} {ω:bW} {η:Env} {a:Act} {Q:Exit→Act→World→Prop} {ops:Array Oper} {rest:List Oper}
variable {t:Nat} {ty:TypeId} {ps:String} {af:Array Edge} {gd:Option (Nat×Bool)} {x y:Operand} {av:AV} {o:Oper}
structure Ad (P:Program) (nt:Nat) (o:Oper) (S S1 S2:St):Prop where
 go:∀w0 ω0 a w Q,Sat w0 ω0 nt S a w→o.wp P a w (fun a w=>Sat w0 ω0 nt S1 a w∨Sat w0 ω0 nt S2 a w) Q
theorem Gc (hg:o.guard=none) (h:Ad P nt o S S1 S2) (k1:pR P w0 ω0 nt ops Q S1 rest) (k2:pR P w0 ω0 nt ops Q S2 rest):pR P w0 ω0 nt ops Q S (o :: rest):=by
 refine ⟨fun a w hs=>wpList_plain hg fun K' hK'=> ?_⟩
 exact Oper.wp_mono (fun a' w' h'=>hK' _ _ (h'.elim (fun h1=>k1.go a' w' h1) fun h2=>k2.go a' w' h2)) (h.go w0 ω0 a w Q hs)
theorem Ad.fin {w':World} {v:Value} (h:(execOp a.eval o).run P w= .ok (.value v) w') (k:Sat w0 ω0 nt S1 (a.put o.dst v) w'∨Sat w0 ω0 nt S2 (a.put o.dst v) w'):o.wp P a w (fun a w=>Sat w0 ω0 nt S1 a w∨Sat w0 ω0 nt S2 a w) Q:=by
 unfold Oper.wp
 rw [h]
 exact k
theorem uW {T E k n off len m:Nat} {vs news:List Value} {b:A1} (ht:Nat.blt t nt=true) (hT:tS P T E k=true) (hk0:Nat.blt 0 k=true) (hx:S.op x=some (o1 (.sl n off len))) (hc:S.ch n=some ⟨true,E,k, .cz vs⟩) (hl:(off + len) * k=vs.length)
  (hy:S.op y=some (o1 b)) (hr:Reads S b m k news) (hm:0 < m) (h1:∀v∈news,v.oneCell'=true) (hb:len + m≤2199023255552):
  Ad P nt ⟨some t, .call { callee:= .builtin .append,args:= #[x,y],argTypes:= #[T,T] },ty,ps,af,gd⟩ S ((S.new n ⟨true,E,k, .cz (vs.drop (off * k) ++ news)⟩).put t (o1 (.sl n 0 (len + m)))) ((S.new n ⟨true,E,k, .cz (vs ++ news)⟩).put t (o1 (.sl n off (len + m)))):=by
 refine ⟨fun w0 ω0 a w Q ⟨η,ω,hs⟩=> ?_⟩
 have hk0':0 < k:=by simpa using hk0
 obtain ⟨hd,e1,e2,e3⟩:=hs.chunk hc
 have e3:fj ω w (n,none) hd E vs.length (cR η ω w true n (.cz vs)):=e3
 have hu:dm η (.sl n off len) (a.eval x):=hs.kG hx
 obtain ⟨ad,cp,r1,r2⟩:=hr.go hs (hs.kG hy)
 have hnl:=hr.len
 have hn0:0 < news.length:=by rw [hnl];exact Nat.mul_pos hm hk0'
 obtain ⟨bb,o,r3,_⟩:=r2 0 _ (List.getElem?_eq_getElem hn0)
 subst r3
 obtain ⟨ao',c',w',k1,k2⟩:=yh (P:=P) (ty:=ty) (c:=cp) hT hk0' e2 e3 (hu.2 hd e1) hl hm hnl (a:=⟨bb,o,none⟩) (fun j v hj=>by
  obtain ⟨b2,o2,h2,h3⟩:=r2 j v hj
  simp only [Option.some.injEq,Addr.mk.injEq,and_true] at h2
  obtain ⟨rfl,rfl⟩:=h2
  rw [Addr.add_lit];exact h3) h1 hb
 refine Ad.fin (v:= .slice ao' (len + m) c') (w':=w') (by simp [execOp,resolve,invoke,builtin,r1,k1]) ?_
 rcases k2 with ⟨h',q1,q2,k2⟩ | ⟨k3,k2⟩
 ·left
  subst q1 q2
  have hlen:(vs.drop (off * k) ++ news).length=len * k + news.length:=by
   rw [List.length_append,List.length_drop,←hl,Nat.add_mul];omega
  have:=hs.renew (n:=n) (c:=⟨true,E,k, .cz (vs.drop (off * k) ++ news)⟩) (hd:=h') (r:=fun _=>⟨none,0,1⟩) (mT (by simp [iI]) k2) ⟨k2.k_,by
   obtain ⟨b',o',cs',v1,v2,v3,v4,v5,v6,v7,v8⟩:=k2.vec
   refine .inr ⟨b',o',cs',v1,v2,v3,by rw [k2.k_];exact v4,by rw [k2.k_];show (vs.drop (off * k) ++ news).length≤_;rw [hlen];exact v5,v6,fun j hj=> ?_⟩
   have hj:j < (vs.drop (off * k) ++ news).length:=hj
   rw [hlen] at hj
   by_cases hlt:j < len * k
   ·obtain ⟨u,q1,q2⟩:=v7 j hlt
    have q2:vs[off * k + j]? =some u:=q2
    refine ⟨u,q1, ?_⟩
    show (vs.drop (off * k) ++ news)[j]? =some u
    rw [List.getElem?_append_left (by rw [List.length_drop,←hl,Nat.add_mul];omega),List.getElem?_drop];exact q2
   ·have hdl:(vs.drop (off * k)).length=len * k:=by rw [List.length_drop,←hl,Nat.add_mul];omega
    have hj2:j - len * k < news.length:=by omega
    refine ⟨news[j - len * k], ?_, ?_⟩
    ·have:=v8 (j - len * k) _ (List.getElem?_eq_getElem hj2)
     rw [show o' + len * k + (j - len * k)=o' + j by omega] at this;exact this
    ·show (vs.drop (off * k) ++ news)[j]? =_
     rw [List.getElem?_append_right ab,hdl,List.getElem?_eq_getElem hj2]⟩
  exact ⟨_,_,this.iP (by simpa using ht) p5⟩
 ·right
  have:=hs.renew (n:=n) (c:=⟨true,E,k, .cz (vs ++ news)⟩) (hd:=hd) (r:=fun _=>⟨none,0,1⟩) (mT (by simp [iI]) k2) ⟨k2.k_,by
   obtain ⟨b',o',cs',v1,v2,v3,v4,v5,v6,v7,v8⟩:=k2.vec
   refine .inr ⟨b',o',cs',v1,v2,v3,by rw [k2.k_];exact v4,by rw [k2.k_];show (vs ++ news).length≤_;rw [List.length_append];exact v5,v6,fun j hj=> ?_⟩
   have hj:j < (vs ++ news).length:=hj
   rw [List.length_append] at hj
   by_cases hlt:j < vs.length
   ·obtain ⟨u,q1,q2⟩:=v7 j hlt
    have q2:vs[j]? =some u:=q2
    refine ⟨u,q1, ?_⟩
    show (vs ++ news)[j]? =some u
    rw [List.getElem?_append_left hlt];exact q2
   ·have hj2:j - vs.length < news.length:=by omega
    refine ⟨news[j - vs.length], ?_, ?_⟩
    ·have:=v8 (j - vs.length) _ (List.getElem?_eq_getElem hj2)
     rw [show o' + vs.length + (j - vs.length)=o' + j by omega] at this;exact this
    ·show (vs ++ news)[j]? =_
     rw [List.getElem?_append_right ab,List.getElem?_eq_getElem hj2]⟩
  exact ⟨_,_,this.iP (by simpa using ht) ⟨⟨_,_,rfl⟩,fun hd' he=>by
   simp [Env.new] at he;subst he;exact k3⟩⟩
def eR (q:List (Int×Int)):List Int:=q.flatMap fun p=> [p.1,p.2]
theorem tO:∀q:List (Int×Int),(eR q).length=2 * q.length
 | []=>rfl
 | p :: r=>by have:=tO r;simp [eR] at this ⊢;omega
theorem Au {zs:List Int} {j:Nat} {z:Int} (h:zs[j]? =some z):(aV zs)[j]? =some (I6 z):=by simp [aV,h]
theorem kY {T:TypeId} {x0 x1:Operand} {z0 z1:Int} (ht:Nat.blt t nt=true) (hx0:S.op x0=some (vv (I6 z0))) (hx1:S.op x1=some (vv (I6 z1))) (hb:P.built T [(0,I6 z0),(1,I6 z1)]=some #[I6 z0,I6 z1]):
  dx P nt ⟨some t, .build T #[(0,x0),(1,x1)],ty,ps,af,gd⟩ S (S.put t (.s (.agg [.val (I6 z0), .val (I6 z1)]))):=
 dx.of _ fun w0 ω0 η ω a w hs=>by
  refine ⟨.agg #[I6 z0,I6 z1],w, ?_,η,ω,hs.iP (by simpa using ht) (⟨_,rfl,rfl,fun j b hb=> ?_⟩:gT η (.agg [.val (I6 z0), .val (I6 z1)]) _)⟩
  ·simp only [execOp]
   simp [hs.nY hx0,hs.nY hx1,run_build w T #[(0,I6 z0),(1,I6 z1)] _ hb]
  ·match j,hb with
   | 0,hb=>simp at hb;subst hb;exact ⟨_,by simp,rfl⟩
   | 1,hb=>simp at hb;subst hb;exact ⟨_,by simp,rfl⟩
theorem lT {T:TypeId} {x0 x1:Operand} {b0 b1:A1} {vs:List Value} {n0 n1:Nat} (ht:Nat.blt t nt=true) (hx0:S.op x0=some (o1 b0)) (hx1:S.op x1=some (o1 b1)) (hl0:b0.len=some n0) (hl1:b1.len=some n1)
  (hb:∀ao n c ao' n' c',P.built T [(0, .slice ao n c),(1, .slice ao' n' c')]=some (#[.slice ao n c, .slice ao' n' c'] ++ vs.toArray)):
  dx P nt ⟨some t, .build T #[(0,x0),(1,x1)],ty,ps,af,gd⟩ S (S.put t (.s (.agg (b0 :: b1 :: vs.map .val)))):=
 dx.of _ fun w0 ω0 η ω a w hs=>by
  have d0:dm η b0 (a.eval x0):=hs.kG hx0
  have d1:dm η b1 (a.eval x1):=hs.kG hx1
  obtain ⟨ao,c,e0⟩:=d0.len_ hl0
  obtain ⟨ao',c',e1⟩:=d1.len_ hl1
  refine ⟨.agg (#[a.eval x0,a.eval x1] ++ vs.toArray),w, ?_,η,ω,hs.iP (by simpa using ht) (⟨_,rfl,by simp,fun j b hb=> ?_⟩:gT η (.agg (b0 :: b1 :: vs.map .val)) _)⟩
  ·simp only [execOp]
   have:=run_build w T #[(0, .slice ao n0 c),(1, .slice ao' n1 c')] _ (hb ao n0 c ao' n1 c')
   simp [e0,e1,this]
  ·match j,hb with
   | 0,hb=>simp at hb;subst hb;exact ⟨_,by simp,d0⟩
   | 1,hb=>simp at hb;subst hb;exact ⟨_,by simp,d1⟩
   | j + 2,hb=>
    simp only [List.getElem?_cons_succ,List.getElem?_map,Option.map_eq_some_iff] at hb
    obtain ⟨v,hv,rfl⟩:=hb
    exact ⟨v,by simpa [Array.getElem?_append] using hv,rfl⟩
theorem om {T E:Nat} {x0:Operand} {z0 z1:Int} (ht:Nat.blt t nt=true) (hT:tS P T E 2=true) (hx:S.op x0=some (.s (.agg [.val (I6 z0), .val (I6 z1)]))):
  dx P nt ⟨some t, .buildSlice T 1 #[(0,x0)],ty,ps,af,gd⟩ S ((S.new t ⟨true,E,2, .cz (aV [z0,z1])⟩).put t (o1 (.sl t 0 1))):=
 dx.of _ fun w0 ω0 η ω a w hs=>by
  obtain ⟨i,z,k1,k2,k3,k4,k5,k6⟩:=fW hT
  obtain ⟨us,hu,hul,hua⟩:gT η (.agg [.val (I6 z0), .val (I6 z1)]) (a.eval x0):=hs.kG hx
  obtain ⟨u0,g0,rfl⟩:=hua 0 _ rfl
  obtain ⟨u1,g1,rfl⟩:=hua 1 _ rfl
  obtain rfl:us= #[I6 z0,I6 z1]:=by
   have:us.size=2:=hul
   match us with
   | ⟨[p,q]⟩=>simp at g0 g1;rw [g0,g1]
  refine ⟨.slice (some ⟨w.heap.size,0,none⟩) 1 1,w.alloc (.cells #[I6 z0,I6 z1] E), ?_, ?_⟩
  ·have hc:(Value.agg #[I6 z0,I6 z1]).cells= #[I6 z0,I6 z1]:=rfl
   simp [execOp,Instr.buildSlice,run_underlying k1,sizeOf,typeInfo,k2,k3,zeroValue,k5,Instr.fill,newRow,hu,hc,Gs]
  ·have hal:=hs.alloc (x:=t) (c:=⟨true,E,2, .cz (aV [z0,z1])⟩) (cs:= #[I6 z0,I6 z1]) (r:=fun _=>⟨none,0,1⟩) (n:=1) rfl (by simp) (by simp [fQ.len,aV]) (by simp [maxLen]) fun j hj=>by
    have hj:j < 2:=hj
    match j,hj with
    | 0,_=>exact ⟨_,by simp,rfl⟩
    | 1,_=>exact ⟨_,by simp,rfl⟩
   exact ⟨_,_,hal.iP (by simpa using ht) gE⟩
end
end Go.Proofs.Ytfpcfckocmmcnaa
namespace Go.Proofs.Ytfpcfckocmmcnaa
open Go.RowKit
abbrev Cz (l:List Int):Ch:=⟨true,127,2, .cz (aV l)⟩
theorem DN {pre:List Int} {o:Nat} (h:pre.length=2 * o) (q:List (Int×Int)):(o + q.length) * 2=(aV (pre ++ eR q)).length:=by
 rw [bD,List.length_append,h,tO];omega
theorem Fy {pre:List Int} {o:Nat} (h:pre.length=2 * o) (p:Int×Int) (q:List (Int×Int)):(aV (pre ++ eR (p :: q)))[(o + 0) * 2 + 0 * 1]? =some (I6 p.1):=by
 apply Au
 rw [List.getElem?_append_right ab,show (o + 0) * 2 + 0 * 1 - pre.length=0 by omega];rfl
theorem Gk {pre:List Int} {o:Nat} (h:pre.length=2 * o) (p:Int×Int) (q:List (Int×Int)):(aV (pre ++ eR (p :: q)))[(o + 0) * 2 + 1 * 1]? =some (I6 p.2):=by
 apply Au
 rw [List.getElem?_append_right ab,show (o + 0) * 2 + 1 * 1 - pre.length=1 by omega];rfl
theorem yg {ng:Nat} {less:List Int} {p:Int×Int} (hn:less.length≤2000) (hng:ng≤1000):fuel ng less [p]≤2100000:=by
 unfold fuel
 have h1:alive less≤less.length:=by unfold alive;exact Nat.le_trans (List.length_filter_le _ _) (by simp)
 have h2:alive less * (ng + 1)≤2000 * 1001:=Nat.mul_le_mul ab ab
 simp;omega
theorem FW (pre:List Int) (q r:List (Int×Int)) (x y:Int):aV (pre ++ eR (q ++ r)) ++ ((aV [x,y]).drop (0 * 2)).take (1 * 2)=aV (pre ++ eR (q ++ (r ++ [(x,y)]))):=by
 simp [aV,eR]
theorem Fx {pre:List Int} {o:Nat} (h:pre.length=2 * o) (q r:List (Int×Int)) (x y:Int):(aV (pre ++ eR (q ++ r))).drop (o * 2) ++ ((aV [x,y]).drop (0 * 2)).take (1 * 2)=aV ([] ++ eR (q ++ (r ++ [(x,y)]))):=by
 have h1:(aV (pre ++ eR (q ++ r))).drop (o * 2)=aV (eR (q ++ r)):=by
  rw [show aV (pre ++ eR (q ++ r))=aV pre ++ aV (eR (q ++ r)) by simp [aV],List.drop_append_of_le_length (by rw [bD];omega),List.drop_of_length_le (by rw [bD];omega),List.nil_append]
 rw [h1]
 simp [aV,eR]
theorem nH (ng n:Nat) (im:List (List Int)) (less:List Int) (c d:Nat) (b:Bool) (hnn:less.length=n) (hw:WF ng im less) (hc:c < less.length) (hd:d < less.length) (hn:less.length≤2000) (hng:ng≤1000):
  FC Try.prog 91 [(1010,nJ n n b),(1000,cS im),(1001,cD less)] [o1 (.ptr 1010 0),vv (I6 c),vv (I6 d)] [(1010,nJ n n b),(1000,cS (ident ng im less [((c:Int),(d:Int))]).1),(1001,cD (ident ng im less [((c:Int),(d:Int))]).2)] (.tup []) [(0,o1 (.ptr 1010 0))]:=by
 refine cu (nt:=93) Try.func91 rfl rfl (by simp) fun w0 ω0=> ?_
 generalize hR:ident ng im less [((c:Int),(d:Int))]=R
 (refine au (ah (aa rfl (an rfl rfl) (aa rfl (an rfl rfl) ?_)));apply aa rfl;(first | exact kY rfl rfl rfl ae | exact om (E:=127) rfl ae rfl);apply aa rfl;(first | exact kY rfl rfl rfl ae | exact om (E:=127) rfl ae rfl);refine aa rfl (ay rfl rfl) (aA (ax (aQ ?_))))
 have hB:=yg (p:=((c:Int),(d:Int))) hn hng
 have hq0:mD less.length [((c:Int),(d:Int))]:=fun p hp=>by simp at hp;subst hp;exact ⟨ab,ab⟩
 have hnm:im.length=n:=hw.len.trans hnn
 refine bR (fun j:List (List Int)×List Int×List (Int×Int)×List Int×Nat=>St.of [(0,o1 (.ptr 1010 0)),(6,o1 (.sl 15 j.2.2.2.2 j.2.2.1.length))]
   [(1010,nJ n n b),(1000,cS j.1),(1001,cD j.2.1),(15,Cz (j.2.2.2.1 ++ eR j.2.2.1))] [(0,o1 (.ptr 1010 0))])
  (fun j=>WF ng j.1 j.2.1∧j.2.1.length=n∧mD n j.2.2.1∧fuel ng j.2.1 j.2.2.1≤2100000∧ident ng j.1 j.2.1 j.2.2.1=R∧j.2.2.2.1.length=2 * j.2.2.2.2)
  (fun j=>fuel ng j.2.1 j.2.2.1) (im,less, [((c:Int),(d:Int))], [],0) ⟨hw,hnn,hnn ▸ hq0,hB,hR,rfl⟩ (Wk.of ⟨rfl,rfl,aq⟩ ⟨rfl,rfl,rfl,rfl,aq⟩ ⟨rfl,aq⟩) ?_
 rintro ⟨im1,less1,qq,pre,o⟩ ⟨hw1,hn1,hq,hb,hr,hpre⟩
 dsimp only at hw1 hn1 hq hb hr hpre ⊢
 have hm1:=hw1.len
 (refine au (au (ah (aa rfl (an rfl rfl) (aa rfl (bF rfl rfl rfl ae) ?_))));refine aa rfl (bd rfl rfl rfl rfl) (aA (ax ?_)))
 refine bf rfl (fun hlt=> ?_) (fun hlt=> ?_)
 ·obtain ⟨p,q,rfl⟩:∃p q,qq=p :: q:=by
   cases qq with
   | nil=>simp at hlt
   | cons p q=>exact ⟨p,q,rfl⟩
  have hpp:=hq p (by simp)
  have hqn:mD n q:=fun x hx=>hq x (by simp [hx])
  have g1:=Fy hpre p q
  have g2:=Gk hpre p q
  have gl:(o + (p :: q).length) * 2≤(aV (pre ++ eR (p :: q))).length:=Nat.le_of_eq (DN hpre (p :: q))
  have hF1:FC Try.prog 93 [(1010,Dk n n b),(1000,AY im1),(1001,zk less1)] [o1 (.ptr 1010 0),vv (I6 p.1)] [] (vv (I6 (root less1 p.1.toNat))) []:=by
   have:=ra im1 less1 n n p.1.toNat b hn1 hw1.down ab
   rwa [Int.toNat_of_nonneg hpp.1.1] at this
  have hF2:FC Try.prog 93 [(1010,Dk n n b),(1000,AY im1),(1001,zk less1)] [o1 (.ptr 1010 0),vv (I6 p.2)] [] (vv (I6 (root less1 p.2.toNat))) []:=by
   have:=ra im1 less1 n n p.2.toNat b hn1 hw1.down ab
   rwa [Int.toNat_of_nonneg hpp.2.1] at this
  (refine aU ?_;refine ax ?_;refine au ?_;refine aQ ?_;refine au ?_)
  apply eC 12 [] [[], [], [1], [1,2], [1,2,3], [0,1,2,3,4], [], [], [7], [7,8], [7,8,9], [0,1,2,3,4,5,6,7,8,9,10], [0,1,2,3,4,5,6,7,8,9,10,11], [0,1,2,3,4,5,6,7,8,9,10,11,12]] [21,22,23,24,25,26,27,28,29,30,31,32] [] (by kernel_rfl) (by kernel_rfl)
  ·(apply aE rfl;(intro S1 hS;exact an rfl (hS.op rfl));apply aE rfl;(intro S1 hS;exact an rfl (hS.op rfl));(apply aE rfl;(focus (intro S1 hS;first | exact eu (k:=2) (j:=0) rfl (hS.op rfl) (hS.op rfl) (hS.ch _ _ rfl) rfl ae rfl (by simp) gl ab | exact dB (k:=1) (len:=2) (j:=0) rfl (hS.op rfl) (hS.op rfl) (hS.ch _ _ rfl) ae rfl ab | exact dB (k:=1) (len:=2) (j:=1) rfl (hS.op rfl) (hS.op rfl) (hS.ch _ _ rfl) ae rfl ab | (apply aI 93;first | exact aL hF1 ae rfl (dG hS rfl) ⟨rfl,rfl,aq⟩ (cL hS ⟨⟨_,rfl, .inr rfl⟩,⟨_,rfl, .inr rfl⟩,⟨_,rfl, .inr rfl⟩,aq⟩) rfl rfl | exact aL hF2 ae rfl (dG hS rfl) ⟨rfl,rfl,aq⟩ (cL hS ⟨⟨_,rfl, .inr rfl⟩,⟨_,rfl, .inr rfl⟩,⟨_,rfl, .inr rfl⟩,aq⟩) rfl rfl))));(apply aE rfl;(focus (intro S1 hS;first | exact eu (k:=2) (j:=0) rfl (hS.op rfl) (hS.op rfl) (hS.ch _ _ rfl) rfl ae rfl (by simp) gl ab | exact dB (k:=1) (len:=2) (j:=0) rfl (hS.op rfl) (hS.op rfl) (hS.ch _ _ rfl) ae rfl ab | exact dB (k:=1) (len:=2) (j:=1) rfl (hS.op rfl) (hS.op rfl) (hS.ch _ _ rfl) ae rfl ab | (apply aI 93;first | exact aL hF1 ae rfl (dG hS rfl) ⟨rfl,rfl,aq⟩ (cL hS ⟨⟨_,rfl, .inr rfl⟩,⟨_,rfl, .inr rfl⟩,⟨_,rfl, .inr rfl⟩,aq⟩) rfl rfl | exact aL hF2 ae rfl (dG hS rfl) ⟨rfl,rfl,aq⟩ (cL hS ⟨⟨_,rfl, .inr rfl⟩,⟨_,rfl, .inr rfl⟩,⟨_,rfl, .inr rfl⟩,aq⟩) rfl rfl))));apply aE rfl;(intro S1 hS;exact bO rfl ae (hS.op rfl) (hS.ch _ _ rfl) rfl aK);(apply aE rfl;(focus (intro S1 hS;first | exact eu (k:=2) (j:=0) rfl (hS.op rfl) (hS.op rfl) (hS.ch _ _ rfl) rfl ae rfl (by simp) gl ab | exact dB (k:=1) (len:=2) (j:=0) rfl (hS.op rfl) (hS.op rfl) (hS.ch _ _ rfl) ae rfl ab | exact dB (k:=1) (len:=2) (j:=1) rfl (hS.op rfl) (hS.op rfl) (hS.ch _ _ rfl) ae rfl ab | (apply aI 93;first | exact aL hF1 ae rfl (dG hS rfl) ⟨rfl,rfl,aq⟩ (cL hS ⟨⟨_,rfl, .inr rfl⟩,⟨_,rfl, .inr rfl⟩,⟨_,rfl, .inr rfl⟩,aq⟩) rfl rfl | exact aL hF2 ae rfl (dG hS rfl) ⟨rfl,rfl,aq⟩ (cL hS ⟨⟨_,rfl, .inr rfl⟩,⟨_,rfl, .inr rfl⟩,⟨_,rfl, .inr rfl⟩,aq⟩) rfl rfl))));apply aE rfl;(intro S1 hS;exact an rfl (hS.op rfl));apply aE rfl;(intro S1 hS;exact an rfl (hS.op rfl));(apply aE rfl;(focus (intro S1 hS;first | exact eu (k:=2) (j:=0) rfl (hS.op rfl) (hS.op rfl) (hS.ch _ _ rfl) rfl ae rfl (by simp) gl ab | exact dB (k:=1) (len:=2) (j:=0) rfl (hS.op rfl) (hS.op rfl) (hS.ch _ _ rfl) ae rfl ab | exact dB (k:=1) (len:=2) (j:=1) rfl (hS.op rfl) (hS.op rfl) (hS.ch _ _ rfl) ae rfl ab | (apply aI 93;first | exact aL hF1 ae rfl (dG hS rfl) ⟨rfl,rfl,aq⟩ (cL hS ⟨⟨_,rfl, .inr rfl⟩,⟨_,rfl, .inr rfl⟩,⟨_,rfl, .inr rfl⟩,aq⟩) rfl rfl | exact aL hF2 ae rfl (dG hS rfl) ⟨rfl,rfl,aq⟩ (cL hS ⟨⟨_,rfl, .inr rfl⟩,⟨_,rfl, .inr rfl⟩,⟨_,rfl, .inr rfl⟩,aq⟩) rfl rfl))));(apply aE rfl;(focus (intro S1 hS;first | exact eu (k:=2) (j:=0) rfl (hS.op rfl) (hS.op rfl) (hS.ch _ _ rfl) rfl ae rfl (by simp) gl ab | exact dB (k:=1) (len:=2) (j:=0) rfl (hS.op rfl) (hS.op rfl) (hS.ch _ _ rfl) ae rfl ab | exact dB (k:=1) (len:=2) (j:=1) rfl (hS.op rfl) (hS.op rfl) (hS.ch _ _ rfl) ae rfl ab | (apply aI 93;first | exact aL hF1 ae rfl (dG hS rfl) ⟨rfl,rfl,aq⟩ (cL hS ⟨⟨_,rfl, .inr rfl⟩,⟨_,rfl, .inr rfl⟩,⟨_,rfl, .inr rfl⟩,aq⟩) rfl rfl | exact aL hF2 ae rfl (dG hS rfl) ⟨rfl,rfl,aq⟩ (cL hS ⟨⟨_,rfl, .inr rfl⟩,⟨_,rfl, .inr rfl⟩,⟨_,rfl, .inr rfl⟩,aq⟩) rfl rfl))));apply aE rfl;(intro S1 hS;exact bO rfl ae (hS.op rfl) (hS.ch _ _ rfl) rfl aK);(apply aE rfl;(focus (intro S1 hS;first | exact eu (k:=2) (j:=0) rfl (hS.op rfl) (hS.op rfl) (hS.ch _ _ rfl) rfl ae rfl (by simp) gl ab | exact dB (k:=1) (len:=2) (j:=0) rfl (hS.op rfl) (hS.op rfl) (hS.ch _ _ rfl) ae rfl ab | exact dB (k:=1) (len:=2) (j:=1) rfl (hS.op rfl) (hS.op rfl) (hS.ch _ _ rfl) ae rfl ab | (apply aI 93;first | exact aL hF1 ae rfl (dG hS rfl) ⟨rfl,rfl,aq⟩ (cL hS ⟨⟨_,rfl, .inr rfl⟩,⟨_,rfl, .inr rfl⟩,⟨_,rfl, .inr rfl⟩,aq⟩) rfl rfl | exact aL hF2 ae rfl (dG hS rfl) ⟨rfl,rfl,aq⟩ (cL hS ⟨⟨_,rfl, .inr rfl⟩,⟨_,rfl, .inr rfl⟩,⟨_,rfl, .inr rfl⟩,aq⟩) rfl rfl))));exact fJ.nil)
  ·rfl
  ((apply aG 12 rfl ae rfl rfl;exact ay rfl rfl);(apply aG 13 rfl ae rfl rfl;exact ay rfl rfl);(refine bl ae ?_;skip))
  have hr1:=cZ hw1.down (c:=p.1.toNat) ab
  have hr2:=cZ hw1.down (c:=p.2.toNat) ab
  (refine ax (au (au (ah (aa rfl (an rfl rfl) (aa rfl (an rfl rfl) (aa rfl (bd rfl rfl rfl rfl) (aA (ax ?_)))))))))
  refine bf rfl (fun he=> ?_) (fun he=> ?_)
  ·have he':root less1 p.1.toNat=root less1 p.2.toNat:=by have:=he;simp at this;omega
   have hfu:fuel ng less1 (p :: q)=fuel ng less1 q + 1:=by unfold fuel;simp;omega
   (refine bI (aF (bt (ax (ah (aa rfl (an rfl rfl) ?_)))));apply aa rfl;(exact eU (k:=2) (l:=1) rfl rfl rfl rfl ae ab (fC rfl rfl) fG (by simp) (Nat.le_refl _) gl);refine aa rfl (ay rfl rfl) (aA ?_))
   exact bu (im1,less1,q,pre ++ [p.1,p.2],o + 1) ⟨hw1,hn1,hqn,by show fuel ng less1 q≤_;omega,by rw [←qA hw1 (hn1 ▸ hq) he'];exact hr,by simp;omega⟩ (by show fuel ng less1 q < fuel ng less1 (p :: q);omega) (Wk.of ⟨rfl,rfl,aq⟩ ⟨rfl,rfl,rfl,congrArg (fun l=>some (Cz l)) (show pre ++ eR (p :: q)=(pre ++ [p.1,p.2]) ++ eR q by simp [eR]),aq⟩ ⟨rfl,aq⟩)
  ·have he':root less1 p.1.toNat≠root less1 p.2.toNat:=by have:=he;simp at this;omega
   obtain ⟨hm1,hm2,hm3,hm4⟩:=jQ hw1 (hn1 ▸ hq) he'
   generalize hcc:root less1 p.1.toNat=cc at *
   generalize hdd:root less1 p.2.toNat=dd at *
   unfold gg at hm1 hm2 hm3 hm4
   have hhl:max cc dd < less1.length:=by omega
   have him:max cc dd < im1.length:=by omega
   have hrw:(aT im1 (max cc dd)).length=ng:=hw1.row _ him
   (refine aU (ax (au (ah (aa rfl (an rfl rfl) (aa rfl (an rfl rfl) ?_)))));apply aa rfl;(first | exact jr rfl rfl rfl | exact wz rfl rfl rfl);refine aa rfl (an rfl rfl) (aa rfl (an rfl rfl) ?_);apply aa rfl;(first | exact jr rfl rfl rfl | exact wz rfl rfl rfl);refine aa rfl (ay rfl rfl) (aa rfl (ay rfl rfl) (aA (ax (au (ah (aa rfl (an rfl rfl) (aa rfl (bH rfl rfl rfl) ?_)))))));apply aa rfl;(exact aB (d:=1) rfl rfl rfl ae);apply aa rfl;exact aN rfl ae rfl rfl rfl rfl;refine aa rfl (an rfl rfl) (aa rfl (an rfl rfl) ?_);apply aa rfl;exact aP rfl rfl rfl rfl rfl ae aY aC aZ;apply aa rfl;exact jK rfl rfl rfl rfl rfl aC ae;refine aA (ax (au (ah (aa rfl (an rfl rfl) (aa rfl (bH rfl rfl rfl) ?_)))));apply aa rfl;(exact aB (d:=0) rfl rfl rfl ae);apply aa rfl;exact aN rfl ae rfl rfl rfl rfl;apply aa rfl;exact an rfl rfl;apply aa rfl;exact aP rfl rfl rfl rfl rfl ae aY aC aZ;apply aa rfl;exact aM rfl ae rfl rfl rfl aK df;apply aa rfl;exact bF rfl rfl rfl ae;refine aa rfl (an rfl rfl) (aA (ax (aQ ?_))))
   have hll:min cc dd < max cc dd∧max cc dd < n:=by omega
   generalize min cc dd=lo at *
   generalize max cc dd=hi at *
   have hfb:(p :: q).length≤2100000:=by unfold fuel at hb;omega
   clear g1 g2 gl hF1 hF2
   refine bR (fun j:Nat×List Int×Nat=>St.of [(0,o1 (.ptr 1010 0)),(6,o1 (.sl 15 j.2.2 ((p :: q) ++ (bE lo hi (im1, []) j.1).2).length)),(7,vv (I6 lo)),(8,vv (I6 hi)),(55,o1 (.esl 1000 hi 0 ng)),(56,vv (I6 ng)),(57,vv (I6 j.1))] [(1010,nJ n n b),(1000,cS (bE lo hi (im1, []) j.1).1),(1001,cD (less1.set hi (lo:Int))),(15,Cz (j.2.1 ++ eR ((p :: q) ++ (bE lo hi (im1, []) j.1).2)))] [(0,o1 (.ptr 1010 0))]) (fun j=>j.1≤ng∧j.2.1.length=2 * j.2.2) (fun j=>ng - j.1) (0,pre,o) ⟨Nat.zero_le _,hpre⟩ (Wk.of ⟨rfl,congrArg (fun l:List (Int×Int)=>some (o1 (.sl 15 o l.length))) (List.append_nil (p :: q)).symm,rfl,rfl,by rw [←hrw];rfl,by rw [←hrw];rfl,rfl,aq⟩ ⟨rfl,rfl,rfl,congrArg (fun l:List (Int×Int)=>some (Cz (pre ++ eR l))) (List.append_nil (p :: q)).symm,aq⟩ ⟨rfl,aq⟩) ?_
   clear hpre
   rintro ⟨g,pre2,o2⟩ ⟨hg,hpre⟩
   dsimp only at hg hpre ⊢
   obtain ⟨M,N,hMN⟩:∃M N,bE lo hi (im1, []) g=(M,N):=⟨_,_,rfl⟩
   have hAq:=jH lo hi im1 q g
   obtain ⟨k1,k2,k3,k4⟩:=eM hw1 (lo:=lo) (hi:=hi) (q:= []) ab ab (fun x hx=>by simp at hx) g hg
   rw [hMN] at hAq k1 k2 k3 k4
   dsimp only at hAq k1 k2 k3 k4
   rw [hMN]
   dsimp only
   have hMl:M.length=n:=k1.len.trans hn1
   have hrow:=k1.row hi ab
   have hrowl:=k1.row lo ab
   have hNl:((p :: q) ++ N).length≤2200000:=by rw [List.length_append];simp at k3 hfb ⊢;omega
   (refine au (ah (aa rfl (bd rfl rfl rfl rfl) (aA (ax (au ?_))))))
   refine bY rfl (fun hgl=> ?_) (fun hgl=> ?_)
   ·have hg':g < ng:=by omega
    have e1:=k1.bT hi g ab hg'
    have e2:=k1.bT lo g ab hg'
    (refine aU (ax (au (aQ (au (ah (aa rfl (an rfl rfl) ?_))))));apply aa rfl;exact bn rfl rfl rfl rfl rfl ae aK aY aC aZ;apply aa rfl;exact br rfl ae rfl rfl rfl aK aK;refine aa rfl (ay rfl rfl) (aa rfl (ay rfl rfl) (aA (ax (au (au (ah (aa rfl (an rfl rfl) (aa rfl (bd rfl rfl rfl rfl) (aA (ax ?_)))))))))))
    refine bY rfl (fun he=> ?_) (fun he=> ?_)
    ·have he:bT M hi g < 0:=he
     have hstep:bE lo hi (im1, []) (g + 1)=(M,N):=by rw [bE,hMN];exact if_pos he
     (refine bI (aF (bt (ax (ah ?_))));apply aa rfl;exact bG rfl rfl rfl bL;refine aa rfl (an rfl rfl) (aA ?_))
     exact bu (g + 1,pre2,o2) ⟨hg',hpre⟩ (by show ng - (g + 1) < ng - g;omega) (Wk.of (by rw [hstep];exact ⟨rfl,rfl,rfl,rfl,rfl,rfl,rfl,aq⟩) (by rw [hstep];exact ⟨rfl,rfl,rfl,rfl,aq⟩) ⟨rfl,aq⟩)
    ·have he:¬bT M hi g < 0:=he
     (refine aU (ax (au (ah (aa rfl (an rfl rfl) (aa rfl (bH rfl rfl rfl) ?_)))));apply aa rfl;(exact aB (d:=0) rfl rfl rfl ae);apply aa rfl;exact aN rfl ae rfl rfl rfl rfl;apply aa rfl;exact an rfl rfl;apply aa rfl;exact aP rfl rfl rfl rfl rfl ae aY aC aZ;apply aa rfl;exact aM rfl ae rfl rfl rfl aK df;apply aa rfl;exact an rfl rfl;apply aa rfl;exact bn rfl rfl rfl rfl rfl ae aK aY aC aZ;apply aa rfl;exact br rfl ae rfl rfl rfl aK aK;refine aa rfl (ay rfl rfl) (aA (ax (au (ah (aa rfl (an rfl rfl) (aa rfl (bd rfl rfl rfl rfl) (aA (ax ?_)))))))))
     refine bY rfl (fun hf=> ?_) (fun hf=> ?_)
     ·have hf:bT M lo g≥0:=hf
      have hstep:bE lo hi (im1, []) (g + 1)=(M,N ++ [(bT M hi g,bT M lo g)]):=by rw [bE,hMN];exact (if_neg he).trans (if_pos hf)
      have hln:(o2 + ((p :: q) ++ N).length) * 2=(aV (pre2 ++ eR ((p :: q) ++ N))).length:=DN hpre _
      (refine ah (aa rfl (an rfl rfl) (aa rfl (an rfl rfl) (aa rfl (an rfl rfl) ?_)));apply aa rfl;(first | exact kY rfl rfl rfl ae | exact om (t:=80) (E:=127) rfl ae rfl);apply aa rfl;(first | exact kY rfl rfl rfl ae | exact om (t:=80) (E:=127) rfl ae rfl))
      refine Gc rfl (uW (k:=2) (m:=1) (E:=127) rfl ae rfl rfl rfl hln rfl (qp (k:=2) rfl rfl rfl rfl (Nat.le_refl _)) ab (by intro v hv;simp [aV] at hv;rcases hv with rfl | rfl<;>rfl) ab) ?_ ?_
      ·(refine aa rfl (ay rfl rfl) (aA (bp (ax (ah ?_))));apply aa rfl;exact bG rfl rfl rfl bL;refine aa rfl (an rfl rfl) (aA ?_))
       exact bu (g + 1, [],0) ⟨hg',rfl⟩ (by show ng - (g + 1) < ng - g;omega) (Wk.of (by rw [hstep];exact ⟨rfl,congrArg (fun x=>some (o1 (.sl 15 0 x))) (by simp;omega),rfl,rfl,rfl,rfl,rfl,aq⟩) (by rw [hstep];exact ⟨rfl,rfl,rfl,congrArg (fun l=>some (⟨true,127,2, .cz l⟩:Ch)) (Fx hpre (p :: q) N (bT M hi g) (bT M lo g)),aq⟩) ⟨rfl,aq⟩)
      ·(refine aa rfl (ay rfl rfl) (aA (bp (ax (ah ?_))));apply aa rfl;exact bG rfl rfl rfl bL;refine aa rfl (an rfl rfl) (aA ?_))
       exact bu (g + 1,pre2,o2) ⟨hg',hpre⟩ (by show ng - (g + 1) < ng - g;omega) (Wk.of (by rw [hstep];exact ⟨rfl,congrArg (fun x=>some (o1 (.sl 15 o2 x))) (by simp;omega),rfl,rfl,rfl,rfl,rfl,aq⟩) (by rw [hstep];exact ⟨rfl,rfl,rfl,congrArg (fun l=>some (⟨true,127,2, .cz l⟩:Ch)) (FW pre2 (p :: q) N (bT M hi g) (bT M lo g)),aq⟩) ⟨rfl,aq⟩)
     ·have hf:¬bT M lo g≥0:=hf
      have hstep:bE lo hi (im1, []) (g + 1)=(eo M lo g (bT M hi g),N):=by rw [bE,hMN];exact (if_neg he).trans (if_neg hf)
      (refine ah (aa rfl (an rfl rfl) (aa rfl (bH rfl rfl rfl) ?_));apply aa rfl;(exact aB (d:=0) rfl rfl rfl ae);apply aa rfl;exact aN rfl ae rfl rfl rfl rfl;apply aa rfl;exact an rfl rfl;apply aa rfl;exact aP rfl rfl rfl rfl rfl ae aY aC aZ;apply aa rfl;exact aM rfl ae rfl rfl rfl aK df;refine aa rfl (an rfl rfl) (aa rfl (an rfl rfl) ?_);apply aa rfl;exact bn rfl rfl rfl rfl rfl ae aK aY aC aZ;apply aa rfl;exact ct rfl rfl rfl rfl rfl aC aC ae;refine aA (bp (ax (ah ?_)));apply aa rfl;exact bG rfl rfl rfl bL;refine aa rfl (an rfl rfl) (aA ?_))
      exact bu (g + 1,pre2,o2) ⟨hg',hpre⟩ (by show ng - (g + 1) < ng - g;omega) (Wk.of (by rw [hstep];exact ⟨rfl,rfl,rfl,rfl,rfl,rfl,rfl,aq⟩) (by rw [hstep];exact ⟨rfl,rfl,rfl,rfl,aq⟩) ⟨rfl,aq⟩)
   ·obtain rfl:g=ng:=by omega
    rw [hAq] at hm1 hm2 hm3 hm4
    dsimp only at hm1 hm2 hm3 hm4
    have gl:(o2 + ((p :: q) ++ N).length) * 2≤(aV (pre2 ++ eR ((p :: q) ++ N))).length:=Nat.le_of_eq (DN hpre _)
    (refine bI (aF (aF (bt (bp (ax (ah (aa rfl (an rfl rfl) ?_)))))));apply aa rfl;(exact eU (k:=2) (l:=1) rfl rfl rfl rfl ae ab (fC rfl rfl) fG (by simp) (Nat.le_refl _) gl);refine aa rfl (ay rfl rfl) (aA ?_))
    exact bu (M,less1.set hi (lo:Int),q ++ N,pre2 ++ [p.1,p.2],o2 + 1) ⟨hm2,by rw [List.length_set];exact hn1,by rw [←hn1];exact hm3,by show fuel _ (less1.set hi (lo:Int)) (q ++ N)≤2100000;omega,by show ident _ _ _ (q ++ N)=R;rw [←hm1];exact hr,by simp;omega⟩ (by show fuel _ _ (q ++ N) < fuel _ less1 (p :: q);exact hm4) (Wk.of ⟨rfl,rfl,aq⟩ ⟨rfl,rfl,rfl,congrArg (fun l=>some (Cz l)) (show pre2 ++ eR ((p :: q) ++ N)=(pre2 ++ [p.1,p.2]) ++ eR (q ++ N) by simp [eR]),aq⟩ ⟨rfl,aq⟩)
 ·obtain rfl:qq= []:=by
   cases qq with
   | nil=>rfl
   | cons p q=>simp at hlt
  rw [tk] at hr
  subst hr
  (refine bI ?_;refine aF ?_;refine aF ?_;refine bt ?_)
  exact iE (.inr rfl) rfl ⟨rfl,rfl,rfl,aq⟩ ⟨rfl,aq⟩
end Go.Proofs.Ytfpcfckocmmcnaa
namespace Go.Proofs.Ytfpcfckocmmcnaa
open Go.RowKit
theorem Cf {im:List (List Int)} {c d g:Nat} :eo (eo im c g (d:Int)) d g (c:Int)=eo (eo im d g (c:Int)) c g (d:Int):=by
 by_cases e:c=d
 ·subst e;rfl
 ·unfold eo
  rw [nT,if_neg (fun h=>e h.1),nT,if_neg (fun h=>e h.1.symm),List.set_comm _ _ e]
def gO (ng:Nat) (im:List (List Int)) (less:List Int) (b:Bool) (c:Nat) (w:List Nat):dR:=
 if b=true then (if w.length=1 then ((cV ng im less c w).1,(cV ng im less c w).2.1,true) else (im,less,true)) else cV ng im less c w
theorem xB {ng c:Nat} {im:List (List Int)} {less:List Int} {w:List Nat} {g:Nat} {M:List (List Int)} {N:List Int} {d:Nat} (hw:w.getLast?=some g) (hg:gX ng (im,less,false,c) w.dropLast=(M,N,false,d)):
  cV ng im less c w=if 0≤image M N d g then ((ident ng M N [(image M N d g,(c:Int))]).1,(ident ng M N [(image M N d g,(c:Int))]).2,false)
   else if 0≤image M N c g then ((ident ng M N [(image M N c g,(d:Int))]).1,(ident ng M N [(image M N c g,(d:Int))]).2,false)
   else (eo (eo M d g c) c g d,N,false):=by
 unfold cV;rw [hw];dsimp only;rw [hg];rfl
theorem wN {ng c:Nat} {im:List (List Int)} {less:List Int} {w:List Nat} {g:Nat} {M:List (List Int)} {N:List Int} {d:Nat} (hw:w.getLast?=some g) (hg:gX ng (im,less,false,c) w.dropLast=(M,N,true,d)):
  cV ng im less c w=(M,N,true):=by
 unfold cV;rw [hw];dsimp only;rw [hg];rfl
theorem DH {ng:Nat} {s s':List (List Int)×List Int×Bool×Nat} {w:List Nat} {k:Nat} (h:gX ng s (w.take k)=s') (hf:s'.2.2.1=true):gX ng s w=s':=by
 rw [←List.take_append_drop k w,me,h,gZ hf]
theorem pH (ng n:Nat) (im:List (List Int)) (less:List Int) (b:Bool) (c:Nat) (words:List (List Int)) (j wl:Nat) (W:List Int) (hnn:less.length=n) (hw:WF ng im less) (hb:b=true→less.length=2000) (hc:c < less.length) (hn:less.length≤2000) (hng:ng≤1000) (hj:j < words.length) (hW:aT words j=W) (hwl:W.length=wl) (hwb:wl≤1000000000) (hlet:bA ng W) (C:dR) (hC:gO ng im less b c (W.map Int.toNat)=C):
  FC Try.prog 72 [(1010,nJ n n b),(1000,cS im),(1001,cD less),(1002,bh words)] [o1 (.ptr 1010 0),o1 (.esl 1002 j 0 wl),vv (I6 c)] [(1010,nJ C.2.1.length C.2.1.length C.2.2),(1000,cS C.1),(1001,cD C.2.1)] (.tup []) [(0,o1 (.ptr 1010 0))]:=by
 subst hnn hwl
 have hrow:(bU words)[j]? =some (aV W):=by rw [←hW];exact bV hj
 have hWl:(aV W).length=W.length:=bD W
 refine cu (nt:=76) Try.func72 rfl rfl (by simp) fun w0 ω0=> ?_
 (refine au (au (ah (aa rfl (an rfl rfl) (aa rfl (bF rfl rfl rfl ae) ?_))));refine aa rfl (bd rfl rfl rfl rfl) (aA (ax ?_)))
 refine bf rfl (fun h0=> ?_) (fun h0=> ?_)
 ·obtain rfl:W= []:=by simpa using h0
  have hCe:C=(im,less,b):=by
   rw [←hC];unfold gO;cases b<;>rfl
  subst hCe
  (refine bw ?_;refine aJ ?_)
  exact iE (.inl rfl) rfl ⟨rfl,rfl,rfl,aq⟩ ⟨rfl,aq⟩
 ·have hpos:0 < W.length:=List.length_pos_iff.2 (by simpa using h0)
  obtain ⟨L,hL⟩:∃L,W.map Int.toNat=L:=⟨_,rfl⟩
  have hLl:L.length=W.length:=by rw [←hL];simp
  have hget:∀k,k < W.length→∃g:Nat,g < ng∧L[k]? =some g∧aD W k=(g:Int):=fun k hk=>by
   have hz:=hlet (aD W k) (jm hk)
   refine ⟨(aD W k).toNat,ab, ?_,(Int.toNat_of_nonneg hz.1).symm⟩
   rw [←hL,List.getElem?_map,List.getElem?_eq_getElem hk,cA hk];rfl
  have hdl:L.dropLast=L.take (W.length - 1):=by rw [List.dropLast_eq_take,hLl]
  rw [hL] at hC
  have hws:IntKind.i64.wrap ((W.length:Int) - 1)=((W.length - 1:Nat):Int):=by rw [IntWalk.i64_in _ ab];omega
  (refine aU (ax (au (ah (aa rfl (an rfl rfl) (aa rfl (ay rfl rfl) (aA (ax (au (ah (aa rfl (an rfl rfl) (aa rfl (bF rfl rfl rfl ae) ?_)))))))))));apply aa rfl;(first | exact kI rfl rfl rfl hws | exact qm (l:=W.length - 1) rfl rfl rfl rfl hrow ae rfl rfl ab (Nat.le_of_eq hWl.symm));refine aa rfl (ay rfl rfl) (aA (ax (au (au (ah (aa rfl (an rfl rfl) (aa rfl (an rfl rfl) ?_)))))));apply aa rfl;(first | exact kI rfl rfl rfl hws | exact qm (l:=W.length - 1) rfl rfl rfl rfl hrow ae rfl rfl ab (Nat.le_of_eq hWl.symm));apply aa rfl;exact bF rfl rfl rfl ae;refine aa rfl (an rfl rfl) (aA (ax (aQ ?_))))
  refine bR (fun q:Nat×List (List Int)×List Int×Nat=>St.of [(0,o1 (.ptr 1010 0)),(1,o1 (.esl 1002 j 0 W.length)),(2,vv (I6 c)),(6,vv (I6 q.2.2.2)),(7,vv (I6 ((W.length - 1:Nat):Int))),(23,o1 (.esl 1002 j 0 (W.length - 1))),(24,vv (I6 ((W.length - 1:Nat):Int))),(25,vv (I6 q.1))]
    [(1010,nJ q.2.2.1.length q.2.2.1.length b),(1000,cS q.2.1),(1001,cD q.2.2.1),(1002,bh words)] [(0,o1 (.ptr 1010 0))])
   (fun q=>q.1≤W.length - 1∧gX ng (im,less,false,c) (L.take q.1)=(q.2.1,q.2.2.1,false,q.2.2.2)∧(b=true→q.1=0)) (fun q=>W.length - 1 - q.1) (0,im,less,c) ⟨Nat.zero_le _,rfl,fun _=>rfl⟩ (Wk.of ⟨rfl,rfl,rfl,rfl,rfl,rfl,rfl,rfl,aq⟩ ⟨rfl,rfl,rfl,rfl,aq⟩ ⟨rfl,aq⟩) ?_
  rintro ⟨k,M,N,d⟩ ⟨hk,hgo,hb0⟩
  dsimp only at hk hgo hb0 ⊢
  have hok:ux ng less.length (M,N,false,d):=by
   have:=mO (ng:=ng) (n0:=less.length) (L.take k) (im,less,false,c) ⟨hw,Nat.le_refl _,hn,hc⟩ fun g hg=>by
    have hg:=List.mem_of_mem_take hg
    rw [←hL] at hg
    exact hlet.nat g hg
   rwa [hgo] at this
  have hMw:WF ng M N:=hok.wf
  have hMn:M.length=N.length:=hMw.len
  have hdN:d < N.length:=hok.d
  have hNhi:N.length≤2000:=hok.hi
  have hlN:less.length≤N.length:=hok.lo
  have hbN:b=true→N.length=2000:=fun hbt=>by have:=hb hbt;omega
  (refine au (ah (aa rfl (bd rfl rfl rfl rfl) (aA (ax (au ?_))))))
  refine bY rfl (fun hlt=> ?_) (fun hlt=> ?_)
  ·have hlt':k < W.length - 1:=by omega
   obtain ⟨g,hg,hLk,hgk⟩:=hget k ab
   have hgv:(aV W)[k]? =some (I6 (g:Int)):=by rw [ck ab,hgk]
   have hgo':gX ng (im,less,false,c) (L.take (k + 1))=bZ ng M N d g:=by
    rw [List.take_add_one,hLk,me,hgo];rfl
   have hI:=mi M N N.length N.length d g b hMn rfl hMw.down ab (by rw [hMw.row d ab];exact hg) (hMw.bT d g ab hg)
   (refine aU (ax (au (aQ (au (ah ?_)))));apply aa rfl;exact bn rfl rfl rfl rfl rfl ae aK aY aC aZ;apply aa rfl;exact br rfl ae rfl rfl rfl aK aK;refine aa rfl (ay rfl rfl) (aA (ax (au (ah (aa rfl (an rfl rfl) (aa rfl (an rfl rfl) (aa rfl (an rfl rfl) ?_)))))));apply aa rfl;(apply aI 75;exact aL hI ae rfl rfl ⟨rfl,rfl,rfl,aq⟩ ⟨⟨_,rfl, .inr rfl⟩,⟨_,rfl, .inr rfl⟩,⟨_,rfl, .inr rfl⟩,aq⟩ rfl rfl);refine aa rfl (ay rfl rfl) (aA (ax (au (au (ah (aa rfl (an rfl rfl) (aa rfl (bd rfl rfl rfl rfl) (aA (ax ?_))))))))))
   have hgl:W.length - 1 < W.length:=by omega
   obtain ⟨gl,_,hLg,_⟩:=hget (W.length - 1) hgl
   have hlast:L.getLast?=some gl:=by rw [List.getLast?_eq_getElem?,hLl];exact hLg
   have hw1:L.length≠1:=by omega
   refine bf rfl (fun he=> ?_) (fun he=> ?_)
   ·have he:image M N d g < 0:=by simpa using he
    have hent:¬0≤bT M d g:=fun h=>by unfold image at he;rw [if_neg ab] at he;omega
    by_cases hfull:N.length=2000
    ·have hD:=ox M N N.length N.length d g b hMn ab
     have hnx:bZ ng M N d g=(M,N,true,0):=by unfold bZ;rw [if_neg hent,if_pos hfull]
     have hCe:C=(M,N,true):=by
      rw [←hC];unfold gO
      cases b with
      | true=>
       rw [if_pos rfl,if_neg hw1]
       obtain rfl:k=0:=hb0 rfl
       simp only [List.take_zero,gX,Prod.mk.injEq] at hgo
       rw [hgo.1,hgo.2.1]
      | false=>
       rw [if_neg (by simp)]
       refine wN hlast (d:=0) ?_
       rw [hdl]
       refine DH (k:=k + 1) (by rw [List.take_take,Nat.min_eq_left ab,hgo',hnx]) rfl
     subst hCe
     (refine ah (aa rfl (an rfl rfl) (aa rfl (an rfl rfl) (aa rfl (an rfl rfl) ?_)));apply aa rfl;(apply aI 74;exact cX [(0,1010)] hD ae rfl rfl ⟨rfl,rfl,rfl,aq⟩ ⟨⟨_,rfl, .inl rfl⟩,⟨_,rfl, .inl rfl⟩,⟨_,rfl, .inl rfl⟩,aq⟩ ⟨rfl,rfl,rfl,aq⟩ rfl rfl);refine aa rfl (ay rfl rfl) (aA (ax (au (au (ah (aa rfl (an rfl rfl) (aa rfl (bH rfl rfl rfl) ?_)))))));apply aa rfl;(exact aB (d:=2) rfl rfl rfl ae);apply aa rfl;exact aN rfl ae rfl rfl rfl rfl;refine aA (ax ?_))
     refine bf rfl (fun _=> ?_) (fun e=>by cases e)
     (refine bw ?_;refine aJ ?_;refine aX ?_;refine aJ ?_;refine aJ ?_;refine aX ?_;refine aJ ?_)
     exact iE (.inl rfl) rfl ⟨rfl,rfl,rfl,aq⟩ ⟨rfl,aq⟩
    ·obtain rfl:b=false:=by
      cases b with
      | false=>rfl
      | true=>exact absurd (hbN rfl) hfull
     have hD:=rG ng M N N.length N.length d g false hMn rfl ab hMw hdN hg hng
     have hnx:bZ ng M N d g=(mQ ng M N.length d g,N ++ [(N.length:Int)],false,N.length):=by unfold bZ;rw [if_neg hent,if_neg hfull]
     have hsn:(N ++ [(N.length:Int)]).length=N.length + 1:=by simp
     (refine ah (aa rfl (an rfl rfl) (aa rfl (an rfl rfl) (aa rfl (an rfl rfl) ?_)));apply aa rfl;(apply aI 74;exact cX [(0,1010)] hD ae rfl rfl ⟨rfl,rfl,rfl,aq⟩ ⟨⟨_,rfl, .inl rfl⟩,⟨_,rfl, .inl rfl⟩,⟨_,rfl, .inl rfl⟩,aq⟩ ⟨rfl,rfl,rfl,aq⟩ rfl rfl);refine aa rfl (ay rfl rfl) (aA (ax (au (au (ah (aa rfl (an rfl rfl) (aa rfl (bH rfl rfl rfl) ?_)))))));apply aa rfl;(exact aB (d:=2) rfl rfl rfl ae);apply aa rfl;exact aN rfl ae rfl rfl rfl rfl;refine aA (ax ?_))
     refine bf rfl (fun e=>by cases e) (fun _=> ?_)
     (refine aU (ax (ah (aa rfl (an rfl rfl) (aa rfl (ay rfl rfl) (aA (bp (ax (ah ?_))))))));apply aa rfl;exact bG rfl rfl rfl bL;refine aa rfl (an rfl rfl) (aA ?_))
     exact bu (k + 1,mQ ng M N.length d g,N ++ [(N.length:Int)],N.length) ⟨hlt',hgo'.trans hnx,fun e=>by cases e⟩ (by show W.length - 1 - (k + 1) < W.length - 1 - k;omega) (Wk.of ⟨rfl,rfl,rfl,rfl,rfl,rfl,rfl,rfl,aq⟩ ⟨by rw [hsn];rfl,rfl,rfl,rfl,aq⟩ ⟨rfl,aq⟩)
   ·have he:¬image M N d g < 0:=by simpa using he
    have hent:0≤bT M d g:=by
     rcases Int.lt_or_le (bT M d g) 0 with h | h
     ·exfalso;apply he;unfold image;rw [if_pos h];omega
     ·exact h
    have hie:image M N d g=(root N (bT M d g).toNat:Nat):=by unfold image;rw [if_neg ab]
    have hnx:bZ ng M N d g=(M,N,false,root N (bT M d g).toNat):=by unfold bZ;rw [if_pos hent]
    (refine aU (ax (au (au (ah (aa rfl (an rfl rfl) (aa rfl (bH rfl rfl rfl) ?_))))));apply aa rfl;(exact aB (d:=2) rfl rfl rfl ae);apply aa rfl;exact aN rfl ae rfl rfl rfl rfl;refine aA (ax ?_))
    refine bf rfl (fun hbt=> ?_) (fun hbf=> ?_)
    ·subst hbt
     obtain rfl:k=0:=hb0 rfl
     simp only [List.take_zero,gX,Prod.mk.injEq] at hgo
     obtain ⟨rfl,rfl,_,rfl⟩:=hgo
     have hCe:C=(im,less,true):=by rw [←hC];unfold gO;rw [if_pos rfl,if_neg hw1]
     subst hCe
     (refine bw ?_;refine aJ ?_;refine aX ?_;refine aJ ?_;refine aJ ?_;refine aX ?_;refine aJ ?_)
     exact iE (.inl rfl) rfl ⟨rfl,rfl,rfl,aq⟩ ⟨rfl,aq⟩
    ·subst hbf
     (refine aU (ax (ah (aa rfl (an rfl rfl) (aa rfl (ay rfl rfl) (aA (bp (ax (ah ?_))))))));apply aa rfl;exact bG rfl rfl rfl bL;refine aa rfl (an rfl rfl) (aA ?_))
     exact bu (k + 1,M,N,root N (bT M d g).toNat) ⟨hlt',hgo'.trans hnx,fun e=>by cases e⟩ (by show W.length - 1 - (k + 1) < W.length - 1 - k;omega) (Wk.of ⟨rfl,rfl,rfl,by rw [←hie];rfl,rfl,rfl,rfl,rfl,aq⟩ ⟨rfl,rfl,rfl,rfl,aq⟩ ⟨rfl,aq⟩)
  ·obtain rfl:k=W.length - 1:=by omega
   obtain ⟨g,hg,hLk,hgk⟩:=hget (W.length - 1) ab
   have hlast:L.getLast?=some g:=by rw [List.getLast?_eq_getElem?,hLl];exact hLk
   have hgv:(aV W)[W.length - 1]? =some (I6 (g:Int)):=by rw [ck ab,hgk]
   rw [←hdl] at hgo
   have hcl:=xB hlast hgo
   have hw1:b=true→L.length=1:=fun hbt=>by have:=hb0 hbt;omega
   have hCe:C=((cV ng im less c L).1,(cV ng im less c L).2.1,b):=by
    rw [←hC];unfold gO
    cases b with
    | true=>rw [if_pos rfl,if_pos (hw1 rfl)]
    | false=>rw [if_neg (by simp)];rw [hcl];(split;· rfl);split<;>rfl
   have hcN:c < N.length:=by omega
   have hI1:=mi M N N.length N.length d g b hMn rfl hMw.down ab (by rw [hMw.row d ab];exact hg) (hMw.bT d g ab hg)
   have hI2:=mi M N N.length N.length c g b hMn rfl hMw.down ab (by rw [hMw.row c ab];exact hg) (hMw.bT c g ab hg)
   have hil1:=eG hMw hdN hg
   have hil2:=eG hMw hcN hg
   have hwd:(aT M d).length=ng:=hMw.row d ab
   have hwc:(aT M c).length=ng:=hMw.row c ab
   generalize image M N d g=e at *
   generalize image M N c g=f at *
   (refine bI (aF (aF (bt (ax (au (ah (aa rfl (an rfl rfl) (aa rfl (an rfl rfl) ?_))))))));apply aa rfl;exact bn rfl rfl rfl rfl rfl ae aK aY aC aZ;apply aa rfl;exact br rfl ae rfl rfl rfl aK aK;refine aa rfl (ay rfl rfl) (aA (ax (au (ah (aa rfl (an rfl rfl) (aa rfl (an rfl rfl) (aa rfl (an rfl rfl) ?_)))))));apply aa rfl;(apply aI 75;first | exact aL hI1 ae rfl rfl ⟨rfl,rfl,rfl,aq⟩ ⟨⟨_,rfl, .inr rfl⟩,⟨_,rfl, .inr rfl⟩,⟨_,rfl, .inr rfl⟩,aq⟩ rfl rfl | exact aL hI2 ae rfl rfl ⟨rfl,rfl,rfl,aq⟩ ⟨⟨_,rfl, .inr rfl⟩,⟨_,rfl, .inr rfl⟩,⟨_,rfl, .inr rfl⟩,aq⟩ rfl rfl);refine aa rfl (an rfl rfl) (aa rfl (an rfl rfl) (aa rfl (an rfl rfl) ?_));apply aa rfl;(apply aI 75;first | exact aL hI1 ae rfl rfl ⟨rfl,rfl,rfl,aq⟩ ⟨⟨_,rfl, .inr rfl⟩,⟨_,rfl, .inr rfl⟩,⟨_,rfl, .inr rfl⟩,aq⟩ rfl rfl | exact aL hI2 ae rfl rfl ⟨rfl,rfl,rfl,aq⟩ ⟨⟨_,rfl, .inr rfl⟩,⟨_,rfl, .inr rfl⟩,⟨_,rfl, .inr rfl⟩,aq⟩ rfl rfl);refine aa rfl (ay rfl rfl) (aa rfl (ay rfl rfl) (aA (ax (aQ (au (ah (aa rfl (an rfl rfl) (aa rfl (bd rfl rfl rfl rfl) (aa rfl (ay rfl rfl) (aA (ax ?_))))))))))))
   refine bf rfl (fun he=> ?_) (fun he=> ?_)
   ·have he:0≤e:=by simp at he;omega
    rw [if_pos he] at hcl
    rw [hcl] at hCe
    dsimp only at hCe
    have hId:=nH ng N.length M N e.toNat c b rfl hMw ab hcN hNhi hng
    rw [Int.toNat_of_nonneg he] at hId
    have hlen:=(iG (q:= [(e,(c:Int))]) hMw rfl (fun p hp=>by simp at hp;subst hp;exact ⟨⟨he,by dsimp only;omega⟩,by dsimp only;omega,by dsimp only;omega⟩)).2
    subst hCe
    (refine ah (aa rfl (an rfl rfl) (aa rfl (an rfl rfl) (aa rfl (an rfl rfl) ?_)));apply aa rfl;(apply aI 91;exact cX [(0,1010)] hId ae rfl rfl ⟨rfl,rfl,rfl,aq⟩ ⟨⟨_,rfl, .inl rfl⟩,⟨_,rfl, .inl rfl⟩,⟨_,rfl, .inl rfl⟩,aq⟩ ⟨rfl,rfl,rfl,aq⟩ rfl rfl);refine aA (bp ?_))
    exact iE (.inr rfl) rfl ⟨by dsimp only;rw [hlen];rfl,rfl,rfl,aq⟩ ⟨rfl,aq⟩
   ·have he:¬0≤e:=by simp at he;omega
    rw [if_neg he] at hcl
    (refine au (ah (aa rfl (an rfl rfl) (aa rfl (bd rfl rfl rfl rfl) (aa rfl (ay rfl rfl) (aA (ax ?_)))))))
    refine bf rfl (fun hf=> ?_) (fun hf=> ?_)
    ·have hf:0≤f:=by simp at hf;omega
     rw [if_pos hf] at hcl
     rw [hcl] at hCe
     dsimp only at hCe
     have hId:=nH ng N.length M N f.toNat d b rfl hMw ab hdN hNhi hng
     rw [Int.toNat_of_nonneg hf] at hId
     have hlen:=(iG (q:= [(f,(d:Int))]) hMw rfl (fun p hp=>by simp at hp;subst hp;exact ⟨⟨hf,by dsimp only;omega⟩,by dsimp only;omega,by dsimp only;omega⟩)).2
     subst hCe
     (refine ah (aa rfl (an rfl rfl) (aa rfl (an rfl rfl) (aa rfl (an rfl rfl) ?_)));apply aa rfl;(apply aI 91;exact cX [(0,1010)] hId ae rfl rfl ⟨rfl,rfl,rfl,aq⟩ ⟨⟨_,rfl, .inl rfl⟩,⟨_,rfl, .inl rfl⟩,⟨_,rfl, .inl rfl⟩,aq⟩ ⟨rfl,rfl,rfl,aq⟩ rfl rfl);refine aA (bp ?_))
     exact iE (.inr rfl) rfl ⟨by dsimp only;rw [hlen];rfl,rfl,rfl,aq⟩ ⟨rfl,aq⟩
    ·have hf:¬0≤f:=by simp at hf;omega
     rw [if_neg hf] at hcl
     rw [hcl] at hCe
     dsimp only at hCe
     have hLk:=xR M N N.length N.length c d g b hMn ab ab ab ab
     rw [Cf] at hLk
     subst hCe
     (refine ah (aa rfl (an rfl rfl) (aa rfl (an rfl rfl) (aa rfl (an rfl rfl) (aa rfl (an rfl rfl) ?_))));apply aa rfl;(apply aI 92;exact cX [(0,1010)] hLk ae rfl rfl ⟨rfl,rfl,rfl,rfl,aq⟩ ⟨⟨_,rfl, .inl rfl⟩,⟨_,rfl, .inl rfl⟩,⟨_,rfl, .inl rfl⟩,aq⟩ ⟨rfl,rfl,rfl,aq⟩ rfl rfl);refine aA (bp ?_))
     exact iE (.inr rfl) rfl ⟨rfl,rfl,rfl,aq⟩ ⟨rfl,aq⟩
end Go.Proofs.Ytfpcfckocmmcnaa
namespace Go.Proofs.Ytfpcfckocmmcnaa
theorem wL {ng n0:Nat} :∀(w:List Nat) (s:List (List Int)×List Int×Bool×Nat),ux ng n0 s→(∀g∈w,g < ng)→(s.2.2.1=true→s.2.1.length=2000)→(gX ng s w).2.2.1=true→(gX ng s w).2.1.length=2000
 | [],s,_,_,h,hf=>h hf
 | g :: r,s,h,hg,hs,hf=>by
  unfold gX at hf ⊢
  by_cases e:s.2.2.1=true
  ·rw [if_pos e] at hf ⊢;exact hs e
  ·rw [if_neg e] at hf ⊢
   obtain ⟨h1,h2,h3,h4,h5⟩:=gQ h.wf h.d (hg g (by simp)) h.hi
   exact wL (n0:=n0) r _ ⟨h1,Nat.le_trans h.lo h2,h3,h4⟩ (fun x hx=>hg x (by simp [hx])) h5 hf
theorem wh {ng:Nat} {im:List (List Int)} {less:List Int} {c:Nat} {w:List Nat} (h:WF ng im less) (hc:c < less.length) (hn:less.length≤2000) (hg:∀g∈w,g < ng) (hf:(cV ng im less c w).2.2=true):(cV ng im less c w).2.1.length=2000:=by
 unfold cV at hf ⊢
 cases hw:w.getLast? with
 | none=>rw [hw] at hf;cases hf
 | some g=>
  rw [hw] at hf
  have hfull:=wL (n0:=less.length) w.dropLast (im,less,false,c) ⟨h,Nat.le_refl _,hn,hc⟩ (fun x hx=>hg x (List.dropLast_subset _ hx)) (fun e=>by cases e)
  generalize gX ng (im,less,false,c) w.dropLast=s at *
  dsimp only at hf ⊢
  by_cases e:s.2.2.1=true
  ·rw [if_pos e];exact hfull e
  ·rw [if_neg e] at hf
   split at hf
   ·cases hf
   ·split at hf<;>cases hf
structure yk (ng n:Nat) (s:dR):Prop where
 ok:cy ng n s
 full:s.2.2=true→s.2.1.length=2000
def kV (ng:Nat) (s:dR) (w:List Int):dR:=gO ng s.1 s.2.1 s.2.2 0 (w.map Int.toNat)
theorem tu {ng n c:Nat} {s:dR} {w:List Nat} (h:yk ng n s) (hc:c < n) (hw:∀g∈w,g < ng):yk ng n (gO ng s.1 s.2.1 s.2.2 c w):=by
 have hcl:c < s.2.1.length:=Nat.lt_of_lt_of_le hc h.ok.lo
 have hk:=oW h.ok.wf hcl h.ok.hi hw
 unfold gO
 split
 ·rename_i hb
  have hl:=h.full hb
  split
  ·refine ⟨⟨hk.wf,Nat.le_trans h.ok.lo hk.lo,hk.hi⟩,fun _=> ?_⟩
   have h1:=hk.lo
   have h2:=hk.hi
   dsimp only
   omega
  ·exact ⟨⟨h.ok.wf,h.ok.lo,h.ok.hi⟩,fun _=>hl⟩
 ·exact ⟨⟨hk.wf,Nat.le_trans h.ok.lo hk.lo,hk.hi⟩,fun hf=>wh h.ok.wf hcl h.ok.hi hw hf⟩
theorem A3 {ng n:Nat} {s:dR} {w:List Int} (h:yk ng n s) (hn:0 < n) (hw:bA ng w):yk ng n (kV ng s w):=tu h hn hw.nat
theorem yO {ng n c:Nat} {s:dR} {w:List Int} (h:yk ng n s) (hc:c < n) (hw:bA ng w):yk ng n (cT ng c s w):=by
 unfold cT
 split
 ·rename_i hl
  have hb:s.2.2=false:=by unfold eQ at hl;simp at hl;exact hl.2
  have:=tu h hc hw.nat
  unfold gO at this
  rwa [hb,if_neg (by simp)] at this
 ·exact h
theorem AN {ng n c g:Nat} {s:dR} (h:yk ng n s) (hc:c < n) (hg:g < ng):yk ng n (dk ng c s g):=by
 refine ⟨ku h.ok hc hg, ?_⟩
 unfold dk
 split
 ·exact (gQ h.ok.wf (Nat.lt_of_lt_of_le hc h.ok.lo) hg h.ok.hi).2.2.2.2
 ·exact h.full
theorem yA (ng:Nat):yk ng 1 (dH ng):=⟨jb ng,fun h=>by cases h⟩
def BR (ng:Nat) (rels words:List (List Int)):dR:=outer ng rels 2001 0 (words.foldl (kV ng) (dH ng))
theorem mG {ng:Nat} {s:dR} (h:s.2.2=true) (w:List Int):(kV ng s w).2.2=true:=by
 unfold kV gO
 rw [if_pos h];split<;>rfl
theorem tI {ng:Nat} :∀(words:List (List Int)) (s s':dR),(s=s'∨(s.2.2=true∧s'.2.2=true))→(words.foldl (dF ng) s=words.foldl (kV ng) s'∨((words.foldl (dF ng) s).2.2=true∧(words.foldl (kV ng) s').2.2=true))
 | [],s,s',h=>h
 | w :: r,s,s',h=>by
  refine tI r _ _ ?_
  rcases h with rfl | ⟨h1,h2⟩
  ·by_cases e:s.2.2=true
   ·right
    exact ⟨by rw [il e];exact e,mG e w⟩
   ·left
    unfold dF kV gO
    rw [if_neg e,if_neg e]
  ·right
   exact ⟨by rw [il h1];exact h1,mG h2 w⟩
theorem pf (ng:Nat) (rels words:List (List Int)):dq ng rels words=BR ng rels words∨((dq ng rels words).2.2=true∧(BR ng rels words).2.2=true):=by
 unfold dq BR
 rcases tI (ng:=ng) words (dH ng) (dH ng) (.inl rfl) with h | ⟨h1,h2⟩
 ·left;rw [h]
 ·right;rw [gP h1,gP h2];exact ⟨h1,h2⟩
end Go.Proofs.Ytfpcfckocmmcnaa
