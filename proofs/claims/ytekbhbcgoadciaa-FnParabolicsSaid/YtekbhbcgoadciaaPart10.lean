/- Coset enumeration: l11Table where the procedure does not fail. guards: -/
import Derived.Test.YtekbhbcgoadciaaPart9
import Derived.Test.YtekbhbcgoadciaaPart4
import Derived.Test.YtekbhbcgoadciaaPart5
namespace Go.Proofs.Ytekbhbcgoadciaa
open Go.RowKit
def iq (n j:Nat):List Int:=(List.range n).map fun i=>if 1≤i∧i < j then -1 else 0
theorem eb (n j:Nat):(iq n j).length=n:=by simp [iq]
theorem iD {n j i:Nat} (h:i < n):aC (iq n j) i=if 1≤i∧i < j then -1 else 0:=by simp [aC,iq,h]
theorem uQ (n:Nat):iq n 1=List.replicate n 0:=by
 refine mj (by rw [eb];simp) fun k hk=> ?_
 rw [eb] at hk
 rw [iD hk,if_neg (by omega),fb hk]
theorem uv {n j:Nat} (h:1≤j) (hj:j < n):(iq n j).set j (-1)=iq n (j + 1):=by
 refine mj (by rw [List.length_set,eb,eb]) fun k hk=> ?_
 rw [List.length_set,eb] at hk
 rw [ck,iD hk,iD hk,eb]
 by_cases e:j=k
 ·subst e;rw [if_pos ⟨rfl,hj⟩,if_pos ⟨h,by omega⟩]
 ·rw [if_neg (fun h=>e h.1)]
  by_cases e2:1≤k∧k < j
  ·rw [if_pos e2,if_pos ⟨e2.1,by omega⟩]
  ·rw [if_neg e2,if_neg (by omega)]
theorem tu {n j:Nat} (h0:0 < n) (h:n≤j):iq n j=(dv n).2:=by
 refine mj (by rw [eb];simp [dv]) fun k hk=> ?_
 rw [eb] at hk
 show _=aC ((List.replicate n (-1)).set 0 0) k
 rw [iD hk,ck,fb hk]
 by_cases e:0=k
 ·subst e;rw [if_neg (by omega),if_pos ⟨rfl,by simpa using h0⟩]
 ·rw [if_pos (by omega),if_neg (fun h=>e h.1)]
def gI (im:List (List Int)) (less:List Int) (s:iE) (g k:Nat):Int:=aC s.2 (image im less (aC s.1 k).toNat g).toNat
theorem pc (ng:Nat) (im:List (List Int)) (less:List Int):cF ng im less=(List.range ng).map fun g=>(List.range (bS ng im less).1.length).map (gI im less (bS ng im less) g):=by
 unfold cF
 refine List.map_congr_left fun g _=> ?_
 refine List.ext_getElem (by simp) fun k h1 h2=> ?_
 simp at h1
 simp [gI,aC,h1]
theorem lS {ng:Nat} {im:List (List Int)} {less:List Int} {f i:Nat} {s:iE} (h:i < s.1.length):cM ng im less (f + 1) i s=cM ng im less f (i + 1) (kt ng im less i s):=by rw [cM,if_pos h]
set_option maxRecDepth 100000 in
set_option maxHeartbeats 4000000 in
theorem pX (ng:Nat) (rels words:List (List Int)) (R m:Nat) (hR:rels.length=R) (hm:words.length=m) (hr:∀w∈rels,a9 ng w) (hw:∀w∈words,a9 ng w) (hng:ng≤1000) (hrl:∀w∈rels,w.length≤1000000000) (hwl:∀w∈words,w.length≤1000000000) (hR2:R≤1000000000) (hm2:m≤1000000000) (hf:(cB ng rels words).2.2=false):
  FC Try.prog 24 [(1002,aV words),(1003,aV rels)] [.s (.agg [.val (I6 ng), .sl 1003 0 R]),o1 (.sl 1002 0 m)] [(69,cz (cF ng (cB ng rels words).1 (cB ng rels words).2.1))] (.tup [.one (.sl 69 0 ng), .one (.val (.bool true))]) []:=by
 have hRun:=qx ng rels words R m hR hm hr hw hng hrl hwl hR2 hm2 _ rfl
 have hF:=ja hr hw hf
 have hhi:=(re hr hw).hi
 obtain ⟨X,hX⟩:∃X,cB ng rels words=X:=⟨_,rfl⟩
 rw [hX] at hRun hF hhi hf ⊢
 clear hX
 obtain ⟨im,less,bb⟩:=X
 dsimp only at hRun hF hhi hf ⊢
 subst hf
 have hn0:=hF.pos
 have him:im.length=less.length:=hF.wf.len
 have hts:=gh hF
 refine bc (nt:=101) Try.func24 rfl rfl (by simp) fun w0 ω0=> ?_
 (refine ah ?_;refine ab ?_;apply aa rfl;(exact cS rfl rfl rfl rfl);apply aa rfl;(exact ag rfl rfl);apply aa rfl;(exact ag rfl rfl);refine aj ?_;refine ai ?_;refine ah ?_;refine ab ?_;apply aa rfl;(exact a3 rfl rfl rfl rfl rfl rfl (by as_aux_lemma=>kernel_rfl));apply aa rfl;(exact ae rfl rfl);apply aa rfl;(apply ak 48;exact ct [] hRun (by as_aux_lemma=>kernel_rfl) rfl rfl ⟨⟨.inl rfl, .inl rfl,trivial⟩,rfl,trivial⟩ ⟨⟨_,rfl, .inl rfl⟩,⟨_,rfl, .inl rfl⟩,trivial⟩ trivial rfl rfl);apply aa rfl;(exact b7 [.slice none 0 0, .slice none 0 0, .bool false] rfl (by as_aux_lemma=>kernel_rfl));apply aa rfl;(exact a6 rfl rfl rfl rfl rfl rfl rfl rfl (by as_aux_lemma=>kernel_rfl) rfl);refine aj ?_;refine ai ?_;refine ah ?_;refine ah ?_;refine ab ?_;apply aa rfl;(exact aE (d:=2) rfl rfl rfl (by as_aux_lemma=>kernel_rfl));apply aa rfl;(exact aQ rfl (by as_aux_lemma=>kernel_rfl) rfl rfl rfl rfl);refine aj ?_;refine ai ?_)
 refine au rfl (fun e=>by cases e) (fun _=> ?_)
 (refine aI ?_;refine ai ?_;refine ah ?_;refine ab ?_;apply aa rfl;(exact bM (E:=2) rfl (by as_aux_lemma=>kernel_rfl) rfl);apply aa rfl;(exact ag rfl rfl);refine aj ?_;refine ai ?_;refine ah ?_;refine ab ?_;apply aa rfl;(exact aE (d:=1) rfl rfl rfl (by as_aux_lemma=>kernel_rfl));apply aa rfl;(exact aQ rfl (by as_aux_lemma=>kernel_rfl) rfl rfl rfl rfl);apply aa rfl;(exact a8 rfl rfl rfl (by as_aux_lemma=>kernel_rfl));apply aa rfl;(exact wQ (E:=2) rfl (by as_aux_lemma=>kernel_rfl) (by as_aux_lemma=>kernel_rfl) rfl rfl rfl rfl (by omega));apply aa rfl;(exact ag rfl rfl);refine aj ?_;refine ai ?_;refine ah ?_;refine ah ?_;refine ab ?_;apply aa rfl;(exact ag rfl rfl);refine aj ?_;refine ai ?_;refine aB ?_)
 refine bl (fun j:Nat=>St.of [(2,o1 (.ptr 2 0)),(6,o1 (.ptr 6 0)),(7,o1 (.sl 22 0 1)),(8,o1 (.sl 26 0 less.length)),(9,vv (I6 j))] [(1000,cz im),(1001,bw less),(2,⟨true,32,2, .flat [.val (I6 ng), .sl 1003 0 R]⟩),(6,⟨true,72,3, .flat [.sl 1000 0 less.length, .sl 1001 0 less.length, .val (.bool false)]⟩),(22,bw [0]),(26,bw (iq less.length j))])
  (fun j=>1≤j∧j≤less.length) (fun j=>less.length - j) 1 ⟨Nat.le_refl _,hn0⟩ (Wk.of ⟨rfl,rfl,rfl,rfl,rfl,trivial⟩ ⟨rfl,rfl,rfl,rfl,rfl,by rw [uQ];rfl,trivial⟩ trivial) ?_
 rintro j ⟨hj1,hj2⟩
 have hbl:(iq less.length j).length=less.length:=eb _ _
 (refine ah ?_;refine ah ?_;refine ab ?_;apply aa rfl;(exact ae rfl rfl);apply aa rfl;(exact ae rfl rfl);apply aa rfl;(exact a8 rfl rfl rfl (by as_aux_lemma=>kernel_rfl));apply aa rfl;(exact aD rfl rfl rfl rfl);refine aj ?_;refine ai ?_)
 refine bF rfl (fun h=> ?_) (fun h=> ?_)
 ·have hlt:j < less.length:=by omega
  (refine aI ?_;refine ai ?_;refine ah ?_;refine aB ?_;refine ab ?_;apply aa rfl;(exact ae rfl rfl);apply aa rfl;(exact ae rfl rfl);apply aa rfl;(exact aU rfl rfl rfl rfl rfl (by as_aux_lemma=>kernel_rfl) (by first | rfl | exact (Int.toNat_of_nonneg (by omega)).symm) (by first | assumption | omega | (simp;omega)) (by first | exact Nat.le_refl _ | exact Nat.le_of_eq (an _).symm | exact Nat.le_of_eq (aw _).symm | (refine Nat.le_trans ?_ (Nat.le_of_eq (an _).symm);(first | omega | (simp;done) | (simp;omega))) | (refine Nat.le_trans ?_ (Nat.le_of_eq (aw _).symm);(first | omega | (simp;done) | (simp;omega)))));apply aa rfl;(exact iM rfl rfl rfl rfl rfl (by first | assumption | omega | (simp;omega)) (by as_aux_lemma=>kernel_rfl));refine aj ?_;refine aK ?_;refine ai ?_;refine ab ?_;apply aa rfl;(exact ae rfl rfl);apply aa rfl;(exact aR rfl rfl rfl (by first | exact IntWalk.i64_in _ (by omega) | rfl));apply aa rfl;(exact ag rfl rfl);refine aj ?_)
  exact aX (j + 1) ⟨by omega,hlt⟩ (by omega) (Wk.of ⟨rfl,rfl,rfl,rfl,rfl,trivial⟩ ⟨rfl,rfl,rfl,rfl,rfl,by rw [←uv hj1 hlt];rfl,trivial⟩ trivial)
 ·obtain rfl:j=less.length:=by omega
  clear h
  have hb2:iq less.length less.length=(dv less.length).2:=tu hn0 (Nat.le_refl _)
  rw [hb2]
  clear hb2 hbl
  (refine a5 ?_;refine ax ?_;refine ax ?_;refine aM ?_;refine ai ?_;refine ah ?_;refine ah ?_;refine ab ?_;apply aa rfl;(exact ag rfl rfl);refine aj ?_;refine ai ?_;refine aB ?_)
  refine bl (fun q:Nat×iE=>St.of [(2,o1 (.ptr 2 0)),(6,o1 (.ptr 6 0)),(7,o1 (.sl 22 0 q.2.1.length)),(8,o1 (.sl 26 0 less.length)),(10,vv (I6 q.1))] [(1000,cz im),(1001,bw less),(2,⟨true,32,2, .flat [.val (I6 ng), .sl 1003 0 R]⟩),(6,⟨true,72,3, .flat [.sl 1000 0 less.length, .sl 1001 0 less.length, .val (.bool false)]⟩),(22,bw q.2.1),(26,bw q.2.2)])
   (fun q=>q.1≤q.2.1.length∧nI less.length less q.2∧cM ng im less (less.length + 1 - q.1) q.1 q.2=bS ng im less) (fun q=>less.length + 1 - q.1) (0,dv less.length) ⟨Nat.zero_le _,hts,rfl⟩ (Wk.of ⟨rfl,rfl,rfl,rfl,rfl,trivial⟩ ⟨rfl,rfl,rfl,rfl,rfl,rfl,trivial⟩ trivial) ?_
  rintro ⟨i,O,M⟩ ⟨hi,htok,hnum⟩
  dsimp only at hi hnum ⊢
  have hOl:O.length≤less.length:=htok.le
  (refine ah ?_;refine ah ?_;refine ab ?_;apply aa rfl;(exact ae rfl rfl);apply aa rfl;(exact ae rfl rfl);apply aa rfl;(exact a8 rfl rfl rfl (by as_aux_lemma=>kernel_rfl));apply aa rfl;(exact aD rfl rfl rfl rfl);refine aj ?_;refine ai ?_)
  refine bF rfl (fun h=> ?_) (fun h=> ?_)
  ·have hlt:i < O.length:=by omega
   have hnum':cM ng im less (less.length - i) (i + 1) (kt ng im less i (O,M))=bS ng im less:=by
    rw [←hnum,show less.length + 1 - i=(less.length - i) + 1 by omega]
    exact (lS hlt).symm
   obtain ⟨s0,hs0⟩:∃s0:iE,s0=(O,M):=⟨_,rfl⟩
   obtain ⟨d,hd1,hd2,hd3, -⟩:=htok.live i hlt
   dsimp only at hd1
   have hrow:∀n,n≤ng→nI less.length less ((List.range n).foldl (cQ im less i) s0)∧gG s0 ((List.range n).foldl (cQ im less i) s0):=fun n hn=>
    have:=eN hF (i:=i) (s:=s0) (by rw [hs0];exact htok) (by rw [hs0];exact hlt) n hn
    ⟨this.1,this.2.1⟩
   have hfin:cM ng im less (less.length - i) (i + 1) ((List.range ng).foldl (cQ im less i) s0)=bS ng im less:=by rw [hs0];exact hnum'
   (refine aI ?_;refine ai ?_;refine ah ?_;refine aB ?_;refine ah ?_;refine ab ?_;apply aa rfl;(exact ag rfl rfl);refine aj ?_;refine ai ?_;refine aB ?_)
   refine bl (fun q:Nat×iE=>St.of [(2,o1 (.ptr 2 0)),(6,o1 (.ptr 6 0)),(7,o1 (.sl 22 0 q.2.1.length)),(8,o1 (.sl 26 0 less.length)),(10,vv (I6 i)),(11,vv (I6 q.1))] [(1000,cz im),(1001,bw less),(2,⟨true,32,2, .flat [.val (I6 ng), .sl 1003 0 R]⟩),(6,⟨true,72,3, .flat [.sl 1000 0 less.length, .sl 1001 0 less.length, .val (.bool false)]⟩),(22,bw q.2.1),(26,bw q.2.2)])
    (fun q=>q.1≤ng∧(List.range q.1).foldl (cQ im less i) s0=q.2) (fun q=>ng - q.1) (0,s0) ⟨Nat.zero_le _,rfl⟩ (Wk.of (by rw [hs0];exact ⟨rfl,rfl,rfl,rfl,rfl,rfl,trivial⟩) (by rw [hs0];exact ⟨rfl,rfl,rfl,rfl,rfl,rfl,trivial⟩) trivial) ?_
   have hO0:s0.1.length=O.length:=by rw [hs0]
   have hd0:aC s0.1 i=(d:Int):=by rw [hs0];exact hd1
   clear hnum hnum' htok hs0 hd1
   generalize O.length=on at *
   rintro ⟨g,O,M⟩ ⟨hg,hfo⟩
   dsimp only at hg hfo ⊢
   obtain ⟨tok,grw⟩:=hrow g hg
   rw [hfo] at tok grw
   have hiO:i < O.length:=Nat.lt_of_lt_of_le (by omega) grw.len
   have hOl':O.length≤less.length:=tok.le
   have hML:M.length=less.length:=tok.len
   have hdO:aC O i=(d:Int):=(grw.pre i (by omega)).trans hd0
   have hget:(aJ O)[i]? =some (I6 (d:Int)):=by rw [al hiO,hdO]
   (refine ah ?_;refine ah ?_;refine ab ?_;apply aa rfl;(exact ae rfl rfl);apply aa rfl;(exact aE (d:=0) rfl rfl rfl (by as_aux_lemma=>kernel_rfl));apply aa rfl;(exact aQ rfl (by as_aux_lemma=>kernel_rfl) rfl rfl rfl rfl);apply aa rfl;(exact aD rfl rfl rfl rfl);refine aj ?_;refine ai ?_)
   refine bF rfl (fun h2=> ?_) (fun h2=> ?_)
   ·have hgn:g < ng:=by omega
    obtain ⟨e,he1,he2,_⟩:=hF.image hd2 hd3 hgn
    have hI:=gx im less less.length less.length d g false him rfl hF.wf.down (by omega) (by rw [hF.wf.row d (by omega)];exact hgn) (hF.wf.bD d g (by omega) hgn)
    rw [he1] at hI
    have hst:(List.range (g + 1)).foldl (cQ im less i) s0=visit (O,M) e:=by
     rw [List.range_succ,List.foldl_append,hfo]
     show visit (O,M) (image im less (aC O i).toNat g).toNat=_
     rw [hdO,Int.toNat_natCast,he1,Int.toNat_natCast]
    (refine aI ?_;refine ai ?_;refine ah ?_;refine aB ?_;refine ah ?_)
    apply dG 6 [] [[], [], [], [1,2], [1,2,3], [], [0,1,2,3,4,5], [0,1,2,3,4,5,6]] [48,49,50,51,52,53] [] (by kernel_rfl) (by kernel_rfl)
    ·(apply aF rfl;(intro S1 hS;exact a3 rfl (hS.op rfl) (hS.ch _ _ rfl) rfl rfl rfl (by as_aux_lemma=>kernel_rfl));apply aF rfl;(intro S1 hS;exact ae rfl (hS.op rfl));apply aF rfl;(intro S1 hS;exact ae rfl (hS.op rfl));apply aF rfl;(intro S1 hS;exact aU rfl (hS.op rfl) (hS.op rfl) (hS.ch _ _ rfl) rfl (by as_aux_lemma=>kernel_rfl) (by first | rfl | exact (Int.toNat_of_nonneg (by omega)).symm) (by first | assumption | omega | (simp;omega)) (by first | exact Nat.le_refl _ | exact Nat.le_of_eq (an _).symm | exact Nat.le_of_eq (aw _).symm | (refine Nat.le_trans ?_ (Nat.le_of_eq (an _).symm);(first | omega | (simp;done) | (simp;omega))) | (refine Nat.le_trans ?_ (Nat.le_of_eq (aw _).symm);(first | omega | (simp;done) | (simp;omega)))));apply aF rfl;(intro S1 hS;exact a7 rfl (by as_aux_lemma=>kernel_rfl) (hS.op rfl) (hS.ch _ _ rfl) rfl (by first | assumption | exact al (by assumption) | exact ar (by assumption) | exact al (by omega) | exact ar (by omega) | rfl));apply aF rfl;(intro S1 hS;exact ae rfl (hS.op rfl));exact ey.nil)
    ·rfl
    ((apply aA 6 rfl (by as_aux_lemma=>kernel_rfl) rfl rfl;(apply ak 49;exact aq hI (by as_aux_lemma=>kernel_rfl) rfl rfl ⟨⟨.inl rfl, .inl rfl, .inl rfl,trivial⟩,rfl,rfl,trivial⟩ ⟨⟨_,rfl, .inr rfl⟩,⟨_,rfl, .inr rfl⟩,trivial⟩ rfl rfl));(apply aA 7 rfl (by as_aux_lemma=>kernel_rfl) rfl rfl;(exact ag rfl rfl));(refine aY (by as_aux_lemma=>kernel_rfl) ?_;skip))
    (refine ai ?_;refine ah ?_;refine ab ?_;apply aa rfl;(exact ae rfl rfl);apply aa rfl;(exact ae rfl rfl);apply aa rfl;(exact aU rfl rfl rfl rfl rfl (by as_aux_lemma=>kernel_rfl) (by first | rfl | exact (Int.toNat_of_nonneg (by omega)).symm) (by first | assumption | omega | (simp;omega)) (by first | exact Nat.le_refl _ | exact Nat.le_of_eq (an _).symm | exact Nat.le_of_eq (aw _).symm | (refine Nat.le_trans ?_ (Nat.le_of_eq (an _).symm);(first | omega | (simp;done) | (simp;omega))) | (refine Nat.le_trans ?_ (Nat.le_of_eq (aw _).symm);(first | omega | (simp;done) | (simp;omega)))));apply aa rfl;(exact a7 rfl (by as_aux_lemma=>kernel_rfl) rfl rfl rfl (by first | assumption | exact al (by assumption) | exact ar (by assumption) | exact al (by omega) | exact ar (by omega) | rfl));apply aa rfl;(exact aD rfl rfl rfl rfl);refine aj ?_;refine ai ?_)
    refine au rfl (fun hc=> ?_) (fun hc=> ?_)
    ·have hneg:aC M e < 0:=by simpa using hc
     have hv:visit (O,M) e=(O ++ [(e:Int)],M.set e (O.length:Int)):=if_pos hneg
     (refine ah ?_;refine ab ?_;apply aa rfl;(exact ae rfl rfl);apply aa rfl;(exact ae rfl rfl);apply aa rfl;(exact ae rfl rfl);apply aa rfl;(exact a8 rfl rfl rfl (by as_aux_lemma=>kernel_rfl));apply aa rfl;(exact aU rfl rfl rfl rfl rfl (by as_aux_lemma=>kernel_rfl) (by first | rfl | exact (Int.toNat_of_nonneg (by omega)).symm) (by first | assumption | omega | (simp;omega)) (by first | exact Nat.le_refl _ | exact Nat.le_of_eq (an _).symm | exact Nat.le_of_eq (aw _).symm | (refine Nat.le_trans ?_ (Nat.le_of_eq (an _).symm);(first | omega | (simp;done) | (simp;omega))) | (refine Nat.le_trans ?_ (Nat.le_of_eq (aw _).symm);(first | omega | (simp;done) | (simp;omega)))));apply aa rfl;(exact iM rfl rfl rfl rfl rfl (by first | assumption | omega | (simp;omega)) (by as_aux_lemma=>kernel_rfl));refine aj ?_;refine ai ?_;refine ab ?_;apply aa rfl;(exact ae rfl rfl);apply aa rfl;(exact ae rfl rfl);apply aa rfl;(exact bM (E:=2) rfl (by as_aux_lemma=>kernel_rfl) rfl);apply aa rfl;(exact bg rfl (by as_aux_lemma=>kernel_rfl) rfl rfl rfl (by first | rfl | assumption | (simp;done)) rfl rfl (by omega));apply aa rfl;(exact ag rfl rfl);refine aj ?_;refine aK ?_;refine ai ?_;refine ab ?_;apply aa rfl;(exact ae rfl rfl);apply aa rfl;(exact aR rfl rfl rfl (by first | exact IntWalk.i64_in _ (by omega) | rfl));apply aa rfl;(exact ag rfl rfl);refine aj ?_)
     exact aX (g + 1,(O ++ [(e:Int)],M.set e (O.length:Int))) ⟨hgn,hst.trans hv⟩ (by show ng - (g + 1) < ng - g;omega) (Wk.of ⟨rfl,rfl,by simp;rfl,rfl,rfl,rfl,trivial⟩ ⟨rfl,rfl,rfl,rfl,rfl,rfl,trivial⟩ trivial)
    ·have hneg:¬aC M e < 0:=by simpa using hc
     have hv:visit (O,M) e=(O,M):=if_neg hneg
     (refine aI ?_;refine aK ?_;refine ai ?_;refine ab ?_;apply aa rfl;(exact ae rfl rfl);apply aa rfl;(exact aR rfl rfl rfl (by first | exact IntWalk.i64_in _ (by omega) | rfl));apply aa rfl;(exact ag rfl rfl);refine aj ?_)
     exact aX (g + 1,(O,M)) ⟨hgn,hst.trans hv⟩ (by show ng - (g + 1) < ng - g;omega) (Wk.of ⟨rfl,rfl,rfl,rfl,rfl,rfl,trivial⟩ ⟨rfl,rfl,rfl,rfl,rfl,rfl,trivial⟩ trivial)
   ·obtain rfl:g=ng:=by omega
    (refine a5 ?_;refine ax ?_;refine ax ?_;refine aM ?_;refine aK ?_;refine ai ?_;refine ab ?_;apply aa rfl;(exact ae rfl rfl);apply aa rfl;(exact aR rfl rfl rfl (by first | exact IntWalk.i64_in _ (by omega) | rfl));apply aa rfl;(exact ag rfl rfl);refine aj ?_)
    exact aX (i + 1,(O,M)) ⟨hiO,tok,by rw [←hfin,hfo];show cM _ _ _ (less.length + 1 - (i + 1)) _ _=_;rw [show less.length + 1 - (i + 1)=less.length - i by omega]⟩ (by show less.length + 1 - (i + 1) < less.length + 1 - i;omega) (Wk.of ⟨rfl,rfl,rfl,rfl,rfl,trivial⟩ ⟨rfl,rfl,rfl,rfl,rfl,rfl,trivial⟩ trivial)
  ·have hio:i=O.length:=by omega
   have hOM:bS ng im less=(O,M):=by
    rw [←hnum,show less.length + 1 - i=(less.length - i) + 1 by omega,cM,if_neg (by show ¬i < O.length;omega)]
   have hML:M.length=less.length:=htok.len
   have htb:=pc ng im less
   rw [hOM] at htb
   dsimp only at htb
   rw [htb]
   clear hnum h htb hio hi
   (refine a5 ?_;refine ax ?_;refine ax ?_;refine aM ?_;refine ai ?_;refine ah ?_;refine ab ?_;apply aa rfl;(exact qj (E:=24) (F:=2) rfl (by as_aux_lemma=>kernel_rfl));apply aa rfl;(exact ag rfl rfl);refine aj ?_;refine ai ?_;refine ah ?_;refine ah ?_;refine ab ?_;apply aa rfl;(exact ag rfl rfl);refine aj ?_;refine ai ?_;refine aB ?_)
   refine bl (fun g:Nat=>St.of [(2,o1 (.ptr 2 0)),(6,o1 (.ptr 6 0)),(7,o1 (.sl 22 0 O.length)),(8,o1 (.sl 26 0 less.length)),(13,o1 (.sl 69 0 g)),(14,vv (I6 g))] [(1000,cz im),(1001,bw less),(2,⟨true,32,2, .flat [.val (I6 ng), .sl 1003 0 R]⟩),(6,⟨true,72,3, .flat [.sl 1000 0 less.length, .sl 1001 0 less.length, .val (.bool false)]⟩),(22,bw O),(26,bw M),(69,cz ((List.range g).map fun g=>(List.range O.length).map (gI im less (O,M) g)))])
    (fun g=>g≤ng) (fun g=>ng - g) 0 (Nat.zero_le _) (Wk.of ⟨rfl,rfl,rfl,rfl,rfl,rfl,trivial⟩ ⟨rfl,rfl,rfl,rfl,rfl,rfl,rfl,trivial⟩ trivial) ?_
   intro g hg
   (refine ah ?_;refine ah ?_;refine ab ?_;apply aa rfl;(exact ae rfl rfl);apply aa rfl;(exact aE (d:=0) rfl rfl rfl (by as_aux_lemma=>kernel_rfl));apply aa rfl;(exact aQ rfl (by as_aux_lemma=>kernel_rfl) rfl rfl rfl rfl);apply aa rfl;(exact aD rfl rfl rfl rfl);refine aj ?_;refine ai ?_)
   refine bF rfl (fun h2=> ?_) (fun h2=> ?_)
   ·have hgn:g < ng:=by omega
    (refine aI ?_;refine ai ?_;refine ah ?_;refine aB ?_;refine ah ?_;refine ab ?_;apply aa rfl;(exact du (E:=2) (k:=1) rfl (by as_aux_lemma=>kernel_rfl));apply aa rfl;(exact ag rfl rfl);refine aj ?_;refine ai ?_;refine ah ?_;refine ah ?_;refine ab ?_;apply aa rfl;(exact ag rfl rfl);refine aj ?_;refine ai ?_;refine aB ?_)
    refine bl (fun k:Nat=>St.of [(2,o1 (.ptr 2 0)),(6,o1 (.ptr 6 0)),(7,o1 (.sl 22 0 O.length)),(8,o1 (.sl 26 0 less.length)),(13,o1 (.sl 69 0 g)),(14,vv (I6 g)),(15,o1 (.sl 76 0 k)),(16,vv (I6 k))] [(1000,cz im),(1001,bw less),(2,⟨true,32,2, .flat [.val (I6 ng), .sl 1003 0 R]⟩),(6,⟨true,72,3, .flat [.sl 1000 0 less.length, .sl 1001 0 less.length, .val (.bool false)]⟩),(22,bw O),(26,bw M),(69,cz ((List.range g).map fun g=>(List.range O.length).map (gI im less (O,M) g))),(76,bw ((List.range k).map (gI im less (O,M) g)))])
     (fun k=>k≤O.length) (fun k=>O.length - k) 0 (Nat.zero_le _) (Wk.of ⟨rfl,rfl,rfl,rfl,rfl,rfl,rfl,rfl,trivial⟩ ⟨rfl,rfl,rfl,rfl,rfl,rfl,rfl,rfl,trivial⟩ trivial) ?_
    intro k hk
    (refine ah ?_;refine ah ?_;refine ab ?_;apply aa rfl;(exact ae rfl rfl);apply aa rfl;(exact ae rfl rfl);apply aa rfl;(exact a8 rfl rfl rfl (by as_aux_lemma=>kernel_rfl));apply aa rfl;(exact aD rfl rfl rfl rfl);refine aj ?_;refine ai ?_)
    refine bF rfl (fun h3=> ?_) (fun h3=> ?_)
    ·have hkO:k < O.length:=by omega
     obtain ⟨d,hd1,hd2,hd3, -⟩:=htok.live k hkO
     dsimp only at hd1
     obtain ⟨e,he1,he2,_⟩:=hF.image hd2 hd3 hgn
     have hI:=gx im less less.length less.length d g false him rfl hF.wf.down (by omega) (by rw [hF.wf.row d (by omega)];exact hgn) (hF.wf.bD d g (by omega) hgn)
     rw [he1] at hI
     have hget:(aJ O)[k]? =some (I6 (d:Int)):=by rw [al hkO,hd1]
     have htc:gI im less (O,M) g k=aC M e:=by unfold gI;dsimp only;rw [hd1,Int.toNat_natCast,he1,Int.toNat_natCast]
     have hkl:((List.range k).map (gI im less (O,M) g)).length=k:=by simp
     (refine aI ?_;refine ai ?_;refine ah ?_;refine aB ?_)
     apply dG 12 [] [[], [], [], [], [], [3,4], [3,4,5], [], [2,3,4,5,6,7], [1,2,3,4,5,6,7,8], [1,2,3,4,5,6,7,8,9], [1,2,3,4,5,6,7,8,9,10], [0,1,2,3,4,5,6,7,8,9,10,11], [0,1,2,3,4,5,6,7,8,9,10,11,12]] [83,84,85,86,87,88,89,90,91,92,93,94] [94] (by kernel_rfl) (by kernel_rfl)
     ·(apply aF rfl;(intro S1 hS;exact ae rfl (hS.op rfl));apply aF rfl;(intro S1 hS;exact ae rfl (hS.op rfl));apply aF rfl;(intro S1 hS;exact a3 rfl (hS.op rfl) (hS.ch _ _ rfl) rfl rfl rfl (by as_aux_lemma=>kernel_rfl));apply aF rfl;(intro S1 hS;exact ae rfl (hS.op rfl));apply aF rfl;(intro S1 hS;exact ae rfl (hS.op rfl));apply aF rfl;(intro S1 hS;exact aU rfl (hS.op rfl) (hS.op rfl) (hS.ch _ _ rfl) rfl (by as_aux_lemma=>kernel_rfl) (by first | rfl | exact (Int.toNat_of_nonneg (by omega)).symm) (by first | assumption | omega | (simp;omega)) (by first | exact Nat.le_refl _ | exact Nat.le_of_eq (an _).symm | exact Nat.le_of_eq (aw _).symm | (refine Nat.le_trans ?_ (Nat.le_of_eq (an _).symm);(first | omega | (simp;done) | (simp;omega))) | (refine Nat.le_trans ?_ (Nat.le_of_eq (aw _).symm);(first | omega | (simp;done) | (simp;omega)))));apply aF rfl;(intro S1 hS;exact a7 rfl (by as_aux_lemma=>kernel_rfl) (hS.op rfl) (hS.ch _ _ rfl) rfl (by first | assumption | exact al (by assumption) | exact ar (by assumption) | exact al (by omega) | exact ar (by omega) | rfl));apply aF rfl;(intro S1 hS;exact ae rfl (hS.op rfl));(apply aF rfl;(focus (intro S1 hS;apply ak 49;exact aq hI (by as_aux_lemma=>kernel_rfl) rfl (dx hS rfl) ⟨⟨.inl rfl, .inl rfl, .inl rfl,trivial⟩,rfl,rfl,trivial⟩ (cJ hS ⟨⟨_,rfl, .inr rfl⟩,⟨_,rfl, .inr rfl⟩,trivial⟩) rfl rfl)));apply aF rfl;(intro S1 hS;exact aU rfl (hS.op rfl) (hS.op rfl) (hS.ch _ _ rfl) rfl (by as_aux_lemma=>kernel_rfl) (by first | rfl | exact (Int.toNat_of_nonneg (by omega)).symm) (by first | assumption | omega | (simp;omega)) (by first | exact Nat.le_refl _ | exact Nat.le_of_eq (an _).symm | exact Nat.le_of_eq (aw _).symm | (refine Nat.le_trans ?_ (Nat.le_of_eq (an _).symm);(first | omega | (simp;done) | (simp;omega))) | (refine Nat.le_trans ?_ (Nat.le_of_eq (aw _).symm);(first | omega | (simp;done) | (simp;omega)))));apply aF rfl;(intro S1 hS;exact a7 rfl (by as_aux_lemma=>kernel_rfl) (hS.op rfl) (hS.ch _ _ rfl) rfl (by first | assumption | exact al (by assumption) | exact ar (by assumption) | exact al (by omega) | exact ar (by omega) | rfl));apply fJ rfl;(intro S1 hS;exact bM (E:=2) rfl (by as_aux_lemma=>kernel_rfl) (hS.op rfl));exact ey.nil)
     ·rfl
     ((apply aA 12 rfl (by as_aux_lemma=>kernel_rfl) rfl rfl;(exact bg rfl (by as_aux_lemma=>kernel_rfl) rfl rfl rfl (by first | rfl | assumption | (simp;done)) rfl rfl (by omega)));(apply aA 13 rfl (by as_aux_lemma=>kernel_rfl) rfl rfl;(exact ag rfl rfl));(refine aY (by as_aux_lemma=>kernel_rfl) ?_;skip))
     (refine aK ?_;refine ai ?_;refine ab ?_;apply aa rfl;(exact ae rfl rfl);apply aa rfl;(exact aR rfl rfl rfl (by first | exact IntWalk.i64_in _ (by omega) | rfl));apply aa rfl;(exact ag rfl rfl);refine aj ?_)
     exact aX (k + 1) hkO (by omega) (Wk.of ⟨rfl,rfl,rfl,rfl,rfl,rfl,rfl,rfl,trivial⟩ ⟨rfl,rfl,rfl,rfl,rfl,rfl,rfl,by rw [List.range_succ,List.map_append,List.map_singleton,htc];rfl,trivial⟩ trivial)
    ·obtain rfl:k=O.length:=by omega
     have hgl:((List.range g).map fun g=>(List.range O.length).map (gI im less (O,M) g)).length=g:=by simp
     have hkl:((List.range O.length).map (gI im less (O,M) g)).length=O.length:=by simp
     (refine a5 ?_;refine ax ?_;refine ax ?_;refine aM ?_;refine ai ?_;refine ab ?_;apply aa rfl;(exact ae rfl rfl);apply aa rfl;(exact ae rfl rfl);apply aa rfl;(exact lX (E:=24) rfl (by as_aux_lemma=>kernel_rfl) rfl rfl rfl);apply aa rfl;(exact kz rfl (by as_aux_lemma=>kernel_rfl) rfl rfl (by first | rfl | assumption | (simp;done)) rfl rfl rfl (by first | rfl | assumption | (simp;done)) rfl (by omega));apply aa rfl;(exact ag rfl rfl);refine aj ?_;refine aK ?_;refine ai ?_;refine ab ?_;apply aa rfl;(exact ae rfl rfl);apply aa rfl;(exact aR rfl rfl rfl (by first | exact IntWalk.i64_in _ (by omega) | rfl));apply aa rfl;(exact ag rfl rfl);refine aj ?_)
     exact aX (g + 1) hgn (by omega) (Wk.of ⟨rfl,rfl,rfl,rfl,rfl,rfl,trivial⟩ ⟨rfl,rfl,rfl,rfl,rfl,rfl,by rw [List.range_succ (n:=g),List.map_append];rfl,trivial⟩ trivial)
   ·obtain rfl:g=ng:=by omega
    (refine a5 ?_;refine ax ?_;refine ax ?_;refine aM ?_;refine ai ?_;refine ah ?_;refine ab ?_;apply aa rfl;(exact ae rfl rfl);apply aa rfl;(exact ag rfl rfl);apply aa rfl;(exact ag rfl rfl);refine aj ?_;refine ai ?_;refine aW ?_)
    exact cH (.inl rfl) rfl (.tmp rfl) (.tmp rfl) ⟨rfl,trivial⟩ trivial
end Go.Proofs.Ytekbhbcgoadciaa
namespace Go.Proofs.Ytekbhbcgoadciaa
open Go.RowKit
abbrev DE (m n:Nat) (b:Bool):List A1:= [.sl 1000 0 m, .sl 1001 0 n, .val (.bool b)]
abbrev yK (m n:Nat) (b:Bool):Ch:=⟨false,65,3, .flat (DE m n b)⟩
abbrev l9 (m n:Nat) (b:Bool):Ch:=⟨true,65,3, .flat (DE m n b)⟩
theorem oO (im:List (List Int)) (less:List Int) (m n c:Nat) (b:Bool) (hn:less.length=n) (hd:Down less) (hc:c < less.length):
  FC Try.prog 67 [(1010,yK m n b),(1000,xY im),(1001,pG less)] [o1 (.ptr 1010 0),vv (I6 c)] [] (vv (I6 (root less c))) []:=by
 subst hn
 refine bc (nt:=22) Try.func67 rfl rfl (by simp) fun w0 ω0=> ?_
 (refine ah ?_;refine ab ?_;apply aa rfl;(exact ag rfl rfl);refine aj ?_;refine ai ?_;refine ah ?_;refine aB ?_)
 refine bl (fun k:Nat=>St.of [(0,o1 (.ptr 1010 0)),(1,vv (I6 k))] [(1010,yK m less.length b),(1001,pG less)]) (fun k=>k < less.length∧root less k=root less c) (fun k=>k) c ⟨hc,rfl⟩ (Wk.of ⟨rfl,rfl,trivial⟩ ⟨rfl,rfl,trivial⟩ trivial) ?_
 rintro k ⟨hk,hr⟩
 (refine ah ?_;refine ah ?_;refine ab ?_;apply aa rfl;(exact ae rfl rfl);apply aa rfl;(exact bh rfl rfl rfl);apply aa rfl;(exact aE (d:=1) rfl rfl rfl (by as_aux_lemma=>kernel_rfl));apply aa rfl;(exact aQ rfl (by as_aux_lemma=>kernel_rfl) rfl rfl rfl rfl);apply aa rfl;(exact ae rfl rfl);apply aa rfl;(exact aU rfl rfl rfl rfl rfl (by as_aux_lemma=>kernel_rfl) (by first | rfl | exact (Int.toNat_of_nonneg (by omega)).symm) (by first | assumption | omega | (simp;omega)) (by first | exact Nat.le_refl _ | exact Nat.le_of_eq (an _).symm | exact Nat.le_of_eq (aw _).symm | (refine Nat.le_trans ?_ (Nat.le_of_eq (an _).symm);(first | omega | (simp;done) | (simp;omega))) | (refine Nat.le_trans ?_ (Nat.le_of_eq (aw _).symm);(first | omega | (simp;done) | (simp;omega)))));apply aa rfl;(exact a7 rfl (by as_aux_lemma=>kernel_rfl) rfl rfl rfl (by first | assumption | exact al (by assumption) | exact ar (by assumption) | exact al (by omega) | exact ar (by omega) | rfl));apply aa rfl;(exact ae rfl rfl);apply aa rfl;(exact aD rfl rfl rfl rfl);refine aj ?_;refine ai ?_)
 have hk2:=hd k hk
 refine au rfl (fun h=> ?_) (fun h=> ?_)
 ·have hne:aC less k≠k:=by simpa using h
  have hz:aC less k=(((aC less k).toNat:Nat):Int):=(Int.toNat_of_nonneg hk2.1).symm
  (refine aI ?_;refine ai ?_;refine aB ?_;refine ab ?_;apply aa rfl;(exact ae rfl rfl);apply aa rfl;(exact bh rfl rfl rfl);apply aa rfl;(exact aE (d:=1) rfl rfl rfl (by as_aux_lemma=>kernel_rfl));apply aa rfl;(exact aQ rfl (by as_aux_lemma=>kernel_rfl) rfl rfl rfl rfl);apply aa rfl;(exact ae rfl rfl);apply aa rfl;(exact aU rfl rfl rfl rfl rfl (by as_aux_lemma=>kernel_rfl) (by first | rfl | exact (Int.toNat_of_nonneg (by omega)).symm) (by first | assumption | omega | (simp;omega)) (by first | exact Nat.le_refl _ | exact Nat.le_of_eq (an _).symm | exact Nat.le_of_eq (aw _).symm | (refine Nat.le_trans ?_ (Nat.le_of_eq (an _).symm);(first | omega | (simp;done) | (simp;omega))) | (refine Nat.le_trans ?_ (Nat.le_of_eq (aw _).symm);(first | omega | (simp;done) | (simp;omega)))));apply aa rfl;(exact a7 rfl (by as_aux_lemma=>kernel_rfl) rfl rfl rfl (by first | assumption | exact al (by assumption) | exact ar (by assumption) | exact al (by omega) | exact ar (by omega) | rfl));apply aa rfl;(exact ag rfl rfl);refine aj ?_;refine aK ?_)
  exact aX (aC less k).toNat ⟨by omega,(eM hd hk hne).symm.trans hr⟩ (by omega) (Wk.of ⟨rfl,congrArg (fun z=>some (vv (I6 z))) hz,trivial⟩ ⟨rfl,rfl,trivial⟩ trivial)
 ·have he:aC less k=k:=by simpa using h
  have e:k=root less c:=by rw [←hr,cD he]
  (refine a5 ?_;refine ax ?_;refine ax ?_;refine aM ?_;refine ai ?_;refine ah ?_;refine ab ?_;apply aa rfl;(exact ae rfl rfl);apply aa rfl;(exact ag rfl rfl);refine aj ?_;refine ai ?_;refine aW ?_)
  exact bd (.inl rfl) rfl (.tmp (congrArg (fun z:Nat=>some (vv (I6 z))) e)) trivial trivial
theorem kF (im:List (List Int)) (less:List Int) (m n c g:Nat) (b:Bool) (hm:im.length=m) (hn:less.length=n) (hd:Down less) (hc:c < im.length) (hg:g < (bu im c).length) (he:bD im c g < less.length):
  FC Try.prog 45 [(1010,yK m n b),(1000,xY im),(1001,pG less)] [o1 (.ptr 1010 0),vv (I6 c),vv (I6 g)] [] (vv (I6 (image im less c g))) []:=by
 subst hm hn
 refine bc (nt:=23) Try.func45 rfl rfl (by simp) fun w0 ω0=> ?_
 (refine ah ?_;refine ab ?_;apply aa rfl;(exact ag rfl rfl);refine aj ?_;refine ai ?_;refine ah ?_;refine ah ?_;refine ab ?_;apply aa rfl;(exact ae rfl rfl);apply aa rfl;(exact bh rfl rfl rfl);apply aa rfl;(exact aE (d:=0) rfl rfl rfl (by as_aux_lemma=>kernel_rfl));apply aa rfl;(exact aQ rfl (by as_aux_lemma=>kernel_rfl) rfl rfl rfl rfl);apply aa rfl;(exact ae rfl rfl);apply aa rfl;(exact aU rfl rfl rfl rfl rfl (by as_aux_lemma=>kernel_rfl) (by first | rfl | exact (Int.toNat_of_nonneg (by omega)).symm) (by first | assumption | omega | (simp;omega)) (by first | exact Nat.le_refl _ | exact Nat.le_of_eq (an _).symm | exact Nat.le_of_eq (aw _).symm | (refine Nat.le_trans ?_ (Nat.le_of_eq (an _).symm);(first | omega | (simp;done) | (simp;omega))) | (refine Nat.le_trans ?_ (Nat.le_of_eq (aw _).symm);(first | omega | (simp;done) | (simp;omega)))));apply aa rfl;(exact bo rfl (by as_aux_lemma=>kernel_rfl) rfl rfl rfl (by first | assumption | exact al (by assumption) | exact ar (by assumption) | exact al (by omega) | exact ar (by omega) | rfl) (by first | exact an _ | assumption | rfl));apply aa rfl;(exact ae rfl rfl);apply aa rfl;(exact aS rfl rfl rfl rfl rfl (by as_aux_lemma=>kernel_rfl) (by first | assumption | exact al (by assumption) | exact ar (by assumption) | exact al (by omega) | exact ar (by omega) | rfl) (by first | rfl | exact (Int.toNat_of_nonneg (by omega)).symm) (by first | assumption | omega | (simp;omega)) (by first | exact Nat.le_refl _ | exact Nat.le_of_eq (an _).symm | exact Nat.le_of_eq (aw _).symm | (refine Nat.le_trans ?_ (Nat.le_of_eq (an _).symm);(first | omega | (simp;done) | (simp;omega))) | (refine Nat.le_trans ?_ (Nat.le_of_eq (aw _).symm);(first | omega | (simp;done) | (simp;omega)))));apply aa rfl;(exact aN rfl (by as_aux_lemma=>kernel_rfl) rfl rfl rfl (by first | assumption | exact al (by assumption) | exact ar (by assumption) | exact al (by omega) | exact ar (by omega) | rfl) (by first | assumption | exact al (by assumption) | exact ar (by assumption) | exact al (by omega) | exact ar (by omega) | rfl));apply aa rfl;(exact ag rfl rfl);refine aj ?_;refine ai ?_;refine ah ?_;refine ab ?_;apply aa rfl;(exact ae rfl rfl);apply aa rfl;(exact aD rfl rfl rfl rfl);refine aj ?_;refine ai ?_)
 refine au rfl (fun h=> ?_) (fun h=> ?_)
 ·have h:¬bD im c g < 0:=by unfold bD;simp at h;omega
  have e:image im less c g=root less (bD im c g).toNat:=if_neg h
  have hF:=oO im less im.length less.length (bD im c g).toNat b rfl hd (by omega)
  have hz:aC (bu im c) g=(((bD im c g).toNat:Nat):Int):=(Int.toNat_of_nonneg (show 0≤aC (bu im c) g from Int.not_lt.1 h)).symm
  (refine ah ?_;refine ab ?_;apply aa rfl;(exact ae rfl rfl);apply aa rfl;(exact ae rfl rfl);apply aa rfl;(apply ak 67;exact aq hF (by as_aux_lemma=>kernel_rfl) rfl rfl ⟨rfl,congrArg (fun z=>vv (I6 z)) hz,trivial⟩ ⟨⟨_,rfl, .inl rfl⟩,⟨_,rfl, .inl rfl⟩,⟨_,rfl, .inl rfl⟩,trivial⟩ rfl rfl);apply aa rfl;(exact ag rfl rfl);refine aj ?_;refine ai ?_;refine aW ?_;refine aT ?_)
  exact bd (.inl rfl) rfl (.tmp (congrArg (fun z=>some (vv (I6 z))) e.symm)) trivial trivial
 ·have h:bD im c g < 0:=by unfold bD;simp at h;omega
  have e:image im less c g= -1:=if_pos h
  (refine aI ?_;refine ai ?_;refine ah ?_;refine ab ?_;apply aa rfl;(exact ag rfl rfl);refine aj ?_;refine ai ?_;refine aW ?_)
  exact bd (.inl rfl) rfl (.tmp (congrArg (fun z=>some (vv (I6 z))) e.symm)) trivial trivial
set_option maxRecDepth 100000 in
set_option maxHeartbeats 2000000 in
theorem sP (im:List (List Int)) (less:List Int) (m n c d g:Nat) (b:Bool) (hm:im.length=m) (hc:c < im.length) (hg:g < (bu im c).length) (hdl:d < im.length) (hg2:g < (bu im d).length):
  FC Try.prog 66 [(1010,l9 m n b),(1000,cz im),(1001,bw less)] [o1 (.ptr 1010 0),vv (I6 c),vv (I6 d),vv (I6 g)] [(1010,l9 m n b),(1000,cz (dq (dq im c g d) d g c)),(1001,bw less)] (.tup []) [(0,o1 (.ptr 1010 0))]:=by
 subst hm
 have hrr:(bu (dq im c g (d:Int)) d).length=(bu im d).length:=gp _ _ _ _ _
 have hg3:g < (bu (dq im c g (d:Int)) d).length:=by rw [gp];exact hg2
 have hd3:d < (dq im c g (d:Int)).length:=by rw [cU];exact hdl
 refine bc (nt:=28) Try.func66 rfl rfl (by simp) fun w0 ω0=> ?_
 (skip)
 refine cg (St.of [] [(1010,l9 im.length n b),(1000,cz (dq (dq im c g d) d g c)),(1001,bw less)] [(0,o1 (.ptr 1010 0))]) ?_ ?_
 ·apply lz 18 [] [15,17] [[], [0], [0,1], [0,1,2], [], [0,1,2,3,4], [0,1,2,3,4,5], [], [], [8], [8,9], [8,9,10], [], [8,9,10,11,12], [8,9,10,11,12,13], [], [], [], [0,1,2,3,4,5,6,7,8,9,10,11,12,13,14,16], [0,1,2,3,4,5,6,7,8,9,10,11,12,13,14,16,18], [0,1,2,3,4,5,6,7,8,9,10,11,12,13,14,15,16,17,18,19], [0,1,2,3,4,5,6,7,8,9,10,11,12,13,14,15,16,17,18,19,20]] [8,9,10,11,12,13,14,15,16,17,18,19,20,21,22,23,24,25] [] (by kernel_rfl) (by kernel_rfl) (by kernel_rfl)
  ·(apply aF rfl;(intro S1 hS;exact ae rfl (hS.op rfl));apply aF rfl;(intro S1 hS;exact bh rfl (hS.op rfl) (hS.ch _ _ rfl));apply aF rfl;(intro S1 hS;exact aE (d:=0) rfl (hS.op rfl) (hS.ch _ _ rfl) (by as_aux_lemma=>kernel_rfl));apply aF rfl;(intro S1 hS;exact aQ rfl (by as_aux_lemma=>kernel_rfl) (hS.op rfl) (hS.ch _ _ rfl) rfl rfl);apply aF rfl;(intro S1 hS;exact ae rfl (hS.op rfl));apply aF rfl;(intro S1 hS;exact aU rfl (hS.op rfl) (hS.op rfl) (hS.ch _ _ rfl) rfl (by as_aux_lemma=>kernel_rfl) (by first | rfl | exact (Int.toNat_of_nonneg (by omega)).symm) (by first | assumption | omega | (simp;omega)) (by first | exact Nat.le_refl _ | exact Nat.le_of_eq (an _).symm | exact Nat.le_of_eq (aw _).symm | (refine Nat.le_trans ?_ (Nat.le_of_eq (an _).symm);(first | omega | (simp;done) | (simp;omega))) | (refine Nat.le_trans ?_ (Nat.le_of_eq (aw _).symm);(first | omega | (simp;done) | (simp;omega)))));apply aF rfl;(intro S1 hS;exact bo rfl (by as_aux_lemma=>kernel_rfl) (hS.op rfl) (hS.ch _ _ rfl) rfl (by first | assumption | exact al (by assumption) | exact ar (by assumption) | exact al (by omega) | exact ar (by omega) | rfl) (by first | exact an _ | assumption | rfl));apply aF rfl;(intro S1 hS;exact ae rfl (hS.op rfl));apply aF rfl;(intro S1 hS;exact ae rfl (hS.op rfl));apply aF rfl;(intro S1 hS;exact bh rfl (hS.op rfl) (hS.ch _ _ rfl));apply aF rfl;(intro S1 hS;exact aE (d:=0) rfl (hS.op rfl) (hS.ch _ _ rfl) (by as_aux_lemma=>kernel_rfl));apply aF rfl;(intro S1 hS;exact aQ rfl (by as_aux_lemma=>kernel_rfl) (hS.op rfl) (hS.ch _ _ rfl) rfl rfl);apply aF rfl;(intro S1 hS;exact ae rfl (hS.op rfl));apply aF rfl;(intro S1 hS;exact aU rfl (hS.op rfl) (hS.op rfl) (hS.ch _ _ rfl) rfl (by as_aux_lemma=>kernel_rfl) (by first | rfl | exact (Int.toNat_of_nonneg (by omega)).symm) (by first | assumption | omega | (simp;omega)) (by first | exact Nat.le_refl _ | exact Nat.le_of_eq (an _).symm | exact Nat.le_of_eq (aw _).symm | (refine Nat.le_trans ?_ (Nat.le_of_eq (an _).symm);(first | omega | (simp;done) | (simp;omega))) | (refine Nat.le_trans ?_ (Nat.le_of_eq (aw _).symm);(first | omega | (simp;done) | (simp;omega)))));apply aF rfl;(intro S1 hS;exact bo rfl (by as_aux_lemma=>kernel_rfl) (hS.op rfl) (hS.ch _ _ rfl) rfl (by first | assumption | exact al (by assumption) | exact ar (by assumption) | exact al (by omega) | exact ar (by omega) | rfl) (by first | exact an _ | assumption | rfl));apply aF rfl;(intro S1 hS;exact ae rfl (hS.op rfl));apply aF rfl;(intro S1 hS;exact ae rfl (hS.op rfl));apply aF rfl;(intro S1 hS;exact ae rfl (hS.op rfl));exact ey.nil)
  ·rfl
  refine ⟨⟨?_, ?_⟩, ?_, ?_⟩
  ·((apply aA 18 rfl (by as_aux_lemma=>kernel_rfl) rfl rfl;(exact aS rfl rfl rfl rfl rfl (by as_aux_lemma=>kernel_rfl) (by first | assumption | exact al (by assumption) | exact ar (by assumption) | exact al (by omega) | exact ar (by omega) | rfl) (by first | rfl | exact (Int.toNat_of_nonneg (by omega)).symm) (by first | assumption | omega | (simp;omega)) (by first | exact Nat.le_refl _ | exact Nat.le_of_eq (an _).symm | exact Nat.le_of_eq (aw _).symm | (refine Nat.le_trans ?_ (Nat.le_of_eq (an _).symm);(first | omega | (simp;done) | (simp;omega))) | (refine Nat.le_trans ?_ (Nat.le_of_eq (aw _).symm);(first | omega | (simp;done) | (simp;omega))))));(apply aA 19 rfl (by as_aux_lemma=>kernel_rfl) rfl rfl;(exact bT rfl rfl rfl rfl rfl (by first | assumption | omega | (simp;omega)) (by first | assumption | omega | (simp;omega)) (by as_aux_lemma=>kernel_rfl)));(apply aA 20 rfl (by as_aux_lemma=>kernel_rfl) rfl rfl;(exact aS rfl rfl rfl rfl rfl (by as_aux_lemma=>kernel_rfl) (by first | assumption | exact al (by assumption) | exact ar (by assumption) | exact al (by omega) | exact ar (by omega) | rfl) (by first | rfl | exact (Int.toNat_of_nonneg (by omega)).symm) (by first | assumption | omega | (simp;omega)) (by first | exact Nat.le_refl _ | exact Nat.le_of_eq (an _).symm | exact Nat.le_of_eq (aw _).symm | (refine Nat.le_trans ?_ (Nat.le_of_eq (an _).symm);(first | omega | (simp;done) | (simp;omega))) | (refine Nat.le_trans ?_ (Nat.le_of_eq (aw _).symm);(first | omega | (simp;done) | (simp;omega))))));(apply aA 21 rfl (by as_aux_lemma=>kernel_rfl) rfl rfl;(exact bT rfl rfl rfl rfl rfl (by first | assumption | omega | (simp;omega)) (by first | assumption | omega | (simp;omega)) (by as_aux_lemma=>kernel_rfl)));(refine aY (by as_aux_lemma=>kernel_rfl) ?_;exact aL (Wk.of trivial ⟨rfl,rfl,rfl,trivial⟩ ⟨rfl,trivial⟩)))
  ·((apply bL 17 18 rfl (by as_aux_lemma=>kernel_rfl) rfl rfl rfl rfl;(exact ae rfl rfl);(exact aS rfl rfl rfl rfl rfl (by as_aux_lemma=>kernel_rfl) (by first | assumption | exact al (by assumption) | exact ar (by assumption) | exact al (by omega) | exact ar (by omega) | rfl) (by first | rfl | exact (Int.toNat_of_nonneg (by omega)).symm) (by first | assumption | omega | (simp;omega)) (by first | exact Nat.le_refl _ | exact Nat.le_of_eq (an _).symm | exact Nat.le_of_eq (aw _).symm | (refine Nat.le_trans ?_ (Nat.le_of_eq (an _).symm);(first | omega | (simp;done) | (simp;omega))) | (refine Nat.le_trans ?_ (Nat.le_of_eq (aw _).symm);(first | omega | (simp;done) | (simp;omega)))));(focus ((apply aA 18 rfl (by as_aux_lemma=>kernel_rfl) rfl rfl;(exact aS rfl rfl rfl rfl rfl (by as_aux_lemma=>kernel_rfl) (by first | assumption | exact al (by assumption) | exact ar (by assumption) | exact al (by omega) | exact ar (by omega) | rfl) (by first | rfl | exact (Int.toNat_of_nonneg (by omega)).symm) (by first | assumption | omega | (simp;omega)) (by first | exact Nat.le_refl _ | exact Nat.le_of_eq (an _).symm | exact Nat.le_of_eq (aw _).symm | (refine Nat.le_trans ?_ (Nat.le_of_eq (an _).symm);(first | omega | (simp;done) | (simp;omega))) | (refine Nat.le_trans ?_ (Nat.le_of_eq (aw _).symm);(first | omega | (simp;done) | (simp;omega))))));(apply aA 19 rfl (by as_aux_lemma=>kernel_rfl) rfl rfl;(exact bT rfl rfl rfl rfl rfl (by first | assumption | omega | (simp;omega)) (by first | assumption | omega | (simp;omega)) (by as_aux_lemma=>kernel_rfl)));(apply aA 20 rfl (by as_aux_lemma=>kernel_rfl) rfl rfl;(exact aS rfl rfl rfl rfl rfl (by as_aux_lemma=>kernel_rfl) (by first | assumption | exact al (by assumption) | exact ar (by assumption) | exact al (by omega) | exact ar (by omega) | rfl) (by first | rfl | exact (Int.toNat_of_nonneg (by omega)).symm) (by first | assumption | omega | (simp;omega)) (by first | exact Nat.le_refl _ | exact Nat.le_of_eq (an _).symm | exact Nat.le_of_eq (aw _).symm | (refine Nat.le_trans ?_ (Nat.le_of_eq (an _).symm);(first | omega | (simp;done) | (simp;omega))) | (refine Nat.le_trans ?_ (Nat.le_of_eq (aw _).symm);(first | omega | (simp;done) | (simp;omega))))));(apply aA 21 rfl (by as_aux_lemma=>kernel_rfl) rfl rfl;(exact bT rfl rfl rfl rfl rfl (by first | assumption | omega | (simp;omega)) (by first | assumption | omega | (simp;omega)) (by as_aux_lemma=>kernel_rfl)));(refine aY (by as_aux_lemma=>kernel_rfl) ?_;exact aL (Wk.of trivial ⟨rfl,rfl,rfl,trivial⟩ ⟨rfl,trivial⟩))));(focus ((apply bL 17 19 rfl (by as_aux_lemma=>kernel_rfl) rfl rfl rfl rfl;(exact ae rfl rfl);(exact bT rfl rfl rfl rfl rfl (by first | assumption | omega | (simp;omega)) (by first | assumption | omega | (simp;omega)) (by as_aux_lemma=>kernel_rfl));(focus ((apply aA 19 rfl (by as_aux_lemma=>kernel_rfl) rfl rfl;(exact bT rfl rfl rfl rfl rfl (by first | assumption | omega | (simp;omega)) (by first | assumption | omega | (simp;omega)) (by as_aux_lemma=>kernel_rfl)));(apply aA 20 rfl (by as_aux_lemma=>kernel_rfl) rfl rfl;(exact aS rfl rfl rfl rfl rfl (by as_aux_lemma=>kernel_rfl) (by first | assumption | exact al (by assumption) | exact ar (by assumption) | exact al (by omega) | exact ar (by omega) | rfl) (by first | rfl | exact (Int.toNat_of_nonneg (by omega)).symm) (by first | assumption | omega | (simp;omega)) (by first | exact Nat.le_refl _ | exact Nat.le_of_eq (an _).symm | exact Nat.le_of_eq (aw _).symm | (refine Nat.le_trans ?_ (Nat.le_of_eq (an _).symm);(first | omega | (simp;done) | (simp;omega))) | (refine Nat.le_trans ?_ (Nat.le_of_eq (aw _).symm);(first | omega | (simp;done) | (simp;omega))))));(apply aA 21 rfl (by as_aux_lemma=>kernel_rfl) rfl rfl;(exact bT rfl rfl rfl rfl rfl (by first | assumption | omega | (simp;omega)) (by first | assumption | omega | (simp;omega)) (by as_aux_lemma=>kernel_rfl)));(refine aY (by as_aux_lemma=>kernel_rfl) ?_;exact aL (Wk.of trivial ⟨rfl,rfl,rfl,trivial⟩ ⟨rfl,trivial⟩))));(focus ((apply aA 17 rfl (by as_aux_lemma=>kernel_rfl) rfl rfl;(exact ae rfl rfl));(apply aA 20 rfl (by as_aux_lemma=>kernel_rfl) rfl rfl;(exact aS rfl rfl rfl rfl rfl (by as_aux_lemma=>kernel_rfl) (by first | assumption | exact al (by assumption) | exact ar (by assumption) | exact al (by omega) | exact ar (by omega) | rfl) (by first | rfl | exact (Int.toNat_of_nonneg (by omega)).symm) (by first | assumption | omega | (simp;omega)) (by first | exact Nat.le_refl _ | exact Nat.le_of_eq (an _).symm | exact Nat.le_of_eq (aw _).symm | (refine Nat.le_trans ?_ (Nat.le_of_eq (an _).symm);(first | omega | (simp;done) | (simp;omega))) | (refine Nat.le_trans ?_ (Nat.le_of_eq (aw _).symm);(first | omega | (simp;done) | (simp;omega))))));(apply aA 21 rfl (by as_aux_lemma=>kernel_rfl) rfl rfl;(exact bT rfl rfl rfl rfl rfl (by first | assumption | omega | (simp;omega)) (by first | assumption | omega | (simp;omega)) (by as_aux_lemma=>kernel_rfl)));(refine aY (by as_aux_lemma=>kernel_rfl) ?_;exact aL (Wk.of trivial ⟨rfl,rfl,rfl,trivial⟩ ⟨rfl,trivial⟩)))))))))
  ·((apply bL 15 18 rfl (by as_aux_lemma=>kernel_rfl) rfl rfl rfl rfl;(exact ae rfl rfl);(exact aS rfl rfl rfl rfl rfl (by as_aux_lemma=>kernel_rfl) (by first | assumption | exact al (by assumption) | exact ar (by assumption) | exact al (by omega) | exact ar (by omega) | rfl) (by first | rfl | exact (Int.toNat_of_nonneg (by omega)).symm) (by first | assumption | omega | (simp;omega)) (by first | exact Nat.le_refl _ | exact Nat.le_of_eq (an _).symm | exact Nat.le_of_eq (aw _).symm | (refine Nat.le_trans ?_ (Nat.le_of_eq (an _).symm);(first | omega | (simp;done) | (simp;omega))) | (refine Nat.le_trans ?_ (Nat.le_of_eq (aw _).symm);(first | omega | (simp;done) | (simp;omega)))));(focus ((apply aA 18 rfl (by as_aux_lemma=>kernel_rfl) rfl rfl;(exact aS rfl rfl rfl rfl rfl (by as_aux_lemma=>kernel_rfl) (by first | assumption | exact al (by assumption) | exact ar (by assumption) | exact al (by omega) | exact ar (by omega) | rfl) (by first | rfl | exact (Int.toNat_of_nonneg (by omega)).symm) (by first | assumption | omega | (simp;omega)) (by first | exact Nat.le_refl _ | exact Nat.le_of_eq (an _).symm | exact Nat.le_of_eq (aw _).symm | (refine Nat.le_trans ?_ (Nat.le_of_eq (an _).symm);(first | omega | (simp;done) | (simp;omega))) | (refine Nat.le_trans ?_ (Nat.le_of_eq (aw _).symm);(first | omega | (simp;done) | (simp;omega))))));(apply aA 19 rfl (by as_aux_lemma=>kernel_rfl) rfl rfl;(exact bT rfl rfl rfl rfl rfl (by first | assumption | omega | (simp;omega)) (by first | assumption | omega | (simp;omega)) (by as_aux_lemma=>kernel_rfl)));(apply aA 20 rfl (by as_aux_lemma=>kernel_rfl) rfl rfl;(exact aS rfl rfl rfl rfl rfl (by as_aux_lemma=>kernel_rfl) (by first | assumption | exact al (by assumption) | exact ar (by assumption) | exact al (by omega) | exact ar (by omega) | rfl) (by first | rfl | exact (Int.toNat_of_nonneg (by omega)).symm) (by first | assumption | omega | (simp;omega)) (by first | exact Nat.le_refl _ | exact Nat.le_of_eq (an _).symm | exact Nat.le_of_eq (aw _).symm | (refine Nat.le_trans ?_ (Nat.le_of_eq (an _).symm);(first | omega | (simp;done) | (simp;omega))) | (refine Nat.le_trans ?_ (Nat.le_of_eq (aw _).symm);(first | omega | (simp;done) | (simp;omega))))));(apply aA 21 rfl (by as_aux_lemma=>kernel_rfl) rfl rfl;(exact bT rfl rfl rfl rfl rfl (by first | assumption | omega | (simp;omega)) (by first | assumption | omega | (simp;omega)) (by as_aux_lemma=>kernel_rfl)));(refine aY (by as_aux_lemma=>kernel_rfl) ?_;exact aL (Wk.of trivial ⟨rfl,rfl,rfl,trivial⟩ ⟨rfl,trivial⟩))));(focus ((apply bL 15 19 rfl (by as_aux_lemma=>kernel_rfl) rfl rfl rfl rfl;(exact ae rfl rfl);(exact bT rfl rfl rfl rfl rfl (by first | assumption | omega | (simp;omega)) (by first | assumption | omega | (simp;omega)) (by as_aux_lemma=>kernel_rfl));(focus ((apply aA 19 rfl (by as_aux_lemma=>kernel_rfl) rfl rfl;(exact bT rfl rfl rfl rfl rfl (by first | assumption | omega | (simp;omega)) (by first | assumption | omega | (simp;omega)) (by as_aux_lemma=>kernel_rfl)));(apply aA 20 rfl (by as_aux_lemma=>kernel_rfl) rfl rfl;(exact aS rfl rfl rfl rfl rfl (by as_aux_lemma=>kernel_rfl) (by first | assumption | exact al (by assumption) | exact ar (by assumption) | exact al (by omega) | exact ar (by omega) | rfl) (by first | rfl | exact (Int.toNat_of_nonneg (by omega)).symm) (by first | assumption | omega | (simp;omega)) (by first | exact Nat.le_refl _ | exact Nat.le_of_eq (an _).symm | exact Nat.le_of_eq (aw _).symm | (refine Nat.le_trans ?_ (Nat.le_of_eq (an _).symm);(first | omega | (simp;done) | (simp;omega))) | (refine Nat.le_trans ?_ (Nat.le_of_eq (aw _).symm);(first | omega | (simp;done) | (simp;omega))))));(apply aA 21 rfl (by as_aux_lemma=>kernel_rfl) rfl rfl;(exact bT rfl rfl rfl rfl rfl (by first | assumption | omega | (simp;omega)) (by first | assumption | omega | (simp;omega)) (by as_aux_lemma=>kernel_rfl)));(refine aY (by as_aux_lemma=>kernel_rfl) ?_;exact aL (Wk.of trivial ⟨rfl,rfl,rfl,trivial⟩ ⟨rfl,trivial⟩))));(focus ((apply aA 15 rfl (by as_aux_lemma=>kernel_rfl) rfl rfl;(exact ae rfl rfl));(apply aA 20 rfl (by as_aux_lemma=>kernel_rfl) rfl rfl;(exact aS rfl rfl rfl rfl rfl (by as_aux_lemma=>kernel_rfl) (by first | assumption | exact al (by assumption) | exact ar (by assumption) | exact al (by omega) | exact ar (by omega) | rfl) (by first | rfl | exact (Int.toNat_of_nonneg (by omega)).symm) (by first | assumption | omega | (simp;omega)) (by first | exact Nat.le_refl _ | exact Nat.le_of_eq (an _).symm | exact Nat.le_of_eq (aw _).symm | (refine Nat.le_trans ?_ (Nat.le_of_eq (an _).symm);(first | omega | (simp;done) | (simp;omega))) | (refine Nat.le_trans ?_ (Nat.le_of_eq (aw _).symm);(first | omega | (simp;done) | (simp;omega))))));(apply aA 21 rfl (by as_aux_lemma=>kernel_rfl) rfl rfl;(exact bT rfl rfl rfl rfl rfl (by first | assumption | omega | (simp;omega)) (by first | assumption | omega | (simp;omega)) (by as_aux_lemma=>kernel_rfl)));(refine aY (by as_aux_lemma=>kernel_rfl) ?_;exact aL (Wk.of trivial ⟨rfl,rfl,rfl,trivial⟩ ⟨rfl,trivial⟩)))))))))
  ·((apply jO 15 17 18 rfl (by as_aux_lemma=>kernel_rfl) rfl rfl rfl rfl rfl rfl;(exact ae rfl rfl);(exact ae rfl rfl);(exact aS rfl rfl rfl rfl rfl (by as_aux_lemma=>kernel_rfl) (by first | assumption | exact al (by assumption) | exact ar (by assumption) | exact al (by omega) | exact ar (by omega) | rfl) (by first | rfl | exact (Int.toNat_of_nonneg (by omega)).symm) (by first | assumption | omega | (simp;omega)) (by first | exact Nat.le_refl _ | exact Nat.le_of_eq (an _).symm | exact Nat.le_of_eq (aw _).symm | (refine Nat.le_trans ?_ (Nat.le_of_eq (an _).symm);(first | omega | (simp;done) | (simp;omega))) | (refine Nat.le_trans ?_ (Nat.le_of_eq (aw _).symm);(first | omega | (simp;done) | (simp;omega)))));(focus ((apply bL 17 18 rfl (by as_aux_lemma=>kernel_rfl) rfl rfl rfl rfl;(exact ae rfl rfl);(exact aS rfl rfl rfl rfl rfl (by as_aux_lemma=>kernel_rfl) (by first | assumption | exact al (by assumption) | exact ar (by assumption) | exact al (by omega) | exact ar (by omega) | rfl) (by first | rfl | exact (Int.toNat_of_nonneg (by omega)).symm) (by first | assumption | omega | (simp;omega)) (by first | exact Nat.le_refl _ | exact Nat.le_of_eq (an _).symm | exact Nat.le_of_eq (aw _).symm | (refine Nat.le_trans ?_ (Nat.le_of_eq (an _).symm);(first | omega | (simp;done) | (simp;omega))) | (refine Nat.le_trans ?_ (Nat.le_of_eq (aw _).symm);(first | omega | (simp;done) | (simp;omega)))));(focus ((apply aA 18 rfl (by as_aux_lemma=>kernel_rfl) rfl rfl;(exact aS rfl rfl rfl rfl rfl (by as_aux_lemma=>kernel_rfl) (by first | assumption | exact al (by assumption) | exact ar (by assumption) | exact al (by omega) | exact ar (by omega) | rfl) (by first | rfl | exact (Int.toNat_of_nonneg (by omega)).symm) (by first | assumption | omega | (simp;omega)) (by first | exact Nat.le_refl _ | exact Nat.le_of_eq (an _).symm | exact Nat.le_of_eq (aw _).symm | (refine Nat.le_trans ?_ (Nat.le_of_eq (an _).symm);(first | omega | (simp;done) | (simp;omega))) | (refine Nat.le_trans ?_ (Nat.le_of_eq (aw _).symm);(first | omega | (simp;done) | (simp;omega))))));(apply aA 19 rfl (by as_aux_lemma=>kernel_rfl) rfl rfl;(exact bT rfl rfl rfl rfl rfl (by first | assumption | omega | (simp;omega)) (by first | assumption | omega | (simp;omega)) (by as_aux_lemma=>kernel_rfl)));(apply aA 20 rfl (by as_aux_lemma=>kernel_rfl) rfl rfl;(exact aS rfl rfl rfl rfl rfl (by as_aux_lemma=>kernel_rfl) (by first | assumption | exact al (by assumption) | exact ar (by assumption) | exact al (by omega) | exact ar (by omega) | rfl) (by first | rfl | exact (Int.toNat_of_nonneg (by omega)).symm) (by first | assumption | omega | (simp;omega)) (by first | exact Nat.le_refl _ | exact Nat.le_of_eq (an _).symm | exact Nat.le_of_eq (aw _).symm | (refine Nat.le_trans ?_ (Nat.le_of_eq (an _).symm);(first | omega | (simp;done) | (simp;omega))) | (refine Nat.le_trans ?_ (Nat.le_of_eq (aw _).symm);(first | omega | (simp;done) | (simp;omega))))));(apply aA 21 rfl (by as_aux_lemma=>kernel_rfl) rfl rfl;(exact bT rfl rfl rfl rfl rfl (by first | assumption | omega | (simp;omega)) (by first | assumption | omega | (simp;omega)) (by as_aux_lemma=>kernel_rfl)));(refine aY (by as_aux_lemma=>kernel_rfl) ?_;exact aL (Wk.of trivial ⟨rfl,rfl,rfl,trivial⟩ ⟨rfl,trivial⟩))));(focus ((apply bL 17 19 rfl (by as_aux_lemma=>kernel_rfl) rfl rfl rfl rfl;(exact ae rfl rfl);(exact bT rfl rfl rfl rfl rfl (by first | assumption | omega | (simp;omega)) (by first | assumption | omega | (simp;omega)) (by as_aux_lemma=>kernel_rfl));(focus ((apply aA 19 rfl (by as_aux_lemma=>kernel_rfl) rfl rfl;(exact bT rfl rfl rfl rfl rfl (by first | assumption | omega | (simp;omega)) (by first | assumption | omega | (simp;omega)) (by as_aux_lemma=>kernel_rfl)));(apply aA 20 rfl (by as_aux_lemma=>kernel_rfl) rfl rfl;(exact aS rfl rfl rfl rfl rfl (by as_aux_lemma=>kernel_rfl) (by first | assumption | exact al (by assumption) | exact ar (by assumption) | exact al (by omega) | exact ar (by omega) | rfl) (by first | rfl | exact (Int.toNat_of_nonneg (by omega)).symm) (by first | assumption | omega | (simp;omega)) (by first | exact Nat.le_refl _ | exact Nat.le_of_eq (an _).symm | exact Nat.le_of_eq (aw _).symm | (refine Nat.le_trans ?_ (Nat.le_of_eq (an _).symm);(first | omega | (simp;done) | (simp;omega))) | (refine Nat.le_trans ?_ (Nat.le_of_eq (aw _).symm);(first | omega | (simp;done) | (simp;omega))))));(apply aA 21 rfl (by as_aux_lemma=>kernel_rfl) rfl rfl;(exact bT rfl rfl rfl rfl rfl (by first | assumption | omega | (simp;omega)) (by first | assumption | omega | (simp;omega)) (by as_aux_lemma=>kernel_rfl)));(refine aY (by as_aux_lemma=>kernel_rfl) ?_;exact aL (Wk.of trivial ⟨rfl,rfl,rfl,trivial⟩ ⟨rfl,trivial⟩))));(focus ((apply aA 17 rfl (by as_aux_lemma=>kernel_rfl) rfl rfl;(exact ae rfl rfl));(apply aA 20 rfl (by as_aux_lemma=>kernel_rfl) rfl rfl;(exact aS rfl rfl rfl rfl rfl (by as_aux_lemma=>kernel_rfl) (by first | assumption | exact al (by assumption) | exact ar (by assumption) | exact al (by omega) | exact ar (by omega) | rfl) (by first | rfl | exact (Int.toNat_of_nonneg (by omega)).symm) (by first | assumption | omega | (simp;omega)) (by first | exact Nat.le_refl _ | exact Nat.le_of_eq (an _).symm | exact Nat.le_of_eq (aw _).symm | (refine Nat.le_trans ?_ (Nat.le_of_eq (an _).symm);(first | omega | (simp;done) | (simp;omega))) | (refine Nat.le_trans ?_ (Nat.le_of_eq (aw _).symm);(first | omega | (simp;done) | (simp;omega))))));(apply aA 21 rfl (by as_aux_lemma=>kernel_rfl) rfl rfl;(exact bT rfl rfl rfl rfl rfl (by first | assumption | omega | (simp;omega)) (by first | assumption | omega | (simp;omega)) (by as_aux_lemma=>kernel_rfl)));(refine aY (by as_aux_lemma=>kernel_rfl) ?_;exact aL (Wk.of trivial ⟨rfl,rfl,rfl,trivial⟩ ⟨rfl,trivial⟩))))))))));(focus ((apply bL 15 18 rfl (by as_aux_lemma=>kernel_rfl) rfl rfl rfl rfl;(exact ae rfl rfl);(exact aS rfl rfl rfl rfl rfl (by as_aux_lemma=>kernel_rfl) (by first | assumption | exact al (by assumption) | exact ar (by assumption) | exact al (by omega) | exact ar (by omega) | rfl) (by first | rfl | exact (Int.toNat_of_nonneg (by omega)).symm) (by first | assumption | omega | (simp;omega)) (by first | exact Nat.le_refl _ | exact Nat.le_of_eq (an _).symm | exact Nat.le_of_eq (aw _).symm | (refine Nat.le_trans ?_ (Nat.le_of_eq (an _).symm);(first | omega | (simp;done) | (simp;omega))) | (refine Nat.le_trans ?_ (Nat.le_of_eq (aw _).symm);(first | omega | (simp;done) | (simp;omega)))));(focus ((apply aA 18 rfl (by as_aux_lemma=>kernel_rfl) rfl rfl;(exact aS rfl rfl rfl rfl rfl (by as_aux_lemma=>kernel_rfl) (by first | assumption | exact al (by assumption) | exact ar (by assumption) | exact al (by omega) | exact ar (by omega) | rfl) (by first | rfl | exact (Int.toNat_of_nonneg (by omega)).symm) (by first | assumption | omega | (simp;omega)) (by first | exact Nat.le_refl _ | exact Nat.le_of_eq (an _).symm | exact Nat.le_of_eq (aw _).symm | (refine Nat.le_trans ?_ (Nat.le_of_eq (an _).symm);(first | omega | (simp;done) | (simp;omega))) | (refine Nat.le_trans ?_ (Nat.le_of_eq (aw _).symm);(first | omega | (simp;done) | (simp;omega))))));(apply aA 19 rfl (by as_aux_lemma=>kernel_rfl) rfl rfl;(exact bT rfl rfl rfl rfl rfl (by first | assumption | omega | (simp;omega)) (by first | assumption | omega | (simp;omega)) (by as_aux_lemma=>kernel_rfl)));(apply aA 20 rfl (by as_aux_lemma=>kernel_rfl) rfl rfl;(exact aS rfl rfl rfl rfl rfl (by as_aux_lemma=>kernel_rfl) (by first | assumption | exact al (by assumption) | exact ar (by assumption) | exact al (by omega) | exact ar (by omega) | rfl) (by first | rfl | exact (Int.toNat_of_nonneg (by omega)).symm) (by first | assumption | omega | (simp;omega)) (by first | exact Nat.le_refl _ | exact Nat.le_of_eq (an _).symm | exact Nat.le_of_eq (aw _).symm | (refine Nat.le_trans ?_ (Nat.le_of_eq (an _).symm);(first | omega | (simp;done) | (simp;omega))) | (refine Nat.le_trans ?_ (Nat.le_of_eq (aw _).symm);(first | omega | (simp;done) | (simp;omega))))));(apply aA 21 rfl (by as_aux_lemma=>kernel_rfl) rfl rfl;(exact bT rfl rfl rfl rfl rfl (by first | assumption | omega | (simp;omega)) (by first | assumption | omega | (simp;omega)) (by as_aux_lemma=>kernel_rfl)));(refine aY (by as_aux_lemma=>kernel_rfl) ?_;exact aL (Wk.of trivial ⟨rfl,rfl,rfl,trivial⟩ ⟨rfl,trivial⟩))));(focus ((apply bL 15 19 rfl (by as_aux_lemma=>kernel_rfl) rfl rfl rfl rfl;(exact ae rfl rfl);(exact bT rfl rfl rfl rfl rfl (by first | assumption | omega | (simp;omega)) (by first | assumption | omega | (simp;omega)) (by as_aux_lemma=>kernel_rfl));(focus ((apply aA 19 rfl (by as_aux_lemma=>kernel_rfl) rfl rfl;(exact bT rfl rfl rfl rfl rfl (by first | assumption | omega | (simp;omega)) (by first | assumption | omega | (simp;omega)) (by as_aux_lemma=>kernel_rfl)));(apply aA 20 rfl (by as_aux_lemma=>kernel_rfl) rfl rfl;(exact aS rfl rfl rfl rfl rfl (by as_aux_lemma=>kernel_rfl) (by first | assumption | exact al (by assumption) | exact ar (by assumption) | exact al (by omega) | exact ar (by omega) | rfl) (by first | rfl | exact (Int.toNat_of_nonneg (by omega)).symm) (by first | assumption | omega | (simp;omega)) (by first | exact Nat.le_refl _ | exact Nat.le_of_eq (an _).symm | exact Nat.le_of_eq (aw _).symm | (refine Nat.le_trans ?_ (Nat.le_of_eq (an _).symm);(first | omega | (simp;done) | (simp;omega))) | (refine Nat.le_trans ?_ (Nat.le_of_eq (aw _).symm);(first | omega | (simp;done) | (simp;omega))))));(apply aA 21 rfl (by as_aux_lemma=>kernel_rfl) rfl rfl;(exact bT rfl rfl rfl rfl rfl (by first | assumption | omega | (simp;omega)) (by first | assumption | omega | (simp;omega)) (by as_aux_lemma=>kernel_rfl)));(refine aY (by as_aux_lemma=>kernel_rfl) ?_;exact aL (Wk.of trivial ⟨rfl,rfl,rfl,trivial⟩ ⟨rfl,trivial⟩))));(focus ((apply aA 15 rfl (by as_aux_lemma=>kernel_rfl) rfl rfl;(exact ae rfl rfl));(apply aA 20 rfl (by as_aux_lemma=>kernel_rfl) rfl rfl;(exact aS rfl rfl rfl rfl rfl (by as_aux_lemma=>kernel_rfl) (by first | assumption | exact al (by assumption) | exact ar (by assumption) | exact al (by omega) | exact ar (by omega) | rfl) (by first | rfl | exact (Int.toNat_of_nonneg (by omega)).symm) (by first | assumption | omega | (simp;omega)) (by first | exact Nat.le_refl _ | exact Nat.le_of_eq (an _).symm | exact Nat.le_of_eq (aw _).symm | (refine Nat.le_trans ?_ (Nat.le_of_eq (an _).symm);(first | omega | (simp;done) | (simp;omega))) | (refine Nat.le_trans ?_ (Nat.le_of_eq (aw _).symm);(first | omega | (simp;done) | (simp;omega))))));(apply aA 21 rfl (by as_aux_lemma=>kernel_rfl) rfl rfl;(exact bT rfl rfl rfl rfl rfl (by first | assumption | omega | (simp;omega)) (by first | assumption | omega | (simp;omega)) (by as_aux_lemma=>kernel_rfl)));(refine aY (by as_aux_lemma=>kernel_rfl) ?_;exact aL (Wk.of trivial ⟨rfl,rfl,rfl,trivial⟩ ⟨rfl,trivial⟩))))))))));(focus ((apply jO 15 17 19 rfl (by as_aux_lemma=>kernel_rfl) rfl rfl rfl rfl rfl rfl;(exact ae rfl rfl);(exact ae rfl rfl);(exact bT rfl rfl rfl rfl rfl (by first | assumption | omega | (simp;omega)) (by first | assumption | omega | (simp;omega)) (by as_aux_lemma=>kernel_rfl));(focus ((apply bL 17 19 rfl (by as_aux_lemma=>kernel_rfl) rfl rfl rfl rfl;(exact ae rfl rfl);(exact bT rfl rfl rfl rfl rfl (by first | assumption | omega | (simp;omega)) (by first | assumption | omega | (simp;omega)) (by as_aux_lemma=>kernel_rfl));(focus ((apply aA 19 rfl (by as_aux_lemma=>kernel_rfl) rfl rfl;(exact bT rfl rfl rfl rfl rfl (by first | assumption | omega | (simp;omega)) (by first | assumption | omega | (simp;omega)) (by as_aux_lemma=>kernel_rfl)));(apply aA 20 rfl (by as_aux_lemma=>kernel_rfl) rfl rfl;(exact aS rfl rfl rfl rfl rfl (by as_aux_lemma=>kernel_rfl) (by first | assumption | exact al (by assumption) | exact ar (by assumption) | exact al (by omega) | exact ar (by omega) | rfl) (by first | rfl | exact (Int.toNat_of_nonneg (by omega)).symm) (by first | assumption | omega | (simp;omega)) (by first | exact Nat.le_refl _ | exact Nat.le_of_eq (an _).symm | exact Nat.le_of_eq (aw _).symm | (refine Nat.le_trans ?_ (Nat.le_of_eq (an _).symm);(first | omega | (simp;done) | (simp;omega))) | (refine Nat.le_trans ?_ (Nat.le_of_eq (aw _).symm);(first | omega | (simp;done) | (simp;omega))))));(apply aA 21 rfl (by as_aux_lemma=>kernel_rfl) rfl rfl;(exact bT rfl rfl rfl rfl rfl (by first | assumption | omega | (simp;omega)) (by first | assumption | omega | (simp;omega)) (by as_aux_lemma=>kernel_rfl)));(refine aY (by as_aux_lemma=>kernel_rfl) ?_;exact aL (Wk.of trivial ⟨rfl,rfl,rfl,trivial⟩ ⟨rfl,trivial⟩))));(focus ((apply aA 17 rfl (by as_aux_lemma=>kernel_rfl) rfl rfl;(exact ae rfl rfl));(apply aA 20 rfl (by as_aux_lemma=>kernel_rfl) rfl rfl;(exact aS rfl rfl rfl rfl rfl (by as_aux_lemma=>kernel_rfl) (by first | assumption | exact al (by assumption) | exact ar (by assumption) | exact al (by omega) | exact ar (by omega) | rfl) (by first | rfl | exact (Int.toNat_of_nonneg (by omega)).symm) (by first | assumption | omega | (simp;omega)) (by first | exact Nat.le_refl _ | exact Nat.le_of_eq (an _).symm | exact Nat.le_of_eq (aw _).symm | (refine Nat.le_trans ?_ (Nat.le_of_eq (an _).symm);(first | omega | (simp;done) | (simp;omega))) | (refine Nat.le_trans ?_ (Nat.le_of_eq (aw _).symm);(first | omega | (simp;done) | (simp;omega))))));(apply aA 21 rfl (by as_aux_lemma=>kernel_rfl) rfl rfl;(exact bT rfl rfl rfl rfl rfl (by first | assumption | omega | (simp;omega)) (by first | assumption | omega | (simp;omega)) (by as_aux_lemma=>kernel_rfl)));(refine aY (by as_aux_lemma=>kernel_rfl) ?_;exact aL (Wk.of trivial ⟨rfl,rfl,rfl,trivial⟩ ⟨rfl,trivial⟩)))))));(focus ((apply bL 15 19 rfl (by as_aux_lemma=>kernel_rfl) rfl rfl rfl rfl;(exact ae rfl rfl);(exact bT rfl rfl rfl rfl rfl (by first | assumption | omega | (simp;omega)) (by first | assumption | omega | (simp;omega)) (by as_aux_lemma=>kernel_rfl));(focus ((apply aA 19 rfl (by as_aux_lemma=>kernel_rfl) rfl rfl;(exact bT rfl rfl rfl rfl rfl (by first | assumption | omega | (simp;omega)) (by first | assumption | omega | (simp;omega)) (by as_aux_lemma=>kernel_rfl)));(apply aA 20 rfl (by as_aux_lemma=>kernel_rfl) rfl rfl;(exact aS rfl rfl rfl rfl rfl (by as_aux_lemma=>kernel_rfl) (by first | assumption | exact al (by assumption) | exact ar (by assumption) | exact al (by omega) | exact ar (by omega) | rfl) (by first | rfl | exact (Int.toNat_of_nonneg (by omega)).symm) (by first | assumption | omega | (simp;omega)) (by first | exact Nat.le_refl _ | exact Nat.le_of_eq (an _).symm | exact Nat.le_of_eq (aw _).symm | (refine Nat.le_trans ?_ (Nat.le_of_eq (an _).symm);(first | omega | (simp;done) | (simp;omega))) | (refine Nat.le_trans ?_ (Nat.le_of_eq (aw _).symm);(first | omega | (simp;done) | (simp;omega))))));(apply aA 21 rfl (by as_aux_lemma=>kernel_rfl) rfl rfl;(exact bT rfl rfl rfl rfl rfl (by first | assumption | omega | (simp;omega)) (by first | assumption | omega | (simp;omega)) (by as_aux_lemma=>kernel_rfl)));(refine aY (by as_aux_lemma=>kernel_rfl) ?_;exact aL (Wk.of trivial ⟨rfl,rfl,rfl,trivial⟩ ⟨rfl,trivial⟩))));(focus ((apply aA 15 rfl (by as_aux_lemma=>kernel_rfl) rfl rfl;(exact ae rfl rfl));(apply aA 20 rfl (by as_aux_lemma=>kernel_rfl) rfl rfl;(exact aS rfl rfl rfl rfl rfl (by as_aux_lemma=>kernel_rfl) (by first | assumption | exact al (by assumption) | exact ar (by assumption) | exact al (by omega) | exact ar (by omega) | rfl) (by first | rfl | exact (Int.toNat_of_nonneg (by omega)).symm) (by first | assumption | omega | (simp;omega)) (by first | exact Nat.le_refl _ | exact Nat.le_of_eq (an _).symm | exact Nat.le_of_eq (aw _).symm | (refine Nat.le_trans ?_ (Nat.le_of_eq (an _).symm);(first | omega | (simp;done) | (simp;omega))) | (refine Nat.le_trans ?_ (Nat.le_of_eq (aw _).symm);(first | omega | (simp;done) | (simp;omega))))));(apply aA 21 rfl (by as_aux_lemma=>kernel_rfl) rfl rfl;(exact bT rfl rfl rfl rfl rfl (by first | assumption | omega | (simp;omega)) (by first | assumption | omega | (simp;omega)) (by as_aux_lemma=>kernel_rfl)));(refine aY (by as_aux_lemma=>kernel_rfl) ?_;exact aL (Wk.of trivial ⟨rfl,rfl,rfl,trivial⟩ ⟨rfl,trivial⟩)))))));(focus ((apply bL 15 17 rfl (by as_aux_lemma=>kernel_rfl) rfl rfl rfl rfl;(exact ae rfl rfl);(exact ae rfl rfl);(focus ((apply aA 17 rfl (by as_aux_lemma=>kernel_rfl) rfl rfl;(exact ae rfl rfl));(apply aA 20 rfl (by as_aux_lemma=>kernel_rfl) rfl rfl;(exact aS rfl rfl rfl rfl rfl (by as_aux_lemma=>kernel_rfl) (by first | assumption | exact al (by assumption) | exact ar (by assumption) | exact al (by omega) | exact ar (by omega) | rfl) (by first | rfl | exact (Int.toNat_of_nonneg (by omega)).symm) (by first | assumption | omega | (simp;omega)) (by first | exact Nat.le_refl _ | exact Nat.le_of_eq (an _).symm | exact Nat.le_of_eq (aw _).symm | (refine Nat.le_trans ?_ (Nat.le_of_eq (an _).symm);(first | omega | (simp;done) | (simp;omega))) | (refine Nat.le_trans ?_ (Nat.le_of_eq (aw _).symm);(first | omega | (simp;done) | (simp;omega))))));(apply aA 21 rfl (by as_aux_lemma=>kernel_rfl) rfl rfl;(exact bT rfl rfl rfl rfl rfl (by first | assumption | omega | (simp;omega)) (by first | assumption | omega | (simp;omega)) (by as_aux_lemma=>kernel_rfl)));(refine aY (by as_aux_lemma=>kernel_rfl) ?_;exact aL (Wk.of trivial ⟨rfl,rfl,rfl,trivial⟩ ⟨rfl,trivial⟩))));(focus ((apply aA 15 rfl (by as_aux_lemma=>kernel_rfl) rfl rfl;(exact ae rfl rfl));(apply aA 20 rfl (by as_aux_lemma=>kernel_rfl) rfl rfl;(exact aS rfl rfl rfl rfl rfl (by as_aux_lemma=>kernel_rfl) (by first | assumption | exact al (by assumption) | exact ar (by assumption) | exact al (by omega) | exact ar (by omega) | rfl) (by first | rfl | exact (Int.toNat_of_nonneg (by omega)).symm) (by first | assumption | omega | (simp;omega)) (by first | exact Nat.le_refl _ | exact Nat.le_of_eq (an _).symm | exact Nat.le_of_eq (aw _).symm | (refine Nat.le_trans ?_ (Nat.le_of_eq (an _).symm);(first | omega | (simp;done) | (simp;omega))) | (refine Nat.le_trans ?_ (Nat.le_of_eq (aw _).symm);(first | omega | (simp;done) | (simp;omega))))));(apply aA 21 rfl (by as_aux_lemma=>kernel_rfl) rfl rfl;(exact bT rfl rfl rfl rfl rfl (by first | assumption | omega | (simp;omega)) (by first | assumption | omega | (simp;omega)) (by as_aux_lemma=>kernel_rfl)));(refine aY (by as_aux_lemma=>kernel_rfl) ?_;exact aL (Wk.of trivial ⟨rfl,rfl,rfl,trivial⟩ ⟨rfl,trivial⟩))))))))))))
 ·exact gu (.inr rfl) rfl ⟨rfl,rfl,rfl,trivial⟩ ⟨rfl,trivial⟩
end Go.Proofs.Ytekbhbcgoadciaa
namespace Go.Proofs.Ytekbhbcgoadciaa
open Go.RowKit
theorem lG (im:List (List Int)) (less:List Int) (m n c g:Nat) (b:Bool) (hm:im.length=m) (h:2000≤im.length):
  FC Try.prog 44 [(1010,l9 m n b),(1000,cz im),(1001,bw less)] [o1 (.ptr 1010 0),vv (I6 c),vv (I6 g)] [(1010,l9 m n true),(1000,cz im),(1001,bw less)] (vv (I6 c)) [(0,o1 (.ptr 1010 0))]:=by
 have hS:=pd 1000 m
 refine bc (nt:=53) Try.func44 rfl rfl (by simp) fun w0 ω0=> ?_
 (refine ah ?_;refine ab ?_;apply aa rfl;(exact ag rfl rfl);refine aj ?_;refine ai ?_;refine ah ?_;refine ab ?_;apply aa rfl;(exact ae rfl rfl);apply aa rfl;(exact bh rfl rfl rfl);apply aa rfl;(exact aE (d:=0) rfl rfl rfl (by as_aux_lemma=>kernel_rfl));apply aa rfl;(exact aQ rfl (by as_aux_lemma=>kernel_rfl) rfl rfl rfl rfl);apply aa rfl;(apply ak 43;exact aq hS (by as_aux_lemma=>kernel_rfl) rfl rfl ⟨rfl,trivial⟩ trivial rfl rfl);apply aa rfl;(exact ag rfl rfl);refine aj ?_;refine ai ?_;refine ah ?_;refine ah ?_;refine ab ?_;apply aa rfl;(exact ae rfl rfl);apply aa rfl;(exact aD rfl rfl rfl rfl);refine aj ?_;refine ai ?_)
 refine au rfl (fun e=> ?_) (fun e=> ?_)
 ·(refine ah ?_;refine ab ?_;apply aa rfl;(exact ae rfl rfl);apply aa rfl;(exact bh rfl rfl rfl);apply aa rfl;(exact aE (d:=2) rfl rfl rfl (by as_aux_lemma=>kernel_rfl));apply aa rfl;(exact eK rfl rfl rfl rfl rfl rfl (by as_aux_lemma=>kernel_rfl) rfl);refine aj ?_;refine ai ?_;refine ah ?_;refine ab ?_;apply aa rfl;(exact ae rfl rfl);apply aa rfl;(exact ag rfl rfl);refine aj ?_;refine ai ?_;refine aW ?_;refine aT ?_)
  exact bd (.inl rfl) rfl (.tmp rfl) ⟨rfl,rfl,rfl,trivial⟩ ⟨rfl,trivial⟩
 ·exfalso;simp at e;omega
set_option maxRecDepth 100000 in
set_option maxHeartbeats 2000000 in
theorem pw (ng:Nat) (im:List (List Int)) (less:List Int) (m n c g:Nat) (b:Bool) (hm:im.length=m) (hn:less.length=n) (h:im.length < 2000) (hw:WF ng im less) (hc:c < less.length) (hg:g < ng) (hng:ng≤1000):
  FC Try.prog 44 [(1010,l9 m n b),(1000,cz im),(1001,bw less)] [o1 (.ptr 1010 0),vv (I6 c),vv (I6 g)] [(1010,l9 (m + 1) (n + 1) b),(1000,cz (kY ng im less.length c g)),(1001,bw (less ++ [(n:Int)]))] (vv (I6 n)) [(0,o1 (.ptr 1010 0))]:=by
 have hlen:=hw.len
 obtain rfl:m=n:=by omega
 subst hn
 have hS:=pd 1000 less.length
 have h0:=hw.row 0 (by omega)
 have hrow0:(bK im)[0]? =some (aJ (bu im 0)):=ar (by omega)
 have hR:FC Try.prog 37 [(24,⟨false,2,1, .bG (aJ [-1])⟩)] [o1 (.sl 24 0 1),vv (I6 ng)] [(32,⟨true,2,1, .bG (aJ (List.replicate ng (-1)))⟩)] (o1 (.sl 32 0 ng)) []:=gX 24 32 ng (-1) (by omega) (by omega)
 have hA:=hw.app
 have hlA:(im ++ [List.replicate ng (-1)]).length=less.length + 1:=by simp;omega
 have hL:=sP (im ++ [List.replicate ng (-1)]) (less ++ [(less.length:Int)]) (less.length + 1) (less.length + 1) c less.length g b hlA (by omega) (by rw [hA.row c (by omega)];exact hg) (by omega) (by rw [hA.row less.length (by omega)];exact hg)
 refine bc (nt:=53) Try.func44 rfl rfl (by simp) fun w0 ω0=> ?_
 (refine ah ?_;refine ab ?_;apply aa rfl;(exact ag rfl rfl);refine aj ?_;refine ai ?_;refine ah ?_;refine ab ?_;apply aa rfl;(exact ae rfl rfl);apply aa rfl;(exact bh rfl rfl rfl);apply aa rfl;(exact aE (d:=0) rfl rfl rfl (by as_aux_lemma=>kernel_rfl));apply aa rfl;(exact aQ rfl (by as_aux_lemma=>kernel_rfl) rfl rfl rfl rfl);apply aa rfl;(apply ak 43;exact aq hS (by as_aux_lemma=>kernel_rfl) rfl rfl ⟨rfl,trivial⟩ trivial rfl rfl);apply aa rfl;(exact ag rfl rfl);refine aj ?_;refine ai ?_;refine ah ?_;refine ah ?_;refine ab ?_;apply aa rfl;(exact ae rfl rfl);apply aa rfl;(exact aD rfl rfl rfl rfl);refine aj ?_;refine ai ?_)
 refine au rfl (fun e=> ?_) (fun e=> ?_)
 ·exfalso;simp at e;omega
 ·(refine aI ?_;refine ai ?_;refine ah ?_)
  refine cg (St.of [(0,o1 (.ptr 1010 0)),(1,vv (I6 c)),(2,vv (I6 g)),(7,vv (I6 less.length))] [(1010,⟨true,65,3, .flat [.sl 1000 0 (less.length + 1), .sl 1001 0 less.length, .val (.bool b)]⟩),(1000,cz (im ++ [List.replicate ng (-1)])),(1001,bw less)] [(0,o1 (.ptr 1010 0))]) ?_ ?_
  ·apply ld 15 [] 0 [[], [], [1], [1,2], [1,2,3], [], [], [6], [6,7], [6,7,8], [6,7,8,9], [6,7,8,9,10], [6,7,8,9,10,11], [5,6,7,8,9,10,11,12], [5,6,7,8,9,10,11,12,13], [1,2,3,4,5,6,7,8,9,10,11,12,13,14], [0,1,2,3,4,5,6,7,8,9,10,11,12,13,14,15], [0,1,2,3,4,5,6,7,8,9,10,11,12,13,14,15,16], [0,1,2,3,4,5,6,7,8,9,10,11,12,13,14,15,16,17]] [19,20,21,22,23,24,25,26,27,28,29,30,31,32,33] [24,32,33] (by kernel_rfl) (by kernel_rfl) (by kernel_rfl)
   ·(apply aF rfl;(intro S1 hS;exact ae rfl (hS.op rfl));apply aF rfl;(intro S1 hS;exact ae rfl (hS.op rfl));apply aF rfl;(intro S1 hS;exact bh rfl (hS.op rfl) (hS.ch _ _ rfl));apply aF rfl;(intro S1 hS;exact aE (d:=0) rfl (hS.op rfl) (hS.ch _ _ rfl) (by as_aux_lemma=>kernel_rfl));apply aF rfl;(intro S1 hS;exact aQ rfl (by as_aux_lemma=>kernel_rfl) (hS.op rfl) (hS.ch _ _ rfl) rfl rfl);apply fJ rfl;(intro S1 hS;exact bM (E:=2) rfl (by as_aux_lemma=>kernel_rfl) (hS.op rfl));apply aF rfl;(intro S1 hS;exact ae rfl (hS.op rfl));apply aF rfl;(intro S1 hS;exact bh rfl (hS.op rfl) (hS.ch _ _ rfl));apply aF rfl;(intro S1 hS;exact aE (d:=0) rfl (hS.op rfl) (hS.ch _ _ rfl) (by as_aux_lemma=>kernel_rfl));apply aF rfl;(intro S1 hS;exact aQ rfl (by as_aux_lemma=>kernel_rfl) (hS.op rfl) (hS.ch _ _ rfl) rfl rfl);apply aF rfl;(intro S1 hS;exact aU rfl (hS.op rfl) (hS.op rfl) (hS.ch _ _ rfl) rfl (by as_aux_lemma=>kernel_rfl) (by first | rfl | exact (Int.toNat_of_nonneg (by omega)).symm) (by first | assumption | omega | (simp;omega)) (by first | exact Nat.le_refl _ | exact Nat.le_of_eq (an _).symm | exact Nat.le_of_eq (aw _).symm | (refine Nat.le_trans ?_ (Nat.le_of_eq (an _).symm);(first | omega | (simp;done) | (simp;omega))) | (refine Nat.le_trans ?_ (Nat.le_of_eq (aw _).symm);(first | omega | (simp;done) | (simp;omega)))));apply aF rfl;(intro S1 hS;exact bo rfl (by as_aux_lemma=>kernel_rfl) (hS.op rfl) (hS.ch _ _ rfl) rfl (by first | assumption | exact al (by assumption) | exact ar (by assumption) | exact al (by omega) | exact ar (by omega) | rfl) (by first | exact an _ | assumption | rfl));apply aF rfl;(intro S1 hS;exact a8 rfl (hS.op rfl) rfl (by as_aux_lemma=>kernel_rfl));(apply fJ rfl;(focus (intro S1 hS1;apply ak 37;exact bz hR (by as_aux_lemma=>kernel_rfl) rfl (dx hS1 rfl) ⟨rfl,congrArg (fun z:Nat=>vv (I6 z)) h0,trivial⟩ (cJ hS1 ⟨⟨_,rfl, .inr rfl⟩,trivial⟩) rfl rfl rfl)));apply fJ rfl;(intro S1 hS;exact lX (E:=24) rfl (by as_aux_lemma=>kernel_rfl) (hS.op rfl) rfl rfl);exact ey.nil)
   ·rfl
   ·((apply aA 15 rfl (by as_aux_lemma=>kernel_rfl) rfl rfl;(exact kz rfl (by as_aux_lemma=>kernel_rfl) rfl rfl (by first | rfl | assumption | (simp;done)) rfl rfl rfl (by first | rfl | assumption | (simp;done)) rfl (by omega)));(apply aA 16 rfl (by as_aux_lemma=>kernel_rfl) rfl rfl;(exact bh rfl rfl rfl));(apply aA 17 rfl (by as_aux_lemma=>kernel_rfl) rfl rfl;(exact aE (d:=0) rfl rfl rfl (by as_aux_lemma=>kernel_rfl)));(apply aA 18 rfl (by as_aux_lemma=>kernel_rfl) rfl rfl;(exact eK rfl rfl rfl rfl rfl rfl (by as_aux_lemma=>kernel_rfl) rfl));(refine aY (by as_aux_lemma=>kernel_rfl) ?_;exact aL (Wk.of ⟨rfl,rfl,rfl,rfl,trivial⟩ ⟨rfl,rfl,rfl,trivial⟩ ⟨rfl,trivial⟩)))
   ·((apply bL 0 15 rfl (by as_aux_lemma=>kernel_rfl) rfl rfl rfl rfl;(exact ae rfl rfl);(exact kz rfl (by as_aux_lemma=>kernel_rfl) rfl rfl (by first | rfl | assumption | (simp;done)) rfl rfl rfl (by first | rfl | assumption | (simp;done)) rfl (by omega));(focus ((apply aA 15 rfl (by as_aux_lemma=>kernel_rfl) rfl rfl;(exact kz rfl (by as_aux_lemma=>kernel_rfl) rfl rfl (by first | rfl | assumption | (simp;done)) rfl rfl rfl (by first | rfl | assumption | (simp;done)) rfl (by omega)));(apply aA 16 rfl (by as_aux_lemma=>kernel_rfl) rfl rfl;(exact bh rfl rfl rfl));(apply aA 17 rfl (by as_aux_lemma=>kernel_rfl) rfl rfl;(exact aE (d:=0) rfl rfl rfl (by as_aux_lemma=>kernel_rfl)));(apply aA 18 rfl (by as_aux_lemma=>kernel_rfl) rfl rfl;(exact eK rfl rfl rfl rfl rfl rfl (by as_aux_lemma=>kernel_rfl) rfl));(refine aY (by as_aux_lemma=>kernel_rfl) ?_;exact aL (Wk.of ⟨rfl,rfl,rfl,rfl,trivial⟩ ⟨rfl,rfl,rfl,trivial⟩ ⟨rfl,trivial⟩))));(focus ((apply aA 0 rfl (by as_aux_lemma=>kernel_rfl) rfl rfl;(exact ae rfl rfl));(apply aA 16 rfl (by as_aux_lemma=>kernel_rfl) rfl rfl;(exact bh rfl rfl rfl));(apply aA 17 rfl (by as_aux_lemma=>kernel_rfl) rfl rfl;(exact aE (d:=0) rfl rfl rfl (by as_aux_lemma=>kernel_rfl)));(apply aA 18 rfl (by as_aux_lemma=>kernel_rfl) rfl rfl;(exact eK rfl rfl rfl rfl rfl rfl (by as_aux_lemma=>kernel_rfl) rfl));(refine aY (by as_aux_lemma=>kernel_rfl) ?_;exact aL (Wk.of ⟨rfl,rfl,rfl,rfl,trivial⟩ ⟨rfl,rfl,rfl,trivial⟩ ⟨rfl,trivial⟩))))))
  (refine ai ?_;refine ah ?_;refine ab ?_;apply aa rfl;(exact ae rfl rfl);apply aa rfl;(exact ae rfl rfl);apply aa rfl;(exact bh rfl rfl rfl);apply aa rfl;(exact aE (d:=1) rfl rfl rfl (by as_aux_lemma=>kernel_rfl));apply aa rfl;(exact aQ rfl (by as_aux_lemma=>kernel_rfl) rfl rfl rfl rfl);apply aa rfl;(exact ae rfl rfl);apply aa rfl;(exact bM (E:=2) rfl (by as_aux_lemma=>kernel_rfl) rfl);apply aa rfl;(exact bg rfl (by as_aux_lemma=>kernel_rfl) rfl rfl rfl (by first | rfl | assumption | (simp;done)) rfl rfl (by omega));apply aa rfl;(exact bh rfl rfl rfl);apply aa rfl;(exact aE (d:=1) rfl rfl rfl (by as_aux_lemma=>kernel_rfl));apply aa rfl;(exact eK rfl rfl rfl rfl rfl rfl (by as_aux_lemma=>kernel_rfl) rfl);refine aj ?_;refine ai ?_;refine ah ?_;refine ab ?_;apply aa rfl;(exact ae rfl rfl);apply aa rfl;(exact ae rfl rfl);apply aa rfl;(exact ae rfl rfl);apply aa rfl;(exact ae rfl rfl);apply aa rfl;(apply ak 66;exact ct [(0,1010)] hL (by as_aux_lemma=>kernel_rfl) rfl rfl ⟨rfl,rfl,rfl,rfl,trivial⟩ ⟨⟨_,rfl, .inl rfl⟩,⟨_,rfl, .inl rfl⟩,⟨_,rfl, .inl rfl⟩,trivial⟩ ⟨rfl,rfl,rfl,trivial⟩ rfl rfl);refine aj ?_;refine ai ?_;refine ah ?_;refine ab ?_;apply aa rfl;(exact ae rfl rfl);apply aa rfl;(exact ag rfl rfl);refine aj ?_;refine ai ?_;refine aW ?_)
  exact bd (.inl rfl) rfl (.tmp rfl) ⟨rfl,rfl,rfl,trivial⟩ ⟨rfl,trivial⟩
end Go.Proofs.Ytekbhbcgoadciaa
namespace Go.Proofs.Ytekbhbcgoadciaa
open Go.RowKit
theorem tt {P:Program} {ω:bE} {w:World} {ow:Nm×Option Nat} {h:Hd} {T E k dlen n m off c:Nat} {ty:TypeId} {u:Value} {cell:Nat→Value→Prop} {a:Addr} {news:List Value} (hT:mY P T E k=true) (hk0:0 < k) (hk:h.k=k)
  (hv:dh ω w ow h E dlen cell) (hu:z6 h off n u) (hd:(off + n) * k=dlen) (hm0:0 < m) (hl:news.length=m * k) (hnews:∀j v,news[j]? =some v→w.cell? (a.add j)=some v) (h1:∀v∈news,v.oneCell'=true) (hb:n + m≤2199023255552):
  ∃ao' c' w',(Builtin.append_ #[T,T] ty #[u, .slice (some a) m c]).run P w= .ok (.slice ao' (n + m) c') w'∧((∃h',ao'=h'.ao∧c'=h'.c∧Grown ω w w' ow h' E k (n * k) news (fun j u=>cell (off * k + j) u))∨
   (z6 h off (n + m) (.slice ao' (n + m) c')∧Grown ω w w' ow h E k dlen news cell)):=by
 rcases Nat.eq_zero_or_pos off with hoff | hoff
 ·obtain ⟨h',w',r1,r2⟩:=iI (ty:=ty) (c:=c) hT hk0 hk hv hu hoff hd hm0 hl hnews h1 hb
  exact ⟨_,_,w',r1, .inl ⟨h',rfl,rfl,r2⟩⟩
 obtain ⟨i,z,e1,e2,e3,e4,e5,e6⟩:=dA hT
 obtain ⟨ao,rfl,ha0,ha1⟩:=hu
 have hby:(n + m) * i.bytes≤140737488355328:=Nat.le_trans (Nat.mul_le_mul_left _ e4) (by omega)
 have hb0:0 + m≤maxLen:=by simp [maxLen];omega
 have hbn:n + m≤maxLen:=by simp [maxLen];omega
 subst e3
 have fresh:∀(cs0:List Value) (cap:Nat),cs0.length=n * i.size→n + m≤cap→cap≤maxLen→(∀j,j < n * i.size→∃u,cs0[j]? =some u∧cell (off * i.size + j) u)→∀w1:World,w1.heap=w.heap→w1.os=w.os→w1.tape=w.tape→w1.output=w.output→
   Grown ω w (w1.alloc (.cells (cs0.toArray ++ news.toArray ++ Builtin.zeroCells z.cells (cap - (n + m))) E)) ow ⟨some ⟨w.heap.size,0,none⟩,cap,i.size⟩ E i.size (n * i.size) news (fun j u=>cell (off * i.size + j) u):=by
  intro cs0 cap hc0 hcap hcm hcs w1 hw1 ho1 ht1 hout1
  have hs1:w1.heap.size=w.heap.size:=by rw [hw1]
  refine { k_:=rfl,os:=ho1,tape:=ht1,output:=hout1,size:=by simp [hs1],other:=fun b hb _=> ?_,vec:=⟨w.heap.size,0,_,rfl,by simp [bE.new],by rw [←hs1];exact heap_alloc_new w1 _, ?_, ?_,hcm,fun j hj=> ?_,fun j v hj=> ?_⟩ }
  ·rw [Below.heap_alloc w1 _ b (by omega),hw1]
  ·simp only [Array.size_append,List.size_toArray,size_zeroCells,e6,hc0,hl,←Nat.add_mul,Nat.zero_add]
   exact ⟨trivial,by congr 1;omega⟩
  ·rw [hl,←Nat.add_mul];exact Nat.mul_le_mul_right _ hcap
  ·obtain ⟨u,hu,hcu⟩:=hcs j hj
   refine ⟨u, ?_,hcu⟩
   rw [Nat.zero_add,Array.getElem?_append_left (by simp [hc0];omega),Array.getElem?_append_left (by simp [hc0];omega)]
   simpa using hu
  ·have hjl:j < news.length:=(List.getElem?_eq_some_iff.1 hj).1
   rw [Nat.zero_add,Array.getElem?_append_left (by simp [hc0];omega),Array.getElem?_append_right (by simp [hc0])]
   simpa [hc0] using hj
 rcases hv with ⟨hao,hc,hd0⟩ | ⟨b,o,cs,g1,g2,g3,⟨ho,g4⟩,g5,g6,g7⟩
 ·exfalso
  have h0:(off + n) * i.size=0:=by rw [hd,hd0]
  rcases Nat.eq_zero_or_pos (off + n) with h8 | h8
  ·omega
  ·have:=Nat.mul_pos h8 hk0;omega
 ·rw [hk] at g4 g5
  have hoc:off + n≤h.c:=Nat.le_of_mul_le_mul_right (by rw [hd];exact g5) hk0
  have hmul:∀x,x≤h.c→x * i.size≤h.c * i.size:=fun x hx=>Nat.mul_le_mul_right _ hx
  have hbs:b < w.heap.size:=ed g3
  have old:∀j,j < n * i.size→∃u,cs[o + off * i.size + j]? =some u∧cell (off * i.size + j) u:=fun j hj=>by
   obtain ⟨u,hu,hcu⟩:=g7 (off * i.size + j) (by rw [←hd,Nat.add_mul];omega)
   exact ⟨u,by rw [Nat.add_assoc];exact hu,hcu⟩
  have haos:off < h.c→ao=some ⟨b,o + off * i.size,none⟩:=fun hlt=>by
   rcases Nat.eq_zero_or_pos off with h0 | h0
   ·rw [ha0 h0,g1,h0];simp
   ·rw [ha1 h0 hlt,g1,hk];rfl
  by_cases hroom:n + m≤h.c - off
  ·have hlt:off < h.c:=by omega
   rw [haos hlt]
   have hfit:o + off * i.size + n * i.size + news.length≤cs.size:=by
    have h2:=hmul (off + n + m) (by omega)
    rw [Nat.add_mul,Nat.add_mul] at h2
    rw [hl];omega
   have hr:=kP (P:=P) (ty:=ty) w T E i e1 e2 b (o + off * i.size) n (h.c - off) cs g3 a m c news hl hnews h1 hroom hfit
   have hnl:n * i.size + news.length≤(h.c - off) * i.size:=by rw [hl,←Nat.add_mul];exact Nat.mul_le_mul_right _ hroom
   have htl:(cs.toList.take (o + off * i.size + n * i.size)).length=o + off * i.size + n * i.size:=by
    rw [List.length_take,Array.length_toList];omega
   refine ⟨some ⟨b,o + off * i.size,none⟩,h.c - off,_,hr, .inr ⟨⟨_,rfl,fun e=>absurd e (by omega),fun _ _=>by rw [g1,hk];rfl⟩, ?_⟩⟩
   have hon:o + off * i.size + n * i.size=o + dlen:=by rw [←hd,Nat.add_mul];omega
   rw [hon] at hfit htl
   refine { k_:=hk,os:=rfl,tape:=rfl,output:=rfl,size:=by simp,other:=fun b' _ hne=>setRow_other w b b' _ (fun e=>hne (e ▸ g2)),vec:=⟨b,o,_,g1,by simp [bE.new,Nat.ne_of_lt hbs,g2],setRow_heap w b cs _ E _ g3,⟨ho, ?_⟩, ?_,g6,fun j hj=> ?_,fun j v hj=> ?_⟩ }
   ·rw [hon]
    simp only [List.size_toArray,List.length_append,htl,List.length_drop,Array.length_toList]
    omega
   ·omega
   ·obtain ⟨u,hu,hcu⟩:=g7 j hj
    refine ⟨u, ?_,hcu⟩
    rw [hon]
    simp only [List.getElem?_toArray]
    rw [List.append_assoc,List.getElem?_append_left (by rw [htl];omega),List.getElem?_take,if_pos (by omega)]
    simpa using hu
   ·rw [hon]
    simp only [List.getElem?_toArray]
    have:=oR (a:=cs.toList.take (o + dlen)) (c:=cs.toList.drop (o + dlen + news.length)) hj
    rw [htl] at this
    exact this
  ·have holds:∀u',n * i.size≠0→ao=some u'→u'=⟨b,o + off * i.size,none⟩:=fun u' hn0 he=>by
    have hnp:0 < n:=by
     rcases Nat.eq_zero_or_pos n with h8 | h8
     ·subst h8;simp at hn0
     ·exact h8
    rw [haos (by omega)] at he;exact (Option.some.inj he).symm
   have hol:((cs.toList.drop (o + off * i.size)).take (n * i.size)).length=n * i.size:=by
    rw [List.length_take,List.length_drop,Array.length_toList]
    have h2:=hmul (off + n) hoc
    rw [Nat.add_mul] at h2
    omega
   have hoat:∀(j:Nat) (u:Value),((cs.toList.drop (o + off * i.size)).take (n * i.size))[j]? =some u→j < n * i.size∧cs[o + off * i.size + j]? =some u:=fun j u hj=>by
    have hjl:j < n * i.size:=by have:=(List.getElem?_eq_some_iff.1 hj).1;omega
    rw [List.getElem?_take,if_pos hjl,List.getElem?_drop] at hj
    exact ⟨hjl,by simpa using hj⟩
   have hfresh:=fresh ((cs.toList.drop (o + off * i.size)).take (n * i.size)) (grownCap w (n + m) (h.c - off) E) hol (grownCap_ge _ _ _ _) (grownCap_le_maxLen _ _ _ _ hbn) (fun j hj=>by
    obtain ⟨u,hu,hcu⟩:=old j hj
    refine ⟨u, ?_,hcu⟩
    rw [List.getElem?_take,if_pos hj,List.getElem?_drop]
    simpa using hu) w.drew rfl rfl rfl rfl
   cases hao:ao with
   | none=>
    have hno:¬off < h.c:=fun hlt=>by rw [haos hlt] at hao;cases hao
    have hn0:n=0:=by omega
    subst hn0
    have hc0:h.c - off=0:=by omega
    rw [hc0] at hfresh ⊢
    have hr:=run_append_nil (P:=P) (ty:=ty) w T E i z e1 e2 e5 a m c news hl hnews hm0 (by omega) (by simp only [Nat.zero_add] at hby;omega)
    exact ⟨_,_,_,by rw [hr,Nat.zero_add], .inl ⟨⟨some ⟨w.heap.size,0,none⟩,grownCap w m 0 E,i.size⟩,rfl,rfl,by simpa using hfresh⟩⟩
   | some a'=>
    have hr:=run_append_grow (P:=P) (ty:=ty) w T E i z e1 e2 e5 a' n (h.c - off) _ hol (fun j u hj=>by
     obtain ⟨hj1,hj2⟩:=hoat j u hj
     rw [holds a' (by omega) hao,Addr.add_lit]
     show w.cell? ⟨b,o + off * i.size + j,none⟩=some u
     rw [cell_of_row w b _ cs E (0,0) g3];exact hj2) a m c news hl hnews (by omega) (by omega) (growslice_fits (by omega) hby)
    exact ⟨_,_,_,hr, .inl ⟨⟨some ⟨w.heap.size,0,none⟩,grownCap w (n + m) (h.c - off) E,i.size⟩,rfl,rfl,hfresh⟩⟩
section
variable {P:Program} {nt:Nat} {S S1 S2:St} {w0 w:World} {ω0:kd} {ω:bE} {η:Env} {a:Act} {Q:Exit→Act→World→Prop} {ops:Array Oper} {rest:List Oper}
variable {t:Nat} {ty:TypeId} {ps:String} {af:Array Edge} {gd:Option (Nat×Bool)} {x y:Operand} {av:AV} {o:Oper}
structure wj (P:Program) (nt:Nat) (o:Oper) (S S1 S2:St):Prop where
 go:∀w0 ω0 a w Q,Sat w0 ω0 nt S a w→o.wp P a w (fun a w=>Sat w0 ω0 nt S1 a w∨Sat w0 ω0 nt S2 a w) Q
theorem Bn (hg:o.guard=none) (h:wj P nt o S S1 S2) (k1:ns P w0 ω0 nt ops Q S1 rest) (k2:ns P w0 ω0 nt ops Q S2 rest):ns P w0 ω0 nt ops Q S (o :: rest):=by
 refine ⟨fun a w hs=>wpList_plain hg fun K' hK'=> ?_⟩
 exact Oper.wp_mono (fun a' w' h'=>hK' _ _ (h'.elim (fun h1=>k1.go a' w' h1) fun h2=>k2.go a' w' h2)) (h.go w0 ω0 a w Q hs)
theorem wj.fin {w':World} {v:Value} (h:(execOp a.eval o).run P w= .ok (.value v) w') (k:Sat w0 ω0 nt S1 (a.put o.dst v) w'∨Sat w0 ω0 nt S2 (a.put o.dst v) w'):o.wp P a w (fun a w=>Sat w0 ω0 nt S1 a w∨Sat w0 ω0 nt S2 a w) Q:=by
 unfold Oper.wp
 rw [h]
 exact k
theorem rM {T E k n off len m:Nat} {vs news:List Value} {b:A1} (ht:Nat.blt t nt=true) (hT:mY P T E k=true) (hk0:Nat.blt 0 k=true) (hx:S.op x=some (o1 (.sl n off len))) (hc:S.ch n=some ⟨true,E,k, .bG vs⟩) (hl:(off + len) * k=vs.length)
  (hy:S.op y=some (o1 b)) (hr:Reads S b m k news) (hm:0 < m) (h1:∀v∈news,v.oneCell'=true) (hb:len + m≤2199023255552):
  wj P nt ⟨some t, .call { callee:= .builtin .append,args:= #[x,y],argTypes:= #[T,T] },ty,ps,af,gd⟩ S ((S.new n ⟨true,E,k, .bG (vs.drop (off * k) ++ news)⟩).put t (o1 (.sl n 0 (len + m)))) ((S.new n ⟨true,E,k, .bG (vs ++ news)⟩).put t (o1 (.sl n off (len + m)))):=by
 refine ⟨fun w0 ω0 a w Q ⟨η,ω,hs⟩=> ?_⟩
 have hk0':0 < k:=by simpa using hk0
 obtain ⟨hd,e1,e2,e3⟩:=hs.chunk hc
 have e3:dh ω w (n,none) hd E vs.length (bW η ω w true n (.bG vs)):=e3
 have hu:cq η (.sl n off len) (a.eval x):=hs.gk hx
 obtain ⟨ad,cp,r1,r2⟩:=hr.go hs (hs.gk hy)
 have hnl:=hr.len
 have hn0:0 < news.length:=by rw [hnl];exact Nat.mul_pos hm hk0'
 obtain ⟨bb,o,r3,_⟩:=r2 0 _ (List.getElem?_eq_getElem hn0)
 subst r3
 obtain ⟨ao',c',w',k1,k2⟩:=tt (P:=P) (ty:=ty) (c:=cp) hT hk0' e2 e3 (hu.2 hd e1) hl hm hnl (a:=⟨bb,o,none⟩) (fun j v hj=>by
  obtain ⟨b2,o2,h2,h3⟩:=r2 j v hj
  simp only [Option.some.injEq,Addr.mk.injEq,and_true] at h2
  obtain ⟨rfl,rfl⟩:=h2
  rw [Addr.add_lit];exact h3) h1 hb
 refine wj.fin (v:= .slice ao' (len + m) c') (w':=w') (by simp [execOp,resolve,invoke,builtin,r1,k1]) ?_
 rcases k2 with ⟨h',q1,q2,k2⟩ | ⟨k3,k2⟩
 ·left
  subst q1 q2
  have hlen:(vs.drop (off * k) ++ news).length=len * k + news.length:=by
   rw [List.length_append,List.length_drop,←hl,Nat.add_mul];omega
  have:=hs.renew (n:=n) (c:=⟨true,E,k, .bG (vs.drop (off * k) ++ news)⟩) (hd:=h') (r:=fun _=>⟨none,0,1⟩) (jx (by simp [eH]) k2) ⟨k2.k_,by
   obtain ⟨b',o',cs',v1,v2,v3,v4,v5,v6,v7,v8⟩:=k2.vec
   refine .inr ⟨b',o',cs',v1,v2,v3,by rw [k2.k_];exact v4,by rw [k2.k_];show (vs.drop (off * k) ++ news).length≤_;rw [hlen];exact v5,v6,fun j hj=> ?_⟩
   have hj:j < (vs.drop (off * k) ++ news).length:=hj
   rw [hlen] at hj
   by_cases hlt:j < len * k
   ·obtain ⟨u,q1,q2⟩:=v7 j hlt
    have q2:vs[off * k + j]? =some u:=q2
    refine ⟨u,q1, ?_⟩
    show (vs.drop (off * k) ++ news)[j]? =some u
    rw [List.getElem?_append_left (by rw [List.length_drop,←hl,Nat.add_mul];omega),List.getElem?_drop];exact q2
   ·have hdl:(vs.drop (off * k)).length=len * k:=by rw [List.length_drop,←hl,Nat.add_mul];omega
    have hj2:j - len * k < news.length:=by omega
    refine ⟨news[j - len * k], ?_, ?_⟩
    ·have:=v8 (j - len * k) _ (List.getElem?_eq_getElem hj2)
     rw [show o' + len * k + (j - len * k)=o' + j by omega] at this;exact this
    ·show (vs.drop (off * k) ++ news)[j]? =_
     rw [List.getElem?_append_right (by omega),hdl,List.getElem?_eq_getElem hj2]⟩
  exact ⟨_,_,this.eY (by simpa using ht) kD⟩
 ·right
  have:=hs.renew (n:=n) (c:=⟨true,E,k, .bG (vs ++ news)⟩) (hd:=hd) (r:=fun _=>⟨none,0,1⟩) (jx (by simp [eH]) k2) ⟨k2.k_,by
   obtain ⟨b',o',cs',v1,v2,v3,v4,v5,v6,v7,v8⟩:=k2.vec
   refine .inr ⟨b',o',cs',v1,v2,v3,by rw [k2.k_];exact v4,by rw [k2.k_];show (vs ++ news).length≤_;rw [List.length_append];exact v5,v6,fun j hj=> ?_⟩
   have hj:j < (vs ++ news).length:=hj
   rw [List.length_append] at hj
   by_cases hlt:j < vs.length
   ·obtain ⟨u,q1,q2⟩:=v7 j hlt
    have q2:vs[j]? =some u:=q2
    refine ⟨u,q1, ?_⟩
    show (vs ++ news)[j]? =some u
    rw [List.getElem?_append_left hlt];exact q2
   ·have hj2:j - vs.length < news.length:=by omega
    refine ⟨news[j - vs.length], ?_, ?_⟩
    ·have:=v8 (j - vs.length) _ (List.getElem?_eq_getElem hj2)
     rw [show o' + vs.length + (j - vs.length)=o' + j by omega] at this;exact this
    ·show (vs ++ news)[j]? =_
     rw [List.getElem?_append_right (by omega),List.getElem?_eq_getElem hj2]⟩
  exact ⟨_,_,this.eY (by simpa using ht) ⟨⟨_,_,rfl⟩,fun hd' he=>by
   simp [Env.new] at he;subst he;exact k3⟩⟩
def dV (q:List (Int×Int)):List Int:=q.flatMap fun p=> [p.1,p.2]
theorem qJ:∀q:List (Int×Int),(dV q).length=2 * q.length
 | []=>rfl
 | p :: r=>by have:=qJ r;simp [dV] at this ⊢;omega
theorem vZ {zs:List Int} {j:Nat} {z:Int} (h:zs[j]? =some z):(aJ zs)[j]? =some (I6 z):=by simp [aJ,h]
theorem jK {T:TypeId} {x0 x1:Operand} {z0 z1:Int} (ht:Nat.blt t nt=true) (hx0:S.op x0=some (vv (I6 z0))) (hx1:S.op x1=some (vv (I6 z1))) (hb:P.built T [(0,I6 z0),(1,I6 z1)]=some #[I6 z0,I6 z1]):
  bQ P nt ⟨some t, .build T #[(0,x0),(1,x1)],ty,ps,af,gd⟩ S (S.put t (.s (.agg [.val (I6 z0), .val (I6 z1)]))):=
 bQ.of _ fun w0 ω0 η ω a w hs=>by
  refine ⟨.agg #[I6 z0,I6 z1],w, ?_,η,ω,hs.eY (by simpa using ht) (⟨_,rfl,rfl,fun j b hb=> ?_⟩:fi η (.agg [.val (I6 z0), .val (I6 z1)]) _)⟩
  ·simp only [execOp]
   simp [hs.fL hx0,hs.fL hx1,run_build w T #[(0,I6 z0),(1,I6 z1)] _ hb]
  ·match j,hb with
   | 0,hb=>simp at hb;subst hb;exact ⟨_,by simp,rfl⟩
   | 1,hb=>simp at hb;subst hb;exact ⟨_,by simp,rfl⟩
theorem j7 {T:TypeId} {x0 x1:Operand} {b0 b1:A1} {vs:List Value} {n0 n1:Nat} (ht:Nat.blt t nt=true) (hx0:S.op x0=some (o1 b0)) (hx1:S.op x1=some (o1 b1)) (hl0:b0.len=some n0) (hl1:b1.len=some n1)
  (hb:∀ao n c ao' n' c',P.built T [(0, .slice ao n c),(1, .slice ao' n' c')]=some (#[.slice ao n c, .slice ao' n' c'] ++ vs.toArray)):
  bQ P nt ⟨some t, .build T #[(0,x0),(1,x1)],ty,ps,af,gd⟩ S (S.put t (.s (.agg (b0 :: b1 :: vs.map .val)))):=
 bQ.of _ fun w0 ω0 η ω a w hs=>by
  have d0:cq η b0 (a.eval x0):=hs.gk hx0
  have d1:cq η b1 (a.eval x1):=hs.gk hx1
  obtain ⟨ao,c,e0⟩:=d0.len_ hl0
  obtain ⟨ao',c',e1⟩:=d1.len_ hl1
  refine ⟨.agg (#[a.eval x0,a.eval x1] ++ vs.toArray),w, ?_,η,ω,hs.eY (by simpa using ht) (⟨_,rfl,by simp,fun j b hb=> ?_⟩:fi η (.agg (b0 :: b1 :: vs.map .val)) _)⟩
  ·simp only [execOp]
   have:=run_build w T #[(0, .slice ao n0 c),(1, .slice ao' n1 c')] _ (hb ao n0 c ao' n1 c')
   simp [e0,e1,this]
  ·match j,hb with
   | 0,hb=>simp at hb;subst hb;exact ⟨_,by simp,d0⟩
   | 1,hb=>simp at hb;subst hb;exact ⟨_,by simp,d1⟩
   | j + 2,hb=>
    simp only [List.getElem?_cons_succ,List.getElem?_map,Option.map_eq_some_iff] at hb
    obtain ⟨v,hv,rfl⟩:=hb
    exact ⟨v,by simpa [Array.getElem?_append] using hv,rfl⟩
theorem lQ {T E:Nat} {x0:Operand} {z0 z1:Int} (ht:Nat.blt t nt=true) (hT:mY P T E 2=true) (hx:S.op x0=some (.s (.agg [.val (I6 z0), .val (I6 z1)]))):
  bQ P nt ⟨some t, .buildSlice T 1 #[(0,x0)],ty,ps,af,gd⟩ S ((S.new t ⟨true,E,2, .bG (aJ [z0,z1])⟩).put t (o1 (.sl t 0 1))):=
 bQ.of _ fun w0 ω0 η ω a w hs=>by
  obtain ⟨i,z,k1,k2,k3,k4,k5,k6⟩:=dA hT
  obtain ⟨us,hu,hul,hua⟩:fi η (.agg [.val (I6 z0), .val (I6 z1)]) (a.eval x0):=hs.gk hx
  obtain ⟨u0,g0,rfl⟩:=hua 0 _ rfl
  obtain ⟨u1,g1,rfl⟩:=hua 1 _ rfl
  obtain rfl:us= #[I6 z0,I6 z1]:=by
   have:us.size=2:=hul
   match us with
   | ⟨[p,q]⟩=>simp at g0 g1;rw [g0,g1]
  refine ⟨.slice (some ⟨w.heap.size,0,none⟩) 1 1,w.alloc (.cells #[I6 z0,I6 z1] E), ?_, ?_⟩
  ·have hc:(Value.agg #[I6 z0,I6 z1]).cells= #[I6 z0,I6 z1]:=rfl
   simp [execOp,Instr.buildSlice,run_underlying k1,sizeOf,typeInfo,k2,k3,zeroValue,k5,Instr.fill,newRow,hu,hc,vb]
  ·have hal:=hs.alloc (x:=t) (c:=⟨true,E,2, .bG (aJ [z0,z1])⟩) (cs:= #[I6 z0,I6 z1]) (r:=fun _=>⟨none,0,1⟩) (n:=1) rfl (by simp) (by simp [dQ.len,aJ]) (by simp [maxLen]) fun j hj=>by
    have hj:j < 2:=hj
    match j,hj with
    | 0,_=>exact ⟨_,by simp,rfl⟩
    | 1,_=>exact ⟨_,by simp,rfl⟩
   exact ⟨_,_,hal.eY (by simpa using ht) dE⟩
end
end Go.Proofs.Ytekbhbcgoadciaa
namespace Go.Proofs.Ytekbhbcgoadciaa
open Go.RowKit
abbrev yf (l:List Int):Ch:=⟨true,108,2, .bG (aJ l)⟩
theorem yA {pre:List Int} {o:Nat} (h:pre.length=2 * o) (q:List (Int×Int)):(o + q.length) * 2=(aJ (pre ++ dV q)).length:=by
 rw [an,List.length_append,h,qJ];omega
theorem Cw {pre:List Int} {o:Nat} (h:pre.length=2 * o) (p:Int×Int) (q:List (Int×Int)):(aJ (pre ++ dV (p :: q)))[(o + 0) * 2 + 0 * 1]? =some (I6 p.1):=by
 apply vZ
 rw [List.getElem?_append_right (by omega),show (o + 0) * 2 + 0 * 1 - pre.length=0 by omega];rfl
theorem BZ {pre:List Int} {o:Nat} (h:pre.length=2 * o) (p:Int×Int) (q:List (Int×Int)):(aJ (pre ++ dV (p :: q)))[(o + 0) * 2 + 1 * 1]? =some (I6 p.2):=by
 apply vZ
 rw [List.getElem?_append_right (by omega),show (o + 0) * 2 + 1 * 1 - pre.length=1 by omega];rfl
theorem tz {ng:Nat} {less:List Int} {p:Int×Int} (hn:less.length≤2000) (hng:ng≤1000):fuel ng less [p]≤2100000:=by
 unfold fuel
 have h1:alive less≤less.length:=by unfold alive;exact Nat.le_trans (List.length_filter_le _ _) (by simp)
 have h2:alive less * (ng + 1)≤2000 * 1001:=Nat.mul_le_mul (by omega) (by omega)
 simp;omega
theorem Br (pre:List Int) (q r:List (Int×Int)) (x y:Int):aJ (pre ++ dV (q ++ r)) ++ ((aJ [x,y]).drop (0 * 2)).take (1 * 2)=aJ (pre ++ dV (q ++ (r ++ [(x,y)]))):=by
 simp [aJ,dV]
theorem BL {pre:List Int} {o:Nat} (h:pre.length=2 * o) (q r:List (Int×Int)) (x y:Int):(aJ (pre ++ dV (q ++ r))).drop (o * 2) ++ ((aJ [x,y]).drop (0 * 2)).take (1 * 2)=aJ ([] ++ dV (q ++ (r ++ [(x,y)]))):=by
 have h1:(aJ (pre ++ dV (q ++ r))).drop (o * 2)=aJ (dV (q ++ r)):=by
  rw [show aJ (pre ++ dV (q ++ r))=aJ pre ++ aJ (dV (q ++ r)) by simp [aJ],List.drop_append_of_le_length (by rw [an];omega),List.drop_of_length_le (by rw [an];omega),List.nil_append]
 rw [h1]
 simp [aJ,dV]
set_option maxRecDepth 100000 in
set_option maxHeartbeats 2000000 in
theorem lC (ng n:Nat) (im:List (List Int)) (less:List Int) (c d:Nat) (b:Bool) (hnn:less.length=n) (hw:WF ng im less) (hc:c < less.length) (hd:d < less.length) (hn:less.length≤2000) (hng:ng≤1000):
  FC Try.prog 65 [(1010,l9 n n b),(1000,cz im),(1001,bw less)] [o1 (.ptr 1010 0),vv (I6 c),vv (I6 d)] [(1010,l9 n n b),(1000,cz (ident ng im less [((c:Int),(d:Int))]).1),(1001,bw (ident ng im less [((c:Int),(d:Int))]).2)] (.tup []) [(0,o1 (.ptr 1010 0))]:=by
 refine bc (nt:=93) Try.func65 rfl rfl (by simp) fun w0 ω0=> ?_
 generalize hR:ident ng im less [((c:Int),(d:Int))]=R
 (refine ah ?_;refine ab ?_;apply aa rfl;(exact ae rfl rfl);apply aa rfl;(exact ae rfl rfl);apply aa rfl;(first | exact jK rfl rfl rfl (by as_aux_lemma=>kernel_rfl) | exact lQ (E:=108) rfl (by as_aux_lemma=>kernel_rfl) rfl);apply aa rfl;(first | exact jK rfl rfl rfl (by as_aux_lemma=>kernel_rfl) | exact lQ (E:=108) rfl (by as_aux_lemma=>kernel_rfl) rfl);apply aa rfl;(exact ag rfl rfl);refine aj ?_;refine ai ?_;refine aB ?_)
 have hB:=tz (p:=((c:Int),(d:Int))) hn hng
 have hq0:kT less.length [((c:Int),(d:Int))]:=fun p hp=>by simp at hp;subst hp;exact ⟨by omega,by omega⟩
 have hnm:im.length=n:=hw.len.trans hnn
 refine bl (fun j:List (List Int)×List Int×List (Int×Int)×List Int×Nat=>St.of [(0,o1 (.ptr 1010 0)),(6,o1 (.sl 15 j.2.2.2.2 j.2.2.1.length))]
   [(1010,l9 n n b),(1000,cz j.1),(1001,bw j.2.1),(15,yf (j.2.2.2.1 ++ dV j.2.2.1))] [(0,o1 (.ptr 1010 0))])
  (fun j=>WF ng j.1 j.2.1∧j.2.1.length=n∧kT n j.2.2.1∧fuel ng j.2.1 j.2.2.1≤2100000∧ident ng j.1 j.2.1 j.2.2.1=R∧j.2.2.2.1.length=2 * j.2.2.2.2)
  (fun j=>fuel ng j.2.1 j.2.2.1) (im,less, [((c:Int),(d:Int))], [],0) ⟨hw,hnn,hnn ▸ hq0,hB,hR,rfl⟩ (Wk.of ⟨rfl,rfl,trivial⟩ ⟨rfl,rfl,rfl,rfl,trivial⟩ ⟨rfl,trivial⟩) ?_
 rintro ⟨im1,less1,qq,pre,o⟩ ⟨hw1,hn1,hq,hb,hr,hpre⟩
 dsimp only at hw1 hn1 hq hb hr hpre ⊢
 have hm1:=hw1.len
 (refine ah ?_;refine ah ?_;refine ab ?_;apply aa rfl;(exact ae rfl rfl);apply aa rfl;(exact a8 rfl rfl rfl (by as_aux_lemma=>kernel_rfl));apply aa rfl;(exact aD rfl rfl rfl rfl);refine aj ?_;refine ai ?_)
 refine au rfl (fun hlt=> ?_) (fun hlt=> ?_)
 ·obtain ⟨p,q,rfl⟩:∃p q,qq=p :: q:=by
   cases qq with
   | nil=>simp at hlt
   | cons p q=>exact ⟨p,q,rfl⟩
  have hpp:=hq p (by simp)
  have hqn:kT n q:=fun x hx=>hq x (by simp [hx])
  have g1:=Cw hpre p q
  have g2:=BZ hpre p q
  have gl:(o + (p :: q).length) * 2≤(aJ (pre ++ dV (p :: q))).length:=Nat.le_of_eq (yA hpre (p :: q))
  have hF1:FC Try.prog 67 [(1010,yK n n b),(1000,xY im1),(1001,pG less1)] [o1 (.ptr 1010 0),vv (I6 p.1)] [] (vv (I6 (root less1 p.1.toNat))) []:=by
   have:=oO im1 less1 n n p.1.toNat b hn1 hw1.down (by omega)
   rwa [Int.toNat_of_nonneg hpp.1.1] at this
  have hF2:FC Try.prog 67 [(1010,yK n n b),(1000,xY im1),(1001,pG less1)] [o1 (.ptr 1010 0),vv (I6 p.2)] [] (vv (I6 (root less1 p.2.toNat))) []:=by
   have:=oO im1 less1 n n p.2.toNat b hn1 hw1.down (by omega)
   rwa [Int.toNat_of_nonneg hpp.2.1] at this
  (refine aI ?_;refine ai ?_;refine ah ?_;refine aB ?_;refine ah ?_)
  apply dG 12 [] [[], [], [1], [1,2], [1,2,3], [0,1,2,3,4], [], [], [7], [7,8], [7,8,9], [0,1,2,3,4,5,6,7,8,9,10], [0,1,2,3,4,5,6,7,8,9,10,11], [0,1,2,3,4,5,6,7,8,9,10,11,12]] [21,22,23,24,25,26,27,28,29,30,31,32] [] (by kernel_rfl) (by kernel_rfl)
  ·(apply aF rfl;(intro S1 hS;exact ae rfl (hS.op rfl));apply aF rfl;(intro S1 hS;exact ae rfl (hS.op rfl));(apply aF rfl;(focus (intro S1 hS;first | exact dt (k:=2) (j:=0) rfl (hS.op rfl) (hS.op rfl) (hS.ch _ _ rfl) rfl (by as_aux_lemma=>kernel_rfl) rfl (by simp) gl (by omega) | exact cT (k:=1) (len:=2) (j:=0) rfl (hS.op rfl) (hS.op rfl) (hS.ch _ _ rfl) (by as_aux_lemma=>kernel_rfl) rfl (by omega) | exact cT (k:=1) (len:=2) (j:=1) rfl (hS.op rfl) (hS.op rfl) (hS.ch _ _ rfl) (by as_aux_lemma=>kernel_rfl) rfl (by omega) | (apply ak 67;first | exact aq hF1 (by as_aux_lemma=>kernel_rfl) rfl (dx hS rfl) ⟨rfl,rfl,trivial⟩ (cJ hS ⟨⟨_,rfl, .inr rfl⟩,⟨_,rfl, .inr rfl⟩,⟨_,rfl, .inr rfl⟩,trivial⟩) rfl rfl | exact aq hF2 (by as_aux_lemma=>kernel_rfl) rfl (dx hS rfl) ⟨rfl,rfl,trivial⟩ (cJ hS ⟨⟨_,rfl, .inr rfl⟩,⟨_,rfl, .inr rfl⟩,⟨_,rfl, .inr rfl⟩,trivial⟩) rfl rfl))));(apply aF rfl;(focus (intro S1 hS;first | exact dt (k:=2) (j:=0) rfl (hS.op rfl) (hS.op rfl) (hS.ch _ _ rfl) rfl (by as_aux_lemma=>kernel_rfl) rfl (by simp) gl (by omega) | exact cT (k:=1) (len:=2) (j:=0) rfl (hS.op rfl) (hS.op rfl) (hS.ch _ _ rfl) (by as_aux_lemma=>kernel_rfl) rfl (by omega) | exact cT (k:=1) (len:=2) (j:=1) rfl (hS.op rfl) (hS.op rfl) (hS.ch _ _ rfl) (by as_aux_lemma=>kernel_rfl) rfl (by omega) | (apply ak 67;first | exact aq hF1 (by as_aux_lemma=>kernel_rfl) rfl (dx hS rfl) ⟨rfl,rfl,trivial⟩ (cJ hS ⟨⟨_,rfl, .inr rfl⟩,⟨_,rfl, .inr rfl⟩,⟨_,rfl, .inr rfl⟩,trivial⟩) rfl rfl | exact aq hF2 (by as_aux_lemma=>kernel_rfl) rfl (dx hS rfl) ⟨rfl,rfl,trivial⟩ (cJ hS ⟨⟨_,rfl, .inr rfl⟩,⟨_,rfl, .inr rfl⟩,⟨_,rfl, .inr rfl⟩,trivial⟩) rfl rfl))));apply aF rfl;(intro S1 hS;exact a7 rfl (by as_aux_lemma=>kernel_rfl) (hS.op rfl) (hS.ch _ _ rfl) rfl (by first | assumption | exact al (by assumption) | exact ar (by assumption) | exact al (by omega) | exact ar (by omega) | rfl));(apply aF rfl;(focus (intro S1 hS;first | exact dt (k:=2) (j:=0) rfl (hS.op rfl) (hS.op rfl) (hS.ch _ _ rfl) rfl (by as_aux_lemma=>kernel_rfl) rfl (by simp) gl (by omega) | exact cT (k:=1) (len:=2) (j:=0) rfl (hS.op rfl) (hS.op rfl) (hS.ch _ _ rfl) (by as_aux_lemma=>kernel_rfl) rfl (by omega) | exact cT (k:=1) (len:=2) (j:=1) rfl (hS.op rfl) (hS.op rfl) (hS.ch _ _ rfl) (by as_aux_lemma=>kernel_rfl) rfl (by omega) | (apply ak 67;first | exact aq hF1 (by as_aux_lemma=>kernel_rfl) rfl (dx hS rfl) ⟨rfl,rfl,trivial⟩ (cJ hS ⟨⟨_,rfl, .inr rfl⟩,⟨_,rfl, .inr rfl⟩,⟨_,rfl, .inr rfl⟩,trivial⟩) rfl rfl | exact aq hF2 (by as_aux_lemma=>kernel_rfl) rfl (dx hS rfl) ⟨rfl,rfl,trivial⟩ (cJ hS ⟨⟨_,rfl, .inr rfl⟩,⟨_,rfl, .inr rfl⟩,⟨_,rfl, .inr rfl⟩,trivial⟩) rfl rfl))));apply aF rfl;(intro S1 hS;exact ae rfl (hS.op rfl));apply aF rfl;(intro S1 hS;exact ae rfl (hS.op rfl));(apply aF rfl;(focus (intro S1 hS;first | exact dt (k:=2) (j:=0) rfl (hS.op rfl) (hS.op rfl) (hS.ch _ _ rfl) rfl (by as_aux_lemma=>kernel_rfl) rfl (by simp) gl (by omega) | exact cT (k:=1) (len:=2) (j:=0) rfl (hS.op rfl) (hS.op rfl) (hS.ch _ _ rfl) (by as_aux_lemma=>kernel_rfl) rfl (by omega) | exact cT (k:=1) (len:=2) (j:=1) rfl (hS.op rfl) (hS.op rfl) (hS.ch _ _ rfl) (by as_aux_lemma=>kernel_rfl) rfl (by omega) | (apply ak 67;first | exact aq hF1 (by as_aux_lemma=>kernel_rfl) rfl (dx hS rfl) ⟨rfl,rfl,trivial⟩ (cJ hS ⟨⟨_,rfl, .inr rfl⟩,⟨_,rfl, .inr rfl⟩,⟨_,rfl, .inr rfl⟩,trivial⟩) rfl rfl | exact aq hF2 (by as_aux_lemma=>kernel_rfl) rfl (dx hS rfl) ⟨rfl,rfl,trivial⟩ (cJ hS ⟨⟨_,rfl, .inr rfl⟩,⟨_,rfl, .inr rfl⟩,⟨_,rfl, .inr rfl⟩,trivial⟩) rfl rfl))));(apply aF rfl;(focus (intro S1 hS;first | exact dt (k:=2) (j:=0) rfl (hS.op rfl) (hS.op rfl) (hS.ch _ _ rfl) rfl (by as_aux_lemma=>kernel_rfl) rfl (by simp) gl (by omega) | exact cT (k:=1) (len:=2) (j:=0) rfl (hS.op rfl) (hS.op rfl) (hS.ch _ _ rfl) (by as_aux_lemma=>kernel_rfl) rfl (by omega) | exact cT (k:=1) (len:=2) (j:=1) rfl (hS.op rfl) (hS.op rfl) (hS.ch _ _ rfl) (by as_aux_lemma=>kernel_rfl) rfl (by omega) | (apply ak 67;first | exact aq hF1 (by as_aux_lemma=>kernel_rfl) rfl (dx hS rfl) ⟨rfl,rfl,trivial⟩ (cJ hS ⟨⟨_,rfl, .inr rfl⟩,⟨_,rfl, .inr rfl⟩,⟨_,rfl, .inr rfl⟩,trivial⟩) rfl rfl | exact aq hF2 (by as_aux_lemma=>kernel_rfl) rfl (dx hS rfl) ⟨rfl,rfl,trivial⟩ (cJ hS ⟨⟨_,rfl, .inr rfl⟩,⟨_,rfl, .inr rfl⟩,⟨_,rfl, .inr rfl⟩,trivial⟩) rfl rfl))));apply aF rfl;(intro S1 hS;exact a7 rfl (by as_aux_lemma=>kernel_rfl) (hS.op rfl) (hS.ch _ _ rfl) rfl (by first | assumption | exact al (by assumption) | exact ar (by assumption) | exact al (by omega) | exact ar (by omega) | rfl));(apply aF rfl;(focus (intro S1 hS;first | exact dt (k:=2) (j:=0) rfl (hS.op rfl) (hS.op rfl) (hS.ch _ _ rfl) rfl (by as_aux_lemma=>kernel_rfl) rfl (by simp) gl (by omega) | exact cT (k:=1) (len:=2) (j:=0) rfl (hS.op rfl) (hS.op rfl) (hS.ch _ _ rfl) (by as_aux_lemma=>kernel_rfl) rfl (by omega) | exact cT (k:=1) (len:=2) (j:=1) rfl (hS.op rfl) (hS.op rfl) (hS.ch _ _ rfl) (by as_aux_lemma=>kernel_rfl) rfl (by omega) | (apply ak 67;first | exact aq hF1 (by as_aux_lemma=>kernel_rfl) rfl (dx hS rfl) ⟨rfl,rfl,trivial⟩ (cJ hS ⟨⟨_,rfl, .inr rfl⟩,⟨_,rfl, .inr rfl⟩,⟨_,rfl, .inr rfl⟩,trivial⟩) rfl rfl | exact aq hF2 (by as_aux_lemma=>kernel_rfl) rfl (dx hS rfl) ⟨rfl,rfl,trivial⟩ (cJ hS ⟨⟨_,rfl, .inr rfl⟩,⟨_,rfl, .inr rfl⟩,⟨_,rfl, .inr rfl⟩,trivial⟩) rfl rfl))));exact ey.nil)
  ·rfl
  ((apply aA 12 rfl (by as_aux_lemma=>kernel_rfl) rfl rfl;(exact ag rfl rfl));(apply aA 13 rfl (by as_aux_lemma=>kernel_rfl) rfl rfl;(exact ag rfl rfl));(refine aY (by as_aux_lemma=>kernel_rfl) ?_;skip))
  have hr1:=cw hw1.down (c:=p.1.toNat) (by omega)
  have hr2:=cw hw1.down (c:=p.2.toNat) (by omega)
  (refine ai ?_;refine ah ?_;refine ah ?_;refine ab ?_;apply aa rfl;(exact ae rfl rfl);apply aa rfl;(exact ae rfl rfl);apply aa rfl;(exact aD rfl rfl rfl rfl);refine aj ?_;refine ai ?_)
  refine au rfl (fun he=> ?_) (fun he=> ?_)
  ·have he':root less1 p.1.toNat=root less1 p.2.toNat:=by have:=he;simp at this;omega
   have hfu:fuel ng less1 (p :: q)=fuel ng less1 q + 1:=by unfold fuel;simp;omega
   (refine a5 ?_;refine ax ?_;refine aM ?_;refine ai ?_;refine ab ?_;apply aa rfl;(exact ae rfl rfl);apply aa rfl;(exact mM (k:=2) (l:=1) rfl rfl rfl rfl (by as_aux_lemma=>kernel_rfl) (by omega) (eu rfl rfl) dk (by simp) (Nat.le_refl _) gl);apply aa rfl;(exact ag rfl rfl);refine aj ?_)
   exact aX (im1,less1,q,pre ++ [p.1,p.2],o + 1) ⟨hw1,hn1,hqn,by show fuel ng less1 q≤_;omega,by rw [←oX hw1 (hn1 ▸ hq) he'];exact hr,by simp;omega⟩ (by show fuel ng less1 q < fuel ng less1 (p :: q);omega) (Wk.of ⟨rfl,rfl,trivial⟩ ⟨rfl,rfl,rfl,congrArg (fun l=>some (yf l)) (show pre ++ dV (p :: q)=(pre ++ [p.1,p.2]) ++ dV q by simp [dV]),trivial⟩ ⟨rfl,trivial⟩)
  ·have he':root less1 p.1.toNat≠root less1 p.2.toNat:=by have:=he;simp at this;omega
   obtain ⟨hm1,hm2,hm3,hm4⟩:=iO hw1 (hn1 ▸ hq) he'
   generalize hcc:root less1 p.1.toNat=cc at *
   generalize hdd:root less1 p.2.toNat=dd at *
   unfold fh at hm1 hm2 hm3 hm4
   have hhl:max cc dd < less1.length:=by omega
   have him:max cc dd < im1.length:=by omega
   have hrw:(bu im1 (max cc dd)).length=ng:=hw1.row _ him
   (refine aI ?_;refine ai ?_;refine ah ?_;refine ab ?_;apply aa rfl;(exact ae rfl rfl);apply aa rfl;(exact ae rfl rfl);apply aa rfl;(first | exact sz rfl rfl rfl | exact tx rfl rfl rfl);apply aa rfl;(exact ae rfl rfl);apply aa rfl;(exact ae rfl rfl);apply aa rfl;(first | exact sz rfl rfl rfl | exact tx rfl rfl rfl);apply aa rfl;(exact ag rfl rfl);apply aa rfl;(exact ag rfl rfl);refine aj ?_;refine ai ?_;refine ah ?_;refine ab ?_;apply aa rfl;(exact ae rfl rfl);apply aa rfl;(exact bh rfl rfl rfl);apply aa rfl;(exact aE (d:=1) rfl rfl rfl (by as_aux_lemma=>kernel_rfl));apply aa rfl;(exact aQ rfl (by as_aux_lemma=>kernel_rfl) rfl rfl rfl rfl);apply aa rfl;(exact ae rfl rfl);apply aa rfl;(exact ae rfl rfl);apply aa rfl;(exact aU rfl rfl rfl rfl rfl (by as_aux_lemma=>kernel_rfl) (by first | rfl | exact (Int.toNat_of_nonneg (by omega)).symm) (by first | assumption | omega | (simp;omega)) (by first | exact Nat.le_refl _ | exact Nat.le_of_eq (an _).symm | exact Nat.le_of_eq (aw _).symm | (refine Nat.le_trans ?_ (Nat.le_of_eq (an _).symm);(first | omega | (simp;done) | (simp;omega))) | (refine Nat.le_trans ?_ (Nat.le_of_eq (aw _).symm);(first | omega | (simp;done) | (simp;omega)))));apply aa rfl;(exact iM rfl rfl rfl rfl rfl (by first | assumption | omega | (simp;omega)) (by as_aux_lemma=>kernel_rfl));refine aj ?_;refine ai ?_;refine ah ?_;refine ab ?_;apply aa rfl;(exact ae rfl rfl);apply aa rfl;(exact bh rfl rfl rfl);apply aa rfl;(exact aE (d:=0) rfl rfl rfl (by as_aux_lemma=>kernel_rfl));apply aa rfl;(exact aQ rfl (by as_aux_lemma=>kernel_rfl) rfl rfl rfl rfl);apply aa rfl;(exact ae rfl rfl);apply aa rfl;(exact aU rfl rfl rfl rfl rfl (by as_aux_lemma=>kernel_rfl) (by first | rfl | exact (Int.toNat_of_nonneg (by omega)).symm) (by first | assumption | omega | (simp;omega)) (by first | exact Nat.le_refl _ | exact Nat.le_of_eq (an _).symm | exact Nat.le_of_eq (aw _).symm | (refine Nat.le_trans ?_ (Nat.le_of_eq (an _).symm);(first | omega | (simp;done) | (simp;omega))) | (refine Nat.le_trans ?_ (Nat.le_of_eq (aw _).symm);(first | omega | (simp;done) | (simp;omega)))));apply aa rfl;(exact bo rfl (by as_aux_lemma=>kernel_rfl) rfl rfl rfl (by first | assumption | exact al (by assumption) | exact ar (by assumption) | exact al (by omega) | exact ar (by omega) | rfl) (by first | exact an _ | assumption | rfl));apply aa rfl;(exact a8 rfl rfl rfl (by as_aux_lemma=>kernel_rfl));apply aa rfl;(exact ae rfl rfl);refine aj ?_;refine ai ?_;refine aB ?_)
   have hll:min cc dd < max cc dd∧max cc dd < n:=by omega
   generalize min cc dd=lo at *
   generalize max cc dd=hi at *
   have hfb:(p :: q).length≤2100000:=by unfold fuel at hb;omega
   clear g1 g2 gl hF1 hF2
   refine bl (fun j:Nat×List Int×Nat=>St.of [(0,o1 (.ptr 1010 0)),(6,o1 (.sl 15 j.2.2 ((p :: q) ++ (bm lo hi (im1, []) j.1).2).length)),(7,vv (I6 lo)),(8,vv (I6 hi)),(55,o1 (.esl 1000 hi 0 ng)),(56,vv (I6 ng)),(57,vv (I6 j.1))] [(1010,l9 n n b),(1000,cz (bm lo hi (im1, []) j.1).1),(1001,bw (less1.set hi (lo:Int))),(15,yf (j.2.1 ++ dV ((p :: q) ++ (bm lo hi (im1, []) j.1).2)))] [(0,o1 (.ptr 1010 0))]) (fun j=>j.1≤ng∧j.2.1.length=2 * j.2.2) (fun j=>ng - j.1) (0,pre,o) ⟨Nat.zero_le _,hpre⟩ (Wk.of ⟨rfl,congrArg (fun l:List (Int×Int)=>some (o1 (.sl 15 o l.length))) (List.append_nil (p :: q)).symm,rfl,rfl,by rw [←hrw];rfl,by rw [←hrw];rfl,rfl,trivial⟩ ⟨rfl,rfl,rfl,congrArg (fun l:List (Int×Int)=>some (yf (pre ++ dV l))) (List.append_nil (p :: q)).symm,trivial⟩ ⟨rfl,trivial⟩) ?_
   clear hpre
   rintro ⟨g,pre2,o2⟩ ⟨hg,hpre⟩
   dsimp only at hg hpre ⊢
   obtain ⟨M,N,hMN⟩:∃M N,bm lo hi (im1, []) g=(M,N):=⟨_,_,rfl⟩
   have hAq:=iF lo hi im1 q g
   obtain ⟨k1,k2,k3,k4⟩:=dO hw1 (lo:=lo) (hi:=hi) (q:= []) (by omega) (by omega) (fun x hx=>by simp at hx) g hg
   rw [hMN] at hAq k1 k2 k3 k4
   dsimp only at hAq k1 k2 k3 k4
   rw [hMN]
   dsimp only
   have hMl:M.length=n:=k1.len.trans hn1
   have hrow:=k1.row hi (by omega)
   have hrowl:=k1.row lo (by omega)
   have hNl:((p :: q) ++ N).length≤2200000:=by rw [List.length_append];simp at k3 hfb ⊢;omega
   (refine ah ?_;refine ab ?_;apply aa rfl;(exact aD rfl rfl rfl rfl);refine aj ?_;refine ai ?_;refine ah ?_)
   refine bF rfl (fun hgl=> ?_) (fun hgl=> ?_)
   ·have hg':g < ng:=by omega
    have e1:=k1.bD hi g (by omega) hg'
    have e2:=k1.bD lo g (by omega) hg'
    (refine aI ?_;refine ai ?_;refine ah ?_;refine aB ?_;refine ah ?_;refine ab ?_;apply aa rfl;(exact ae rfl rfl);apply aa rfl;(exact aS rfl rfl rfl rfl rfl (by as_aux_lemma=>kernel_rfl) (by first | assumption | exact al (by assumption) | exact ar (by assumption) | exact al (by omega) | exact ar (by omega) | rfl) (by first | rfl | exact (Int.toNat_of_nonneg (by omega)).symm) (by first | assumption | omega | (simp;omega)) (by first | exact Nat.le_refl _ | exact Nat.le_of_eq (an _).symm | exact Nat.le_of_eq (aw _).symm | (refine Nat.le_trans ?_ (Nat.le_of_eq (an _).symm);(first | omega | (simp;done) | (simp;omega))) | (refine Nat.le_trans ?_ (Nat.le_of_eq (aw _).symm);(first | omega | (simp;done) | (simp;omega)))));apply aa rfl;(exact aN rfl (by as_aux_lemma=>kernel_rfl) rfl rfl rfl (by first | assumption | exact al (by assumption) | exact ar (by assumption) | exact al (by omega) | exact ar (by omega) | rfl) (by first | assumption | exact al (by assumption) | exact ar (by assumption) | exact al (by omega) | exact ar (by omega) | rfl));apply aa rfl;(exact ag rfl rfl);apply aa rfl;(exact ag rfl rfl);refine aj ?_;refine ai ?_;refine ah ?_;refine ah ?_;refine ab ?_;apply aa rfl;(exact ae rfl rfl);apply aa rfl;(exact aD rfl rfl rfl rfl);refine aj ?_;refine ai ?_)
    refine bF rfl (fun he=> ?_) (fun he=> ?_)
    ·have he:bD M hi g < 0:=he
     have hstep:bm lo hi (im1, []) (g + 1)=(M,N):=by rw [bm,hMN];exact if_pos he
     (refine a5 ?_;refine ax ?_;refine aM ?_;refine ai ?_;refine ab ?_;apply aa rfl;(exact aR rfl rfl rfl (by first | exact IntWalk.i64_in _ (by omega) | rfl));apply aa rfl;(exact ae rfl rfl);refine aj ?_)
     exact aX (g + 1,pre2,o2) ⟨hg',hpre⟩ (by show ng - (g + 1) < ng - g;omega) (Wk.of (by rw [hstep];exact ⟨rfl,rfl,rfl,rfl,rfl,rfl,rfl,trivial⟩) (by rw [hstep];exact ⟨rfl,rfl,rfl,rfl,trivial⟩) ⟨rfl,trivial⟩)
    ·have he:¬bD M hi g < 0:=he
     (refine aI ?_;refine ai ?_;refine ah ?_;refine ab ?_;apply aa rfl;(exact ae rfl rfl);apply aa rfl;(exact bh rfl rfl rfl);apply aa rfl;(exact aE (d:=0) rfl rfl rfl (by as_aux_lemma=>kernel_rfl));apply aa rfl;(exact aQ rfl (by as_aux_lemma=>kernel_rfl) rfl rfl rfl rfl);apply aa rfl;(exact ae rfl rfl);apply aa rfl;(exact aU rfl rfl rfl rfl rfl (by as_aux_lemma=>kernel_rfl) (by first | rfl | exact (Int.toNat_of_nonneg (by omega)).symm) (by first | assumption | omega | (simp;omega)) (by first | exact Nat.le_refl _ | exact Nat.le_of_eq (an _).symm | exact Nat.le_of_eq (aw _).symm | (refine Nat.le_trans ?_ (Nat.le_of_eq (an _).symm);(first | omega | (simp;done) | (simp;omega))) | (refine Nat.le_trans ?_ (Nat.le_of_eq (aw _).symm);(first | omega | (simp;done) | (simp;omega)))));apply aa rfl;(exact bo rfl (by as_aux_lemma=>kernel_rfl) rfl rfl rfl (by first | assumption | exact al (by assumption) | exact ar (by assumption) | exact al (by omega) | exact ar (by omega) | rfl) (by first | exact an _ | assumption | rfl));apply aa rfl;(exact ae rfl rfl);apply aa rfl;(exact aS rfl rfl rfl rfl rfl (by as_aux_lemma=>kernel_rfl) (by first | assumption | exact al (by assumption) | exact ar (by assumption) | exact al (by omega) | exact ar (by omega) | rfl) (by first | rfl | exact (Int.toNat_of_nonneg (by omega)).symm) (by first | assumption | omega | (simp;omega)) (by first | exact Nat.le_refl _ | exact Nat.le_of_eq (an _).symm | exact Nat.le_of_eq (aw _).symm | (refine Nat.le_trans ?_ (Nat.le_of_eq (an _).symm);(first | omega | (simp;done) | (simp;omega))) | (refine Nat.le_trans ?_ (Nat.le_of_eq (aw _).symm);(first | omega | (simp;done) | (simp;omega)))));apply aa rfl;(exact aN rfl (by as_aux_lemma=>kernel_rfl) rfl rfl rfl (by first | assumption | exact al (by assumption) | exact ar (by assumption) | exact al (by omega) | exact ar (by omega) | rfl) (by first | assumption | exact al (by assumption) | exact ar (by assumption) | exact al (by omega) | exact ar (by omega) | rfl));apply aa rfl;(exact ag rfl rfl);refine aj ?_;refine ai ?_;refine ah ?_;refine ab ?_;apply aa rfl;(exact ae rfl rfl);apply aa rfl;(exact aD rfl rfl rfl rfl);refine aj ?_;refine ai ?_)
     refine bF rfl (fun hf=> ?_) (fun hf=> ?_)
     ·have hf:bD M lo g≥0:=hf
      have hstep:bm lo hi (im1, []) (g + 1)=(M,N ++ [(bD M hi g,bD M lo g)]):=by rw [bm,hMN];exact (if_neg he).trans (if_pos hf)
      have hln:(o2 + ((p :: q) ++ N).length) * 2=(aJ (pre2 ++ dV ((p :: q) ++ N))).length:=yA hpre _
      (refine ab ?_;apply aa rfl;(exact ae rfl rfl);apply aa rfl;(exact ae rfl rfl);apply aa rfl;(exact ae rfl rfl);apply aa rfl;(first | exact jK rfl rfl rfl (by as_aux_lemma=>kernel_rfl) | exact lQ (t:=80) (E:=108) rfl (by as_aux_lemma=>kernel_rfl) rfl);apply aa rfl;(first | exact jK rfl rfl rfl (by as_aux_lemma=>kernel_rfl) | exact lQ (t:=80) (E:=108) rfl (by as_aux_lemma=>kernel_rfl) rfl))
      refine Bn rfl (rM (k:=2) (m:=1) (E:=108) rfl (by as_aux_lemma=>kernel_rfl) rfl rfl rfl hln rfl (eB (k:=2) rfl rfl rfl rfl (Nat.le_refl _)) (by omega) (by intro v hv;simp [aJ] at hv;rcases hv with rfl | rfl<;>rfl) (by omega)) ?_ ?_
      ·(apply aa rfl;(exact ag rfl rfl);refine aj ?_;refine aK ?_;refine ai ?_;refine ab ?_;apply aa rfl;(exact aR rfl rfl rfl (by first | exact IntWalk.i64_in _ (by omega) | rfl));apply aa rfl;(exact ae rfl rfl);refine aj ?_)
       exact aX (g + 1, [],0) ⟨hg',rfl⟩ (by show ng - (g + 1) < ng - g;omega) (Wk.of (by rw [hstep];exact ⟨rfl,congrArg (fun x=>some (o1 (.sl 15 0 x))) (by simp;omega),rfl,rfl,rfl,rfl,rfl,trivial⟩) (by rw [hstep];exact ⟨rfl,rfl,rfl,congrArg (fun l=>some (⟨true,108,2, .bG l⟩:Ch)) (BL hpre (p :: q) N (bD M hi g) (bD M lo g)),trivial⟩) ⟨rfl,trivial⟩)
      ·(apply aa rfl;(exact ag rfl rfl);refine aj ?_;refine aK ?_;refine ai ?_;refine ab ?_;apply aa rfl;(exact aR rfl rfl rfl (by first | exact IntWalk.i64_in _ (by omega) | rfl));apply aa rfl;(exact ae rfl rfl);refine aj ?_)
       exact aX (g + 1,pre2,o2) ⟨hg',hpre⟩ (by show ng - (g + 1) < ng - g;omega) (Wk.of (by rw [hstep];exact ⟨rfl,congrArg (fun x=>some (o1 (.sl 15 o2 x))) (by simp;omega),rfl,rfl,rfl,rfl,rfl,trivial⟩) (by rw [hstep];exact ⟨rfl,rfl,rfl,congrArg (fun l=>some (⟨true,108,2, .bG l⟩:Ch)) (Br pre2 (p :: q) N (bD M hi g) (bD M lo g)),trivial⟩) ⟨rfl,trivial⟩)
     ·have hf:¬bD M lo g≥0:=hf
      have hstep:bm lo hi (im1, []) (g + 1)=(dq M lo g (bD M hi g),N):=by rw [bm,hMN];exact (if_neg he).trans (if_neg hf)
      (refine ab ?_;apply aa rfl;(exact ae rfl rfl);apply aa rfl;(exact bh rfl rfl rfl);apply aa rfl;(exact aE (d:=0) rfl rfl rfl (by as_aux_lemma=>kernel_rfl));apply aa rfl;(exact aQ rfl (by as_aux_lemma=>kernel_rfl) rfl rfl rfl rfl);apply aa rfl;(exact ae rfl rfl);apply aa rfl;(exact aU rfl rfl rfl rfl rfl (by as_aux_lemma=>kernel_rfl) (by first | rfl | exact (Int.toNat_of_nonneg (by omega)).symm) (by first | assumption | omega | (simp;omega)) (by first | exact Nat.le_refl _ | exact Nat.le_of_eq (an _).symm | exact Nat.le_of_eq (aw _).symm | (refine Nat.le_trans ?_ (Nat.le_of_eq (an _).symm);(first | omega | (simp;done) | (simp;omega))) | (refine Nat.le_trans ?_ (Nat.le_of_eq (aw _).symm);(first | omega | (simp;done) | (simp;omega)))));apply aa rfl;(exact bo rfl (by as_aux_lemma=>kernel_rfl) rfl rfl rfl (by first | assumption | exact al (by assumption) | exact ar (by assumption) | exact al (by omega) | exact ar (by omega) | rfl) (by first | exact an _ | assumption | rfl));apply aa rfl;(exact ae rfl rfl);apply aa rfl;(exact ae rfl rfl);apply aa rfl;(exact aS rfl rfl rfl rfl rfl (by as_aux_lemma=>kernel_rfl) (by first | assumption | exact al (by assumption) | exact ar (by assumption) | exact al (by omega) | exact ar (by omega) | rfl) (by first | rfl | exact (Int.toNat_of_nonneg (by omega)).symm) (by first | assumption | omega | (simp;omega)) (by first | exact Nat.le_refl _ | exact Nat.le_of_eq (an _).symm | exact Nat.le_of_eq (aw _).symm | (refine Nat.le_trans ?_ (Nat.le_of_eq (an _).symm);(first | omega | (simp;done) | (simp;omega))) | (refine Nat.le_trans ?_ (Nat.le_of_eq (aw _).symm);(first | omega | (simp;done) | (simp;omega)))));apply aa rfl;(exact bT rfl rfl rfl rfl rfl (by first | assumption | omega | (simp;omega)) (by first | assumption | omega | (simp;omega)) (by as_aux_lemma=>kernel_rfl));refine aj ?_;refine aK ?_;refine ai ?_;refine ab ?_;apply aa rfl;(exact aR rfl rfl rfl (by first | exact IntWalk.i64_in _ (by omega) | rfl));apply aa rfl;(exact ae rfl rfl);refine aj ?_)
      exact aX (g + 1,pre2,o2) ⟨hg',hpre⟩ (by show ng - (g + 1) < ng - g;omega) (Wk.of (by rw [hstep];exact ⟨rfl,rfl,rfl,rfl,rfl,rfl,rfl,trivial⟩) (by rw [hstep];exact ⟨rfl,rfl,rfl,rfl,trivial⟩) ⟨rfl,trivial⟩)
   ·obtain rfl:g=ng:=by omega
    rw [hAq] at hm1 hm2 hm3 hm4
    dsimp only at hm1 hm2 hm3 hm4
    have gl:(o2 + ((p :: q) ++ N).length) * 2≤(aJ (pre2 ++ dV ((p :: q) ++ N))).length:=Nat.le_of_eq (yA hpre _)
    (refine a5 ?_;refine ax ?_;refine ax ?_;refine aM ?_;refine aK ?_;refine ai ?_;refine ab ?_;apply aa rfl;(exact ae rfl rfl);apply aa rfl;(exact mM (k:=2) (l:=1) rfl rfl rfl rfl (by as_aux_lemma=>kernel_rfl) (by omega) (eu rfl rfl) dk (by simp) (Nat.le_refl _) gl);apply aa rfl;(exact ag rfl rfl);refine aj ?_)
    exact aX (M,less1.set hi (lo:Int),q ++ N,pre2 ++ [p.1,p.2],o2 + 1) ⟨hm2,by rw [List.length_set];exact hn1,by rw [←hn1];exact hm3,by show fuel _ (less1.set hi (lo:Int)) (q ++ N)≤2100000;omega,by show ident _ _ _ (q ++ N)=R;rw [←hm1];exact hr,by simp;omega⟩ (by show fuel _ _ (q ++ N) < fuel _ less1 (p :: q);exact hm4) (Wk.of ⟨rfl,rfl,trivial⟩ ⟨rfl,rfl,rfl,congrArg (fun l=>some (yf l)) (show pre2 ++ dV ((p :: q) ++ N)=(pre2 ++ [p.1,p.2]) ++ dV (q ++ N) by simp [dV]),trivial⟩ ⟨rfl,trivial⟩)
 ·obtain rfl:qq= []:=by
   cases qq with
   | nil=>rfl
   | cons p q=>simp at hlt
  rw [qi] at hr
  subst hr
  (refine a5 ?_;refine ax ?_;refine ax ?_;refine aM ?_)
  exact gu (.inr rfl) rfl ⟨rfl,rfl,rfl,trivial⟩ ⟨rfl,trivial⟩
end Go.Proofs.Ytekbhbcgoadciaa
namespace Go.Proofs.Ytekbhbcgoadciaa
open Go.RowKit
theorem x9 {im:List (List Int)} {c d g:Nat} :dq (dq im c g (d:Int)) d g (c:Int)=dq (dq im d g (c:Int)) c g (d:Int):=by
 by_cases e:c=d
 ·subst e;rfl
 ·unfold dq
  rw [mi,if_neg (fun h=>e h.1),mi,if_neg (fun h=>e h.1.symm),List.set_comm _ _ e]
def fC (ng:Nat) (im:List (List Int)) (less:List Int) (b:Bool) (c:Nat) (w:List Nat):dc:=
 if b=true then (if w.length=1 then ((cu ng im less c w).1,(cu ng im less c w).2.1,true) else (im,less,true)) else cu ng im less c w
theorem sV {ng c:Nat} {im:List (List Int)} {less:List Int} {w:List Nat} {g:Nat} {M:List (List Int)} {N:List Int} {d:Nat} (hw:w.getLast?=some g) (hg:fO ng (im,less,false,c) w.dropLast=(M,N,false,d)):
  cu ng im less c w=if 0≤image M N d g then ((ident ng M N [(image M N d g,(c:Int))]).1,(ident ng M N [(image M N d g,(c:Int))]).2,false)
   else if 0≤image M N c g then ((ident ng M N [(image M N c g,(d:Int))]).1,(ident ng M N [(image M N c g,(d:Int))]).2,false)
   else (dq (dq M d g c) c g d,N,false):=by
 unfold cu;rw [hw];dsimp only;rw [hg];rfl
theorem tC {ng c:Nat} {im:List (List Int)} {less:List Int} {w:List Nat} {g:Nat} {M:List (List Int)} {N:List Int} {d:Nat} (hw:w.getLast?=some g) (hg:fO ng (im,less,false,c) w.dropLast=(M,N,true,d)):
  cu ng im less c w=(M,N,true):=by
 unfold cu;rw [hw];dsimp only;rw [hg];rfl
theorem y4 {ng:Nat} {s s':List (List Int)×List Int×Bool×Nat} {w:List Nat} {k:Nat} (h:fO ng s (w.take k)=s') (hf:s'.2.2.1=true):fO ng s w=s':=by
 rw [←List.take_append_drop k w,kB,h,fQ hf]
set_option maxRecDepth 100000 in
set_option maxHeartbeats 2000000 in
theorem nj (ng n:Nat) (im:List (List Int)) (less:List Int) (b:Bool) (c:Nat) (words:List (List Int)) (j wl:Nat) (W:List Int) (hnn:less.length=n) (hw:WF ng im less) (hb:b=true→less.length=2000) (hc:c < less.length) (hn:less.length≤2000) (hng:ng≤1000) (hj:j < words.length) (hW:bu words j=W) (hwl:W.length=wl) (hwb:wl≤1000000000) (hlet:a9 ng W) (C:dc) (hC:fC ng im less b c (W.map Int.toNat)=C):
  FC Try.prog 42 [(1010,l9 n n b),(1000,cz im),(1001,bw less),(1002,aV words)] [o1 (.ptr 1010 0),o1 (.esl 1002 j 0 wl),vv (I6 c)] [(1010,l9 C.2.1.length C.2.1.length C.2.2),(1000,cz C.1),(1001,bw C.2.1)] (.tup []) [(0,o1 (.ptr 1010 0))]:=by
 subst hnn hwl
 have hrow:(bK words)[j]? =some (aJ W):=by rw [←hW];exact ar hj
 have hWl:(aJ W).length=W.length:=an W
 refine bc (nt:=76) Try.func42 rfl rfl (by simp) fun w0 ω0=> ?_
 (refine ah ?_;refine ah ?_;refine ab ?_;apply aa rfl;(exact ae rfl rfl);apply aa rfl;(exact a8 rfl rfl rfl (by as_aux_lemma=>kernel_rfl));apply aa rfl;(exact aD rfl rfl rfl rfl);refine aj ?_;refine ai ?_)
 refine au rfl (fun h0=> ?_) (fun h0=> ?_)
 ·obtain rfl:W= []:=by simpa using h0
  have hCe:C=(im,less,b):=by
   rw [←hC];unfold fC;cases b<;>rfl
  subst hCe
  (refine aW ?_;refine aT ?_)
  exact gu (.inl rfl) rfl ⟨rfl,rfl,rfl,trivial⟩ ⟨rfl,trivial⟩
 ·have hpos:0 < W.length:=List.length_pos_iff.2 (by simpa using h0)
  obtain ⟨L,hL⟩:∃L,W.map Int.toNat=L:=⟨_,rfl⟩
  have hLl:L.length=W.length:=by rw [←hL];simp
  have hget:∀k,k < W.length→∃g:Nat,g < ng∧L[k]? =some g∧aC W k=(g:Int):=fun k hk=>by
   have hz:=hlet (aC W k) (eF hk)
   refine ⟨(aC W k).toNat,by omega, ?_,(Int.toNat_of_nonneg hz.1).symm⟩
   rw [←hL,List.getElem?_map,List.getElem?_eq_getElem hk,cG hk];rfl
  have hdl:L.dropLast=L.take (W.length - 1):=by rw [List.dropLast_eq_take,hLl]
  rw [hL] at hC
  have hws:IntKind.i64.wrap ((W.length:Int) - 1)=((W.length - 1:Nat):Int):=by rw [IntWalk.i64_in _ (by omega)];omega
  (refine aI ?_;refine ai ?_;refine ah ?_;refine ab ?_;apply aa rfl;(exact ae rfl rfl);apply aa rfl;(exact ag rfl rfl);refine aj ?_;refine ai ?_;refine ah ?_;refine ab ?_;apply aa rfl;(exact ae rfl rfl);apply aa rfl;(exact a8 rfl rfl rfl (by as_aux_lemma=>kernel_rfl));apply aa rfl;(first | exact bJ rfl rfl rfl hws | exact oZ (l:=W.length - 1) rfl rfl rfl rfl hrow (by as_aux_lemma=>kernel_rfl) rfl rfl (by omega) (Nat.le_of_eq hWl.symm));apply aa rfl;(exact ag rfl rfl);refine aj ?_;refine ai ?_;refine ah ?_;refine ah ?_;refine ab ?_;apply aa rfl;(exact ae rfl rfl);apply aa rfl;(exact ae rfl rfl);apply aa rfl;(first | exact bJ rfl rfl rfl hws | exact oZ (l:=W.length - 1) rfl rfl rfl rfl hrow (by as_aux_lemma=>kernel_rfl) rfl rfl (by omega) (Nat.le_of_eq hWl.symm));apply aa rfl;(exact a8 rfl rfl rfl (by as_aux_lemma=>kernel_rfl));apply aa rfl;(exact ae rfl rfl);refine aj ?_;refine ai ?_;refine aB ?_)
  refine bl (fun q:Nat×List (List Int)×List Int×Nat=>St.of [(0,o1 (.ptr 1010 0)),(1,o1 (.esl 1002 j 0 W.length)),(2,vv (I6 c)),(6,vv (I6 q.2.2.2)),(7,vv (I6 ((W.length - 1:Nat):Int))),(23,o1 (.esl 1002 j 0 (W.length - 1))),(24,vv (I6 ((W.length - 1:Nat):Int))),(25,vv (I6 q.1))]
    [(1010,l9 q.2.2.1.length q.2.2.1.length b),(1000,cz q.2.1),(1001,bw q.2.2.1),(1002,aV words)] [(0,o1 (.ptr 1010 0))])
   (fun q=>q.1≤W.length - 1∧fO ng (im,less,false,c) (L.take q.1)=(q.2.1,q.2.2.1,false,q.2.2.2)∧(b=true→q.1=0)) (fun q=>W.length - 1 - q.1) (0,im,less,c) ⟨Nat.zero_le _,rfl,fun _=>rfl⟩ (Wk.of ⟨rfl,rfl,rfl,rfl,rfl,rfl,rfl,rfl,trivial⟩ ⟨rfl,rfl,rfl,rfl,trivial⟩ ⟨rfl,trivial⟩) ?_
  rintro ⟨k,M,N,d⟩ ⟨hk,hgo,hb0⟩
  dsimp only at hk hgo hb0 ⊢
  have hok:rr ng less.length (M,N,false,d):=by
   have:=ll (ng:=ng) (n0:=less.length) (L.take k) (im,less,false,c) ⟨hw,Nat.le_refl _,hn,hc⟩ fun g hg=>by
    have hg:=List.mem_of_mem_take hg
    rw [←hL] at hg
    exact hlet.nat g hg
   rwa [hgo] at this
  have hMw:WF ng M N:=hok.wf
  have hMn:M.length=N.length:=hMw.len
  have hdN:d < N.length:=hok.d
  have hNhi:N.length≤2000:=hok.hi
  have hlN:less.length≤N.length:=hok.lo
  have hbN:b=true→N.length=2000:=fun hbt=>by have:=hb hbt;omega
  (refine ah ?_;refine ab ?_;apply aa rfl;(exact aD rfl rfl rfl rfl);refine aj ?_;refine ai ?_;refine ah ?_)
  refine bF rfl (fun hlt=> ?_) (fun hlt=> ?_)
  ·have hlt':k < W.length - 1:=by omega
   obtain ⟨g,hg,hLk,hgk⟩:=hget k (by omega)
   have hgv:(aJ W)[k]? =some (I6 (g:Int)):=by rw [al (by omega),hgk]
   have hgo':fO ng (im,less,false,c) (L.take (k + 1))=bI ng M N d g:=by
    rw [List.take_add_one,hLk,kB,hgo];rfl
   have hI:=kF M N N.length N.length d g b hMn rfl hMw.down (by omega) (by rw [hMw.row d (by omega)];exact hg) (hMw.bD d g (by omega) hg)
   (refine aI ?_;refine ai ?_;refine ah ?_;refine aB ?_;refine ah ?_;refine ab ?_;apply aa rfl;(exact aS rfl rfl rfl rfl rfl (by as_aux_lemma=>kernel_rfl) (by first | assumption | exact al (by assumption) | exact ar (by assumption) | exact al (by omega) | exact ar (by omega) | rfl) (by first | rfl | exact (Int.toNat_of_nonneg (by omega)).symm) (by first | assumption | omega | (simp;omega)) (by first | exact Nat.le_refl _ | exact Nat.le_of_eq (an _).symm | exact Nat.le_of_eq (aw _).symm | (refine Nat.le_trans ?_ (Nat.le_of_eq (an _).symm);(first | omega | (simp;done) | (simp;omega))) | (refine Nat.le_trans ?_ (Nat.le_of_eq (aw _).symm);(first | omega | (simp;done) | (simp;omega)))));apply aa rfl;(exact aN rfl (by as_aux_lemma=>kernel_rfl) rfl rfl rfl (by first | assumption | exact al (by assumption) | exact ar (by assumption) | exact al (by omega) | exact ar (by omega) | rfl) (by first | assumption | exact al (by assumption) | exact ar (by assumption) | exact al (by omega) | exact ar (by omega) | rfl));apply aa rfl;(exact ag rfl rfl);refine aj ?_;refine ai ?_;refine ah ?_;refine ab ?_;apply aa rfl;(exact ae rfl rfl);apply aa rfl;(exact ae rfl rfl);apply aa rfl;(exact ae rfl rfl);apply aa rfl;(apply ak 45;exact aq hI (by as_aux_lemma=>kernel_rfl) rfl rfl ⟨rfl,rfl,rfl,trivial⟩ ⟨⟨_,rfl, .inr rfl⟩,⟨_,rfl, .inr rfl⟩,⟨_,rfl, .inr rfl⟩,trivial⟩ rfl rfl);apply aa rfl;(exact ag rfl rfl);refine aj ?_;refine ai ?_;refine ah ?_;refine ah ?_;refine ab ?_;apply aa rfl;(exact ae rfl rfl);apply aa rfl;(exact aD rfl rfl rfl rfl);refine aj ?_;refine ai ?_)
   have hgl:W.length - 1 < W.length:=by omega
   obtain ⟨gl,_,hLg,_⟩:=hget (W.length - 1) hgl
   have hlast:L.getLast?=some gl:=by rw [List.getLast?_eq_getElem?,hLl];exact hLg
   have hw1:L.length≠1:=by omega
   refine au rfl (fun he=> ?_) (fun he=> ?_)
   ·have he:image M N d g < 0:=by simpa using he
    have hent:¬0≤bD M d g:=fun h=>by unfold image at he;rw [if_neg (by omega)] at he;omega
    by_cases hfull:N.length=2000
    ·have hD:=lG M N N.length N.length d g b hMn (by omega)
     have hnx:bI ng M N d g=(M,N,true,0):=by unfold bI;rw [if_neg hent,if_pos hfull]
     have hCe:C=(M,N,true):=by
      rw [←hC];unfold fC
      cases b with
      | true=>
       rw [if_pos rfl,if_neg hw1]
       obtain rfl:k=0:=hb0 rfl
       simp only [List.take_zero,fO,Prod.mk.injEq] at hgo
       rw [hgo.1,hgo.2.1]
      | false=>
       rw [if_neg (by simp)]
       refine tC hlast (d:=0) ?_
       rw [hdl]
       refine y4 (k:=k + 1) (by rw [List.take_take,Nat.min_eq_left (by omega),hgo',hnx]) rfl
     subst hCe
     (refine ab ?_;apply aa rfl;(exact ae rfl rfl);apply aa rfl;(exact ae rfl rfl);apply aa rfl;(exact ae rfl rfl);apply aa rfl;(apply ak 44;exact ct [(0,1010)] hD (by as_aux_lemma=>kernel_rfl) rfl rfl ⟨rfl,rfl,rfl,trivial⟩ ⟨⟨_,rfl, .inl rfl⟩,⟨_,rfl, .inl rfl⟩,⟨_,rfl, .inl rfl⟩,trivial⟩ ⟨rfl,rfl,rfl,trivial⟩ rfl rfl);apply aa rfl;(exact ag rfl rfl);refine aj ?_;refine ai ?_;refine ah ?_;refine ah ?_;refine ab ?_;apply aa rfl;(exact ae rfl rfl);apply aa rfl;(exact bh rfl rfl rfl);apply aa rfl;(exact aE (d:=2) rfl rfl rfl (by as_aux_lemma=>kernel_rfl));apply aa rfl;(exact aQ rfl (by as_aux_lemma=>kernel_rfl) rfl rfl rfl rfl);refine aj ?_;refine ai ?_)
     refine au rfl (fun _=> ?_) (fun e=>by cases e)
     (refine aW ?_;refine aT ?_;refine bj ?_;refine aT ?_;refine aT ?_;refine bj ?_;refine aT ?_)
     exact gu (.inl rfl) rfl ⟨rfl,rfl,rfl,trivial⟩ ⟨rfl,trivial⟩
    ·obtain rfl:b=false:=by
      cases b with
      | false=>rfl
      | true=>exact absurd (hbN rfl) hfull
     have hD:=pw ng M N N.length N.length d g false hMn rfl (by omega) hMw hdN hg hng
     have hnx:bI ng M N d g=(kY ng M N.length d g,N ++ [(N.length:Int)],false,N.length):=by unfold bI;rw [if_neg hent,if_neg hfull]
     have hsn:(N ++ [(N.length:Int)]).length=N.length + 1:=by simp
     (refine ab ?_;apply aa rfl;(exact ae rfl rfl);apply aa rfl;(exact ae rfl rfl);apply aa rfl;(exact ae rfl rfl);apply aa rfl;(apply ak 44;exact ct [(0,1010)] hD (by as_aux_lemma=>kernel_rfl) rfl rfl ⟨rfl,rfl,rfl,trivial⟩ ⟨⟨_,rfl, .inl rfl⟩,⟨_,rfl, .inl rfl⟩,⟨_,rfl, .inl rfl⟩,trivial⟩ ⟨rfl,rfl,rfl,trivial⟩ rfl rfl);apply aa rfl;(exact ag rfl rfl);refine aj ?_;refine ai ?_;refine ah ?_;refine ah ?_;refine ab ?_;apply aa rfl;(exact ae rfl rfl);apply aa rfl;(exact bh rfl rfl rfl);apply aa rfl;(exact aE (d:=2) rfl rfl rfl (by as_aux_lemma=>kernel_rfl));apply aa rfl;(exact aQ rfl (by as_aux_lemma=>kernel_rfl) rfl rfl rfl rfl);refine aj ?_;refine ai ?_)
     refine au rfl (fun e=>by cases e) (fun _=> ?_)
     (refine aI ?_;refine ai ?_;refine ab ?_;apply aa rfl;(exact ae rfl rfl);apply aa rfl;(exact ag rfl rfl);refine aj ?_;refine aK ?_;refine ai ?_;refine ab ?_;apply aa rfl;(exact aR rfl rfl rfl (by first | exact IntWalk.i64_in _ (by omega) | rfl));apply aa rfl;(exact ae rfl rfl);refine aj ?_)
     exact aX (k + 1,kY ng M N.length d g,N ++ [(N.length:Int)],N.length) ⟨hlt',hgo'.trans hnx,fun e=>by cases e⟩ (by show W.length - 1 - (k + 1) < W.length - 1 - k;omega) (Wk.of ⟨rfl,rfl,rfl,rfl,rfl,rfl,rfl,rfl,trivial⟩ ⟨by rw [hsn];rfl,rfl,rfl,rfl,trivial⟩ ⟨rfl,trivial⟩)
   ·have he:¬image M N d g < 0:=by simpa using he
    have hent:0≤bD M d g:=by
     rcases Int.lt_or_le (bD M d g) 0 with h | h
     ·exfalso;apply he;unfold image;rw [if_pos h];omega
     ·exact h
    have hie:image M N d g=(root N (bD M d g).toNat:Nat):=by unfold image;rw [if_neg (by omega)]
    have hnx:bI ng M N d g=(M,N,false,root N (bD M d g).toNat):=by unfold bI;rw [if_pos hent]
    (refine aI ?_;refine ai ?_;refine ah ?_;refine ah ?_;refine ab ?_;apply aa rfl;(exact ae rfl rfl);apply aa rfl;(exact bh rfl rfl rfl);apply aa rfl;(exact aE (d:=2) rfl rfl rfl (by as_aux_lemma=>kernel_rfl));apply aa rfl;(exact aQ rfl (by as_aux_lemma=>kernel_rfl) rfl rfl rfl rfl);refine aj ?_;refine ai ?_)
    refine au rfl (fun hbt=> ?_) (fun hbf=> ?_)
    ·subst hbt
     obtain rfl:k=0:=hb0 rfl
     simp only [List.take_zero,fO,Prod.mk.injEq] at hgo
     obtain ⟨rfl,rfl,_,rfl⟩:=hgo
     have hCe:C=(im,less,true):=by rw [←hC];unfold fC;rw [if_pos rfl,if_neg hw1]
     subst hCe
     (refine aW ?_;refine aT ?_;refine bj ?_;refine aT ?_;refine aT ?_;refine bj ?_;refine aT ?_)
     exact gu (.inl rfl) rfl ⟨rfl,rfl,rfl,trivial⟩ ⟨rfl,trivial⟩
    ·subst hbf
     (refine aI ?_;refine ai ?_;refine ab ?_;apply aa rfl;(exact ae rfl rfl);apply aa rfl;(exact ag rfl rfl);refine aj ?_;refine aK ?_;refine ai ?_;refine ab ?_;apply aa rfl;(exact aR rfl rfl rfl (by first | exact IntWalk.i64_in _ (by omega) | rfl));apply aa rfl;(exact ae rfl rfl);refine aj ?_)
     exact aX (k + 1,M,N,root N (bD M d g).toNat) ⟨hlt',hgo'.trans hnx,fun e=>by cases e⟩ (by show W.length - 1 - (k + 1) < W.length - 1 - k;omega) (Wk.of ⟨rfl,rfl,rfl,by rw [←hie];rfl,rfl,rfl,rfl,rfl,trivial⟩ ⟨rfl,rfl,rfl,rfl,trivial⟩ ⟨rfl,trivial⟩)
  ·obtain rfl:k=W.length - 1:=by omega
   obtain ⟨g,hg,hLk,hgk⟩:=hget (W.length - 1) (by omega)
   have hlast:L.getLast?=some g:=by rw [List.getLast?_eq_getElem?,hLl];exact hLk
   have hgv:(aJ W)[W.length - 1]? =some (I6 (g:Int)):=by rw [al (by omega),hgk]
   rw [←hdl] at hgo
   have hcl:=sV hlast hgo
   have hw1:b=true→L.length=1:=fun hbt=>by have:=hb0 hbt;omega
   have hCe:C=((cu ng im less c L).1,(cu ng im less c L).2.1,b):=by
    rw [←hC];unfold fC
    cases b with
    | true=>rw [if_pos rfl,if_pos (hw1 rfl)]
    | false=>rw [if_neg (by simp)];rw [hcl];(split;· rfl);split<;>rfl
   have hcN:c < N.length:=by omega
   have hI1:=kF M N N.length N.length d g b hMn rfl hMw.down (by omega) (by rw [hMw.row d (by omega)];exact hg) (hMw.bD d g (by omega) hg)
   have hI2:=kF M N N.length N.length c g b hMn rfl hMw.down (by omega) (by rw [hMw.row c (by omega)];exact hg) (hMw.bD c g (by omega) hg)
   have hil1:=dM hMw hdN hg
   have hil2:=dM hMw hcN hg
   have hwd:(bu M d).length=ng:=hMw.row d (by omega)
   have hwc:(bu M c).length=ng:=hMw.row c (by omega)
   generalize image M N d g=e at *
   generalize image M N c g=f at *
   (refine a5 ?_;refine ax ?_;refine ax ?_;refine aM ?_;refine ai ?_;refine ah ?_;refine ab ?_;apply aa rfl;(exact ae rfl rfl);apply aa rfl;(exact ae rfl rfl);apply aa rfl;(exact aS rfl rfl rfl rfl rfl (by as_aux_lemma=>kernel_rfl) (by first | assumption | exact al (by assumption) | exact ar (by assumption) | exact al (by omega) | exact ar (by omega) | rfl) (by first | rfl | exact (Int.toNat_of_nonneg (by omega)).symm) (by first | assumption | omega | (simp;omega)) (by first | exact Nat.le_refl _ | exact Nat.le_of_eq (an _).symm | exact Nat.le_of_eq (aw _).symm | (refine Nat.le_trans ?_ (Nat.le_of_eq (an _).symm);(first | omega | (simp;done) | (simp;omega))) | (refine Nat.le_trans ?_ (Nat.le_of_eq (aw _).symm);(first | omega | (simp;done) | (simp;omega)))));apply aa rfl;(exact aN rfl (by as_aux_lemma=>kernel_rfl) rfl rfl rfl (by first | assumption | exact al (by assumption) | exact ar (by assumption) | exact al (by omega) | exact ar (by omega) | rfl) (by first | assumption | exact al (by assumption) | exact ar (by assumption) | exact al (by omega) | exact ar (by omega) | rfl));apply aa rfl;(exact ag rfl rfl);refine aj ?_;refine ai ?_;refine ah ?_;refine ab ?_;apply aa rfl;(exact ae rfl rfl);apply aa rfl;(exact ae rfl rfl);apply aa rfl;(exact ae rfl rfl);apply aa rfl;(apply ak 45;first | exact aq hI1 (by as_aux_lemma=>kernel_rfl) rfl rfl ⟨rfl,rfl,rfl,trivial⟩ ⟨⟨_,rfl, .inr rfl⟩,⟨_,rfl, .inr rfl⟩,⟨_,rfl, .inr rfl⟩,trivial⟩ rfl rfl | exact aq hI2 (by as_aux_lemma=>kernel_rfl) rfl rfl ⟨rfl,rfl,rfl,trivial⟩ ⟨⟨_,rfl, .inr rfl⟩,⟨_,rfl, .inr rfl⟩,⟨_,rfl, .inr rfl⟩,trivial⟩ rfl rfl);apply aa rfl;(exact ae rfl rfl);apply aa rfl;(exact ae rfl rfl);apply aa rfl;(exact ae rfl rfl);apply aa rfl;(apply ak 45;first | exact aq hI1 (by as_aux_lemma=>kernel_rfl) rfl rfl ⟨rfl,rfl,rfl,trivial⟩ ⟨⟨_,rfl, .inr rfl⟩,⟨_,rfl, .inr rfl⟩,⟨_,rfl, .inr rfl⟩,trivial⟩ rfl rfl | exact aq hI2 (by as_aux_lemma=>kernel_rfl) rfl rfl ⟨rfl,rfl,rfl,trivial⟩ ⟨⟨_,rfl, .inr rfl⟩,⟨_,rfl, .inr rfl⟩,⟨_,rfl, .inr rfl⟩,trivial⟩ rfl rfl);apply aa rfl;(exact ag rfl rfl);apply aa rfl;(exact ag rfl rfl);refine aj ?_;refine ai ?_;refine aB ?_;refine ah ?_;refine ab ?_;apply aa rfl;(exact ae rfl rfl);apply aa rfl;(exact aD rfl rfl rfl rfl);apply aa rfl;(exact ag rfl rfl);refine aj ?_;refine ai ?_)
   refine au rfl (fun he=> ?_) (fun he=> ?_)
   ·have he:0≤e:=by simp at he;omega
    rw [if_pos he] at hcl
    rw [hcl] at hCe
    dsimp only at hCe
    have hId:=lC ng N.length M N e.toNat c b rfl hMw (by omega) hcN hNhi hng
    rw [Int.toNat_of_nonneg he] at hId
    have hlen:=(gv (q:= [(e,(c:Int))]) hMw rfl (fun p hp=>by simp at hp;subst hp;exact ⟨⟨he,by dsimp only;omega⟩,by dsimp only;omega,by dsimp only;omega⟩)).2
    subst hCe
    (refine ab ?_;apply aa rfl;(exact ae rfl rfl);apply aa rfl;(exact ae rfl rfl);apply aa rfl;(exact ae rfl rfl);apply aa rfl;(apply ak 65;exact ct [(0,1010)] hId (by as_aux_lemma=>kernel_rfl) rfl rfl ⟨rfl,rfl,rfl,trivial⟩ ⟨⟨_,rfl, .inl rfl⟩,⟨_,rfl, .inl rfl⟩,⟨_,rfl, .inl rfl⟩,trivial⟩ ⟨rfl,rfl,rfl,trivial⟩ rfl rfl);refine aj ?_;refine aK ?_)
    exact gu (.inr rfl) rfl ⟨by dsimp only;rw [hlen];rfl,rfl,rfl,trivial⟩ ⟨rfl,trivial⟩
   ·have he:¬0≤e:=by simp at he;omega
    rw [if_neg he] at hcl
    (refine ah ?_;refine ab ?_;apply aa rfl;(exact ae rfl rfl);apply aa rfl;(exact aD rfl rfl rfl rfl);apply aa rfl;(exact ag rfl rfl);refine aj ?_;refine ai ?_)
    refine au rfl (fun hf=> ?_) (fun hf=> ?_)
    ·have hf:0≤f:=by simp at hf;omega
     rw [if_pos hf] at hcl
     rw [hcl] at hCe
     dsimp only at hCe
     have hId:=lC ng N.length M N f.toNat d b rfl hMw (by omega) hdN hNhi hng
     rw [Int.toNat_of_nonneg hf] at hId
     have hlen:=(gv (q:= [(f,(d:Int))]) hMw rfl (fun p hp=>by simp at hp;subst hp;exact ⟨⟨hf,by dsimp only;omega⟩,by dsimp only;omega,by dsimp only;omega⟩)).2
     subst hCe
     (refine ab ?_;apply aa rfl;(exact ae rfl rfl);apply aa rfl;(exact ae rfl rfl);apply aa rfl;(exact ae rfl rfl);apply aa rfl;(apply ak 65;exact ct [(0,1010)] hId (by as_aux_lemma=>kernel_rfl) rfl rfl ⟨rfl,rfl,rfl,trivial⟩ ⟨⟨_,rfl, .inl rfl⟩,⟨_,rfl, .inl rfl⟩,⟨_,rfl, .inl rfl⟩,trivial⟩ ⟨rfl,rfl,rfl,trivial⟩ rfl rfl);refine aj ?_;refine aK ?_)
     exact gu (.inr rfl) rfl ⟨by dsimp only;rw [hlen];rfl,rfl,rfl,trivial⟩ ⟨rfl,trivial⟩
    ·have hf:¬0≤f:=by simp at hf;omega
     rw [if_neg hf] at hcl
     rw [hcl] at hCe
     dsimp only at hCe
     have hLk:=sP M N N.length N.length c d g b hMn (by omega) (by omega) (by omega) (by omega)
     rw [x9] at hLk
     subst hCe
     (refine ab ?_;apply aa rfl;(exact ae rfl rfl);apply aa rfl;(exact ae rfl rfl);apply aa rfl;(exact ae rfl rfl);apply aa rfl;(exact ae rfl rfl);apply aa rfl;(apply ak 66;exact ct [(0,1010)] hLk (by as_aux_lemma=>kernel_rfl) rfl rfl ⟨rfl,rfl,rfl,rfl,trivial⟩ ⟨⟨_,rfl, .inl rfl⟩,⟨_,rfl, .inl rfl⟩,⟨_,rfl, .inl rfl⟩,trivial⟩ ⟨rfl,rfl,rfl,trivial⟩ rfl rfl);refine aj ?_;refine aK ?_)
     exact gu (.inr rfl) rfl ⟨rfl,rfl,rfl,trivial⟩ ⟨rfl,trivial⟩
end Go.Proofs.Ytekbhbcgoadciaa
namespace Go.Proofs.Ytekbhbcgoadciaa
theorem sH {ng n0:Nat} :∀(w:List Nat) (s:List (List Int)×List Int×Bool×Nat),rr ng n0 s→(∀g∈w,g < ng)→(s.2.2.1=true→s.2.1.length=2000)→(fO ng s w).2.2.1=true→(fO ng s w).2.1.length=2000
 | [],s,_,_,h,hf=>h hf
 | g :: r,s,h,hg,hs,hf=>by
  unfold fO at hf ⊢
  by_cases e:s.2.2.1=true
  ·rw [if_pos e] at hf ⊢;exact hs e
  ·rw [if_neg e] at hf ⊢
   obtain ⟨h1,h2,h3,h4,h5⟩:=fz h.wf h.d (hg g (by simp)) h.hi
   exact sH (n0:=n0) r _ ⟨h1,Nat.le_trans h.lo h2,h3,h4⟩ (fun x hx=>hg x (by simp [hx])) h5 hf
theorem sv {ng:Nat} {im:List (List Int)} {less:List Int} {c:Nat} {w:List Nat} (h:WF ng im less) (hc:c < less.length) (hn:less.length≤2000) (hg:∀g∈w,g < ng) (hf:(cu ng im less c w).2.2=true):(cu ng im less c w).2.1.length=2000:=by
 unfold cu at hf ⊢
 cases hw:w.getLast? with
 | none=>rw [hw] at hf;cases hf
 | some g=>
  rw [hw] at hf
  have hfull:=sH (n0:=less.length) w.dropLast (im,less,false,c) ⟨h,Nat.le_refl _,hn,hc⟩ (fun x hx=>hg x (List.dropLast_subset _ hx)) (fun e=>by cases e)
  generalize fO ng (im,less,false,c) w.dropLast=s at *
  dsimp only at hf ⊢
  by_cases e:s.2.2.1=true
  ·rw [if_pos e];exact hfull e
  ·rw [if_neg e] at hf
   split at hf
   ·cases hf
   ·split at hf<;>cases hf
structure uj (ng n:Nat) (s:dc):Prop where
 ok:bO ng n s
 full:s.2.2=true→s.2.1.length=2000
def jJ (ng:Nat) (s:dc) (w:List Int):dc:=fC ng s.1 s.2.1 s.2.2 0 (w.map Int.toNat)
theorem qT {ng n c:Nat} {s:dc} {w:List Nat} (h:uj ng n s) (hc:c < n) (hw:∀g∈w,g < ng):uj ng n (fC ng s.1 s.2.1 s.2.2 c w):=by
 have hcl:c < s.2.1.length:=Nat.lt_of_lt_of_le hc h.ok.lo
 have hk:=mP h.ok.wf hcl h.ok.hi hw
 unfold fC
 split
 ·rename_i hb
  have hl:=h.full hb
  split
  ·refine ⟨⟨hk.wf,Nat.le_trans h.ok.lo hk.lo,hk.hi⟩,fun _=> ?_⟩
   have h1:=hk.lo
   have h2:=hk.hi
   dsimp only
   omega
  ·exact ⟨⟨h.ok.wf,h.ok.lo,h.ok.hi⟩,fun _=>hl⟩
 ·exact ⟨⟨hk.wf,Nat.le_trans h.ok.lo hk.lo,hk.hi⟩,fun hf=>sv h.ok.wf hcl h.ok.hi hw hf⟩
theorem xU {ng n:Nat} {s:dc} {w:List Int} (h:uj ng n s) (hn:0 < n) (hw:a9 ng w):uj ng n (jJ ng s w):=qT h hn hw.nat
theorem uW {ng n c:Nat} {s:dc} {w:List Int} (h:uj ng n s) (hc:c < n) (hw:a9 ng w):uj ng n (cm ng c s w):=by
 unfold cm
 split
 ·rename_i hl
  have hb:s.2.2=false:=by unfold dX at hl;simp at hl;exact hl.2
  have:=qT h hc hw.nat
  unfold fC at this
  rwa [hb,if_neg (by simp)] at this
 ·exact h
theorem wy {ng n c g:Nat} {s:dc} (h:uj ng n s) (hc:c < n) (hg:g < ng):uj ng n (cI ng c s g):=by
 refine ⟨jm h.ok hc hg, ?_⟩
 unfold cI
 split
 ·exact (fz h.ok.wf (Nat.lt_of_lt_of_le hc h.ok.lo) hg h.ok.hi).2.2.2.2
 ·exact h.full
theorem u6 (ng:Nat):uj ng 1 (c6 ng):=⟨gS ng,fun h=>by cases h⟩
def wX (ng:Nat) (rels words:List (List Int)):dc:=outer ng rels 2001 0 (words.foldl (jJ ng) (c6 ng))
theorem kO {ng:Nat} {s:dc} (h:s.2.2=true) (w:List Int):(jJ ng s w).2.2=true:=by
 unfold jJ fC
 rw [if_pos h];split<;>rfl
theorem qR {ng:Nat} :∀(words:List (List Int)) (s s':dc),(s=s'∨(s.2.2=true∧s'.2.2=true))→(words.foldl (cW ng) s=words.foldl (jJ ng) s'∨((words.foldl (cW ng) s).2.2=true∧(words.foldl (jJ ng) s').2.2=true))
 | [],s,s',h=>h
 | w :: r,s,s',h=>by
  refine qR r _ _ ?_
  rcases h with rfl | ⟨h1,h2⟩
  ·by_cases e:s.2.2=true
   ·right
    exact ⟨by rw [gf e];exact e,kO e w⟩
   ·left
    unfold cW jJ fC
    rw [if_neg e,if_neg e]
  ·right
   exact ⟨by rw [gf h1];exact h1,kO h2 w⟩
theorem mx (ng:Nat) (rels words:List (List Int)):cB ng rels words=wX ng rels words∨((cB ng rels words).2.2=true∧(wX ng rels words).2.2=true):=by
 unfold cB wX
 rcases qR (ng:=ng) words (c6 ng) (c6 ng) (.inl rfl) with h | ⟨h1,h2⟩
 ·left;rw [h]
 ·right;rw [fI h1,fI h2];exact ⟨h1,h2⟩
end Go.Proofs.Ytekbhbcgoadciaa
namespace Go.Proofs.Ytekbhbcgoadciaa
def fy (ng:Nat) (im:List (List Int)) (less:List Int) (s:iE) (i g:Nat):List (List Int):=(List.range ng).map fun g'=>(List.range (if g' < g then i + 1 else i)).map (gI im less s g')
def gH (ng:Nat) (im:List (List Int)) (less:List Int) (s:iE) (i g:Nat):Prop:=∀k g',g' < ng→(k < i∨(k=i∧g' < g))→k < s.1.length∧0≤gI im less s g' k
section
variable {ng:Nat} {im:List (List Int)} {less:List Int} {s s':iE} {i g:Nat}
theorem zr:(fy ng im less s i g).length=ng:=by simp [fy]
theorem wR:fy ng im less s 0 0=List.replicate ng []:=by
 refine List.ext_getElem (by simp [fy]) fun k h1 h2=> ?_
 simp [fy]
theorem zt (hg:g < ng):bu (fy ng im less s i g) g=(List.range i).map (gI im less s g):=by
 simp [fy,bu,hg]
theorem xT:fy ng im less s i ng=fy ng im less s (i + 1) 0:=by
 unfold fy
 refine List.map_congr_left fun g' hg'=> ?_
 rw [if_pos (List.mem_range.1 hg'),if_neg (by omega)]
theorem qz (h:gG s s') {k g':Nat} (hk:k < s.1.length) (h0:0≤gI im less s g' k):gI im less s' g' k=gI im less s g' k:=by
 unfold gI at h0 ⊢
 rw [h.pre k hk,h.num _ h0]
theorem xw (h:gG s s') (hs:gH ng im less s i g):fy ng im less s i g=fy ng im less s' i g:=by
 unfold fy
 refine List.map_congr_left fun g' hg'=> ?_
 refine List.map_congr_left fun k hk=> ?_
 have hg':=List.mem_range.1 hg'
 have hk:=List.mem_range.1 hk
 have:=hs k g' hg' (by
  split at hk
  ·rename_i e
   by_cases e2:k < i
   ·exact .inl e2
   ·exact .inr ⟨by omega,e⟩
  ·exact .inl hk)
 exact (qz h this.1 this.2).symm
theorem yS (hg:g < ng):(fy ng im less s i g).set g ((List.range i).map (gI im less s g) ++ [gI im less s g i])=fy ng im less s i (g + 1):=by
 refine List.ext_getElem (by simp [fy]) fun k h1 h2=> ?_
 simp only [fy,List.length_map,List.length_range] at h2
 rw [List.getElem_set]
 simp only [fy,List.getElem_map,List.getElem_range]
 by_cases e:g=k
 ·subst e
  rw [if_pos rfl,if_pos (by omega),List.range_succ,List.map_append];rfl
 ·rw [if_neg e]
  by_cases e2:k < g
  ·rw [if_pos e2,if_pos (by omega)]
  ·rw [if_neg e2,if_neg (by omega)]
theorem gH.grow (h:gG s s') (hs:gH ng im less s i g):gH ng im less s' i g:=fun k g' hg' hk=>by
 obtain ⟨h1,h2⟩:=hs k g' hg' hk
 exact ⟨Nat.lt_of_lt_of_le h1 h.len,by rw [qz h h1 h2];exact h2⟩
theorem gH.next (hs:gH ng im less s i ng):gH ng im less s (i + 1) 0:=fun k g' hg' hk=>hs k g' hg' (by omega)
theorem gH.zero:gH ng im less s 0 0:=fun k g' _ hk=>by omega
theorem oz {d e:Nat} (hi:i < s.1.length) (hd:aC s.1 i=(d:Int)) (he:image im less d g=(e:Int)):gI im less (visit s e) g i=aC (visit s e).2 e:=by
 unfold gI
 rw [(ix s e).pre i hi,hd,Int.toNat_natCast,he,Int.toNat_natCast]
theorem gH.visit {d e:Nat} (hF:nI less.length less s) (hi:i < s.1.length) (hd:aC s.1 i=(d:Int)) (he:image im less d g=(e:Int)) (hel:e < less.length) (hs:gH ng im less s i g):gH ng im less (visit s e) i (g + 1):=fun k g' hg' hk=>by
 by_cases e1:k=i∧g'=g
 ·obtain ⟨rfl,rfl⟩:=e1
  exact ⟨Nat.lt_of_lt_of_le hi (ix s e).len,by rw [oz hi hd he];exact qn hF hel⟩
 ·exact hs.grow (ix s e) k g' hg' (by omega)
theorem xi (h:bS ng im less=s):fy ng im less s s.1.length 0=cF ng im less:=by
 subst h
 rw [pc]
 unfold fy
 refine List.map_congr_left fun g' _=> ?_
 rw [if_neg (by omega)]
end
def fN (M:List Int) (z:Int):Option Int:=if 0≤z∧z < M.length∧0≤aC M z.toNat then some (aC M z.toNat) else none
theorem zJ {M:List Int} {e:Nat} {v:Int} (he:e < M.length) (hv:0≤v):(fun z=>if z=(e:Int) then some v else fN M z)=fN (M.set e v):=by
 funext z
 have h1:aC (M.set e v) e=v:=by rw [ck,if_pos ⟨rfl,he⟩]
 unfold fN
 rw [List.length_set]
 by_cases h:z=(e:Int)
 ·subst h
  rw [if_pos rfl,Int.toNat_natCast,h1,if_pos ⟨by omega,by omega,hv⟩]
 ·rw [if_neg h]
  by_cases h0:0≤z
  ·have h2:aC (M.set e v) z.toNat=aC M z.toNat:=by rw [ck,if_neg (by omega)]
   rw [h2]
  ·rw [if_neg (fun hh=>h0 hh.1),if_neg (fun hh=>h0 hh.1)]
theorem BB (n:Nat):fN (List.replicate n (-1))=fun _=>none:=by
 funext z
 unfold fN
 rw [if_neg]
 rintro ⟨h1,h2,h3⟩
 rw [fb (by simp at h2;omega)] at h3
 omega
theorem yz {n:Nat} (h:0 < n):(fun z:Int=>if z=0 then some (0:Int) else none)=fN (dv n).2:=by
 show _=fN ((List.replicate n (-1)).set 0 0)
 rw [←zJ (by simpa using h) (Int.le_refl 0),BB]
 rfl
theorem AM {M:List Int} {e:Nat} (he:e < M.length):(fN M (e:Int)).isSome=decide (0≤aC M e)∧(0≤aC M e→(fN M (e:Int)).getD 0=aC M e):=by
 unfold fN
 rw [Int.toNat_natCast]
 by_cases h:0≤aC M e
 ·rw [if_pos ⟨by omega,by omega,h⟩];simp [h]
 ·rw [if_neg (fun hh=>h hh.2.2)];simp [h]
end Go.Proofs.Ytekbhbcgoadciaa
