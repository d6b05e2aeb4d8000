/- The degrees of a component, the reference's: l12Either, l12Degrees, l12Affine. guards: -/
import Derived.Test.YtekbhbcgoadciaaPart4
import Derived.Test.YtekbhbcgoadciaaPart5
namespace Go.Proofs.Ytekbhbcgoadciaa
open Go.RowKit
theorem rev_eq (a b:List Int):(a.reverse == b)=(a == b.reverse):=by
 by_cases h:a.reverse=b
 ·subst h;simp
 ·have h2:a≠b.reverse:=fun e=>h (by rw [e,List.reverse_reverse])
  rw [beq_eq_false_iff_ne.2 h,beq_eq_false_iff_ne.2 h2]
set_option maxRecDepth 100000 in
set_option maxHeartbeats 1000000 in
theorem bt (zss:List (List Int)) (i m n:Nat) (labs list:List Int) (hi:i < zss.length) (hlb:bu zss i=labs) (hm:labs.length=m) (hn:list.length=n) (hm4:m≤1000000) (hn4:n≤1000000):
  FC Try.prog 77 [(1000,aV zss),(1001,de list)] [o1 (.esl 1000 i 0 m),o1 (.sl 1001 0 n)] [] (vv (.bool (bA labs list))) []:=by
 have hlen:(bu zss i).length=m:=by rw [hlb];exact hm
 have hS:=zU zss i n 2 list hi hn (by omega) hn4
 have hT:=ib 10 zss i hi (by omega)
 rw [hlen,hlb] at hS hT
 have hS2:=(zf labs.reverse list m n (by simpa using hm) hn hm4 hn4).nm [(1000,10),(1001,1001)] (by kernel_rfl)
 have hS2:FC Try.prog 96 [(10,de labs.reverse),(1001,de list)] [o1 (.sl 10 0 m),o1 (.sl 1001 0 n)] [] (vv (.bool (labs.reverse == list))) []:=hS2
 rw [rev_eq] at hS2
 refine bc (nt:=14) Try.func77 rfl rfl (by simp) fun w0 ω0=> ?_
 (refine ah ?_;refine ab ?_;apply aa rfl;(exact ag rfl rfl);refine aj ?_;refine ai ?_;refine ah ?_;refine ab ?_;apply aa rfl;(exact ae rfl rfl);apply aa rfl;(exact ae rfl rfl);apply aa rfl;(apply ak 96;exact aq hS (by as_aux_lemma=>kernel_rfl) rfl rfl ⟨rfl,rfl,trivial⟩ ⟨⟨_,rfl, .inl rfl⟩,⟨_,rfl, .inl rfl⟩,trivial⟩ rfl rfl);apply aa rfl;(exact ae rfl rfl))
 refine bH 8 rfl (fun h1=> ?_) (fun h1=> ?_)
 ·have hv:bA labs list=true:=by unfold bA;rw [h1];rfl
  rw [hv]
  (apply aG rfl rfl rfl rfl rfl;apply aG rfl rfl rfl rfl rfl;apply aG rfl rfl rfl rfl rfl;apply aG rfl rfl rfl rfl rfl;apply aa rfl;(exact bf rfl rfl rfl);apply aa rfl;(exact ag rfl rfl);refine aj ?_;refine ai ?_;refine aW ?_)
  exact bd (.inl rfl) rfl (.tmp rfl) trivial trivial
 ·have hv:bA labs list=(labs == list.reverse):=by unfold bA;rw [h1];rfl
  rw [hv]
  (apply aH rfl rfl rfl;(exact ae rfl rfl);apply aH rfl rfl rfl;(first | (apply ak 78;exact bz hT (by as_aux_lemma=>kernel_rfl) rfl rfl ⟨rfl,trivial⟩ ⟨⟨_,rfl, .inl rfl⟩,trivial⟩ rfl rfl rfl) | (apply ak 96;exact aq hS2 (by as_aux_lemma=>kernel_rfl) rfl rfl ⟨rfl,rfl,trivial⟩ ⟨⟨_,rfl, .inr rfl⟩,⟨_,rfl, .inl rfl⟩,trivial⟩ rfl rfl));apply aH rfl rfl rfl;(exact ae rfl rfl);apply aH rfl rfl rfl;(first | (apply ak 78;exact bz hT (by as_aux_lemma=>kernel_rfl) rfl rfl ⟨rfl,trivial⟩ ⟨⟨_,rfl, .inl rfl⟩,trivial⟩ rfl rfl rfl) | (apply ak 96;exact aq hS2 (by as_aux_lemma=>kernel_rfl) rfl rfl ⟨rfl,rfl,trivial⟩ ⟨⟨_,rfl, .inr rfl⟩,⟨_,rfl, .inl rfl⟩,trivial⟩ rfl rfl));apply aa rfl;(exact br rfl rfl rfl);apply aa rfl;(exact ag rfl rfl);refine aj ?_;refine ai ?_;refine aW ?_)
  exact bd (.inl rfl) rfl (.tmp rfl) trivial trivial
set_option maxRecDepth 100000 in
set_option maxHeartbeats 2000000 in
theorem zS (zss:List (List Int)) (i m:Nat) (labs:List Int) (hi:i < zss.length) (hlb:bu zss i=labs) (hm:labs.length=m) (hm4:m≤4) (h0:m=0):
  FC Try.prog 59 [(1000,aV zss)] [o1 (.esl 1000 i 0 m)] [(15,bw [2])] (o1 (.sl 15 0 1)) []:=by
 have hrow:(bK zss)[i]? =some (aJ labs):=by rw [←hlb];exact ar hi
 have hilm:m≤(aJ labs).length:=by rw [an,hm];exact Nat.le_refl _
 refine bc (nt:=97) Try.func59 rfl rfl (by simp) fun w0 ω0=> ?_
 have hw1:IntKind.i64.wrap ((m:Int) + 1)=(m:Int) + 1:=IntWalk.i64_in _ (by omega)
 (refine ah ?_;refine ab ?_;apply aa rfl;(exact ag rfl rfl);refine aj ?_;refine ai ?_;refine ah ?_;refine ab ?_;apply aa rfl;(exact ae rfl rfl);apply aa rfl;(exact a8 rfl rfl rfl (by as_aux_lemma=>kernel_rfl));apply aa rfl;(exact aR rfl rfl rfl hw1);apply aa rfl;(exact ag rfl rfl);refine aj ?_;refine ai ?_;refine ah ?_;refine aB ?_;refine ah ?_;refine ab ?_;apply aa rfl;(exact ae rfl rfl);apply aa rfl;(exact aD rfl rfl rfl rfl);apply aa rfl;(exact ag rfl rfl);refine aj ?_;refine ai ?_)
 refine au rfl (fun _=> ?_) (fun e=> ?_)
 ·(refine ah ?_;refine ab ?_;apply aa rfl;(exact bM (E:=2) rfl (by as_aux_lemma=>kernel_rfl) rfl);apply aa rfl;(exact ag rfl rfl);refine aj ?_;refine ai ?_;refine aW ?_;refine bj ?_;refine aT ?_)
  exact bd (.inl rfl) rfl (.tmp rfl) ⟨rfl,trivial⟩ trivial
 ·exfalso;simp at e;omega
set_option maxRecDepth 100000 in
set_option maxHeartbeats 2000000 in
theorem ze (zss:List (List Int)) (i m:Nat) (labs:List Int) (hi:i < zss.length) (hlb:bu zss i=labs) (hm:labs.length=m) (hm4:m≤4) (h0:m=1) (hp:0 < aC labs 0):
  FC Try.prog 59 [(1000,aV zss)] [o1 (.esl 1000 i 0 m)] [(28,bw [2,aC labs 0])] (o1 (.sl 28 0 2)) []:=by
 have hrow:(bK zss)[i]? =some (aJ labs):=by rw [←hlb];exact ar hi
 have hilm:m≤(aJ labs).length:=by rw [an,hm];exact Nat.le_refl _
 refine bc (nt:=97) Try.func59 rfl rfl (by simp) fun w0 ω0=> ?_
 have hgl:(aJ labs)[0]? =some (I6 (aC labs 0)):=al (by omega)
 have hw1:IntKind.i64.wrap ((m:Int) + 1)=(m:Int) + 1:=IntWalk.i64_in _ (by omega)
 (refine ah ?_;refine ab ?_;apply aa rfl;(exact ag rfl rfl);refine aj ?_;refine ai ?_;refine ah ?_;refine ab ?_;apply aa rfl;(exact ae rfl rfl);apply aa rfl;(exact a8 rfl rfl rfl (by as_aux_lemma=>kernel_rfl));apply aa rfl;(exact aR rfl rfl rfl hw1);apply aa rfl;(exact ag rfl rfl);refine aj ?_;refine ai ?_;refine ah ?_;refine aB ?_;refine ah ?_;refine ab ?_;apply aa rfl;(exact ae rfl rfl);apply aa rfl;(exact aD rfl rfl rfl rfl);apply aa rfl;(exact ag rfl rfl);refine aj ?_;refine ai ?_)
 refine au rfl (fun e=> ?_) (fun _=> ?_)
 ·exfalso;simp at e;omega
 (refine ah ?_;refine ab ?_;apply aa rfl;(exact ae rfl rfl);apply aa rfl;(exact aD rfl rfl rfl rfl);apply aa rfl;(exact ae rfl rfl))
 refine bH 19 rfl (fun _=> ?_) (fun e=> ?_)
 ·(apply aH rfl rfl rfl;(exact ae rfl rfl);apply aH rfl rfl rfl;(first | exact aS (j:=0) rfl rfl rfl rfl rfl (by as_aux_lemma=>kernel_rfl) hrow rfl (by omega) hilm | exact aN rfl (by as_aux_lemma=>kernel_rfl) rfl rfl rfl hrow hgl);apply aH rfl rfl rfl;(first | exact aS (j:=0) rfl rfl rfl rfl rfl (by as_aux_lemma=>kernel_rfl) hrow rfl (by omega) hilm | exact aN rfl (by as_aux_lemma=>kernel_rfl) rfl rfl rfl hrow hgl);apply aH rfl rfl rfl;(exact aD rfl rfl rfl rfl);apply aa rfl;(exact bf rfl rfl rfl);apply aa rfl;(exact ag rfl rfl);refine aj ?_;refine ai ?_)
  refine au rfl (fun _=> ?_) (fun e=> ?_)
  ·(refine ah ?_;refine ab ?_;apply aa rfl;(exact ae rfl rfl);apply aa rfl;(first | exact aS (j:=0) rfl rfl rfl rfl rfl (by as_aux_lemma=>kernel_rfl) hrow rfl (by omega) hilm | exact aN rfl (by as_aux_lemma=>kernel_rfl) rfl rfl rfl hrow hgl);apply aa rfl;(first | exact aS (j:=0) rfl rfl rfl rfl rfl (by as_aux_lemma=>kernel_rfl) hrow rfl (by omega) hilm | exact aN rfl (by as_aux_lemma=>kernel_rfl) rfl rfl rfl hrow hgl);apply aa rfl;(exact cr (E:=2) rfl (by as_aux_lemma=>kernel_rfl) rfl rfl);apply aa rfl;(exact ag rfl rfl);refine aj ?_;refine ai ?_;refine aW ?_;refine bj ?_;refine aT ?_)
   exact bd (.inl rfl) rfl (.tmp rfl) ⟨rfl,trivial⟩ trivial
  ·exfalso;simp at e;omega
 ·exfalso;simp at e;omega
set_option maxRecDepth 100000 in
set_option maxHeartbeats 2000000 in
theorem zk (zss:List (List Int)) (i m:Nat) (labs:List Int) (hi:i < zss.length) (hlb:bu zss i=labs) (hm:labs.length=m) (hm4:m≤4) (h0:0 < m) (hq:¬(m=1∧0 < aC labs 0)) (e1:bA labs [3,5]=true):
  FC Try.prog 59 [(1000,aV zss)] [o1 (.esl 1000 i 0 m)] [(33,bw [2,6,10])] (o1 (.sl 33 0 3)) []:=by
 have hrow:(bK zss)[i]? =some (aJ labs):=by rw [←hlb];exact ar hi
 have hilm:m≤(aJ labs).length:=by rw [an,hm];exact Nat.le_refl _
 have hE1:=(bt zss i m 2 labs [3,5] hi hlb hm rfl (by omega) (by omega)).nm [(1000,1000),(1001,31)] (by kernel_rfl)
 have hE1:FC Try.prog 77 [(1000,aV zss),(31,de [3,5])] [o1 (.esl 1000 i 0 m),o1 (.sl 31 0 2)] [] (vv (.bool (bA labs [3,5]))) []:=hE1
 rw [e1] at hE1
 refine bc (nt:=97) Try.func59 rfl rfl (by simp) fun w0 ω0=> ?_
 have hw1:IntKind.i64.wrap ((m:Int) + 1)=(m:Int) + 1:=IntWalk.i64_in _ (by omega)
 (refine ah ?_;refine ab ?_;apply aa rfl;(exact ag rfl rfl);refine aj ?_;refine ai ?_;refine ah ?_;refine ab ?_;apply aa rfl;(exact ae rfl rfl);apply aa rfl;(exact a8 rfl rfl rfl (by as_aux_lemma=>kernel_rfl));apply aa rfl;(exact aR rfl rfl rfl hw1);apply aa rfl;(exact ag rfl rfl);refine aj ?_;refine ai ?_;refine ah ?_;refine aB ?_;refine ah ?_;refine ab ?_;apply aa rfl;(exact ae rfl rfl);apply aa rfl;(exact aD rfl rfl rfl rfl);apply aa rfl;(exact ag rfl rfl);refine aj ?_;refine ai ?_)
 refine au rfl (fun e=> ?_) (fun _=> ?_)
 ·exfalso;simp at e;omega
 (repeat (first | refine ah ?_ | refine ai ?_ | refine aI ?_ | refine aB ?_ | refine aK ?_ | refine a5 ?_ | refine aM ?_ | refine bZ rfl ?_ | refine ax ?_))
 refine cg (St.of [(0,o1 (.esl 1000 i 0 m)),(3,vv (I6 ((m:Int) + 1))),(16,vv (.bool false))] [(1000,aV zss)]) ?_ ?_
 ·refine ab ?_
  (apply aa rfl;(exact ae rfl rfl);apply aa rfl;(exact aD rfl rfl rfl rfl);apply aa rfl;(exact ae rfl rfl))
  refine bH 19 rfl (fun e1=> ?_) (fun e1=> ?_)
  ·have e1:m=1:=by simp at e1;omega
   have hg2:¬aC labs 0 > 0:=fun h=>hq ⟨e1,h⟩
   have hgl:(aJ labs)[0]? =some (I6 (aC labs 0)):=al (by omega)
   have hbf:dB .i64 .gtr (aC labs 0) 0=some (.bool false):=by simp [dB];omega
   (apply aH rfl rfl rfl;(exact ae rfl rfl);apply aH rfl rfl rfl;(first | exact aD rfl rfl rfl hbf | exact aS (j:=0) rfl rfl rfl rfl rfl (by as_aux_lemma=>kernel_rfl) hrow rfl (by omega) hilm | exact aN rfl (by as_aux_lemma=>kernel_rfl) rfl rfl rfl hrow hgl);apply aH rfl rfl rfl;(first | exact aD rfl rfl rfl hbf | exact aS (j:=0) rfl rfl rfl rfl rfl (by as_aux_lemma=>kernel_rfl) hrow rfl (by omega) hilm | exact aN rfl (by as_aux_lemma=>kernel_rfl) rfl rfl rfl hrow hgl);apply aH rfl rfl rfl;(first | exact aD rfl rfl rfl hbf | exact aS (j:=0) rfl rfl rfl rfl rfl (by as_aux_lemma=>kernel_rfl) hrow rfl (by omega) hilm | exact aN rfl (by as_aux_lemma=>kernel_rfl) rfl rfl rfl hrow hgl);apply aa rfl;(exact bf rfl rfl rfl);apply aa rfl;(exact ag rfl rfl);refine aj ?_)
   exact aL (Wk.of ⟨rfl,rfl,rfl,trivial⟩ ⟨rfl,trivial⟩ trivial)
  ·(apply aG rfl rfl rfl rfl rfl;apply aG rfl rfl rfl rfl rfl;apply aG rfl rfl rfl rfl rfl;apply aG rfl rfl rfl rfl rfl;apply aa rfl;(exact br rfl rfl rfl);apply aa rfl;(exact ag rfl rfl);refine aj ?_)
   exact aL (Wk.of ⟨rfl,rfl,rfl,trivial⟩ ⟨rfl,trivial⟩ trivial)
 (refine ai ?_)
 refine au rfl (fun e=>by cases e) (fun _=> ?_)
 (refine ah ?_;refine ab ?_;apply aa rfl;(exact ae rfl rfl);apply aa rfl;(exact cr (E:=2) rfl (by as_aux_lemma=>kernel_rfl) rfl rfl);apply aa rfl;(first | (apply ak 77;exact aq hE1 (by as_aux_lemma=>kernel_rfl) rfl rfl ⟨rfl,rfl,trivial⟩ ⟨⟨_,rfl, .inl rfl⟩,⟨_,rfl, .inr rfl⟩,trivial⟩ rfl rfl) | exact aO (E:=2) rfl (by as_aux_lemma=>kernel_rfl) rfl rfl rfl | exact aP (E:=2) rfl (by as_aux_lemma=>kernel_rfl) rfl rfl rfl rfl);apply aa rfl;(exact ag rfl rfl);refine aj ?_;refine ai ?_)
 refine au rfl (fun _=> ?_) (fun e=>by cases e)
 (refine ah ?_;refine ab ?_;apply aa rfl;(first | exact aO (E:=2) rfl (by as_aux_lemma=>kernel_rfl) rfl rfl rfl | exact aP (E:=2) rfl (by as_aux_lemma=>kernel_rfl) rfl rfl rfl rfl);apply aa rfl;(exact ag rfl rfl);refine aj ?_;refine ai ?_;refine aW ?_;refine bj ?_;refine aT ?_)
 exact bd (.inl rfl) rfl (.tmp rfl) ⟨rfl,trivial⟩ trivial
set_option maxRecDepth 100000 in
set_option maxHeartbeats 2000000 in
theorem yq (zss:List (List Int)) (i m:Nat) (labs:List Int) (hi:i < zss.length) (hlb:bu zss i=labs) (hm:labs.length=m) (hm4:m≤4) (h0:0 < m) (hq:¬(m=1∧0 < aC labs 0)) (e1:bA labs [3,5]=false) (e2:bA labs [3,3,5]=true):
  FC Try.prog 59 [(1000,aV zss)] [o1 (.esl 1000 i 0 m)] [(38,bw [2,12,20,30])] (o1 (.sl 38 0 4)) []:=by
 have hrow:(bK zss)[i]? =some (aJ labs):=by rw [←hlb];exact ar hi
 have hilm:m≤(aJ labs).length:=by rw [an,hm];exact Nat.le_refl _
 have hE1:=(bt zss i m 2 labs [3,5] hi hlb hm rfl (by omega) (by omega)).nm [(1000,1000),(1001,31)] (by kernel_rfl)
 have hE1:FC Try.prog 77 [(1000,aV zss),(31,de [3,5])] [o1 (.esl 1000 i 0 m),o1 (.sl 31 0 2)] [] (vv (.bool (bA labs [3,5]))) []:=hE1
 rw [e1] at hE1
 have hE2:=(bt zss i m 3 labs [3,3,5] hi hlb hm rfl (by omega) (by omega)).nm [(1000,1000),(1001,36)] (by kernel_rfl)
 have hE2:FC Try.prog 77 [(1000,aV zss),(36,de [3,3,5])] [o1 (.esl 1000 i 0 m),o1 (.sl 36 0 3)] [] (vv (.bool (bA labs [3,3,5]))) []:=hE2
 rw [e2] at hE2
 refine bc (nt:=97) Try.func59 rfl rfl (by simp) fun w0 ω0=> ?_
 have hw1:IntKind.i64.wrap ((m:Int) + 1)=(m:Int) + 1:=IntWalk.i64_in _ (by omega)
 (refine ah ?_;refine ab ?_;apply aa rfl;(exact ag rfl rfl);refine aj ?_;refine ai ?_;refine ah ?_;refine ab ?_;apply aa rfl;(exact ae rfl rfl);apply aa rfl;(exact a8 rfl rfl rfl (by as_aux_lemma=>kernel_rfl));apply aa rfl;(exact aR rfl rfl rfl hw1);apply aa rfl;(exact ag rfl rfl);refine aj ?_;refine ai ?_;refine ah ?_;refine aB ?_;refine ah ?_;refine ab ?_;apply aa rfl;(exact ae rfl rfl);apply aa rfl;(exact aD rfl rfl rfl rfl);apply aa rfl;(exact ag rfl rfl);refine aj ?_;refine ai ?_)
 refine au rfl (fun e=> ?_) (fun _=> ?_)
 ·exfalso;simp at e;omega
 (repeat (first | refine ah ?_ | refine ai ?_ | refine aI ?_ | refine aB ?_ | refine aK ?_ | refine a5 ?_ | refine aM ?_ | refine bZ rfl ?_ | refine ax ?_))
 refine cg (St.of [(0,o1 (.esl 1000 i 0 m)),(3,vv (I6 ((m:Int) + 1))),(16,vv (.bool false))] [(1000,aV zss)]) ?_ ?_
 ·refine ab ?_
  (apply aa rfl;(exact ae rfl rfl);apply aa rfl;(exact aD rfl rfl rfl rfl);apply aa rfl;(exact ae rfl rfl))
  refine bH 19 rfl (fun e1=> ?_) (fun e1=> ?_)
  ·have e1:m=1:=by simp at e1;omega
   have hg2:¬aC labs 0 > 0:=fun h=>hq ⟨e1,h⟩
   have hgl:(aJ labs)[0]? =some (I6 (aC labs 0)):=al (by omega)
   have hbf:dB .i64 .gtr (aC labs 0) 0=some (.bool false):=by simp [dB];omega
   (apply aH rfl rfl rfl;(exact ae rfl rfl);apply aH rfl rfl rfl;(first | exact aD rfl rfl rfl hbf | exact aS (j:=0) rfl rfl rfl rfl rfl (by as_aux_lemma=>kernel_rfl) hrow rfl (by omega) hilm | exact aN rfl (by as_aux_lemma=>kernel_rfl) rfl rfl rfl hrow hgl);apply aH rfl rfl rfl;(first | exact aD rfl rfl rfl hbf | exact aS (j:=0) rfl rfl rfl rfl rfl (by as_aux_lemma=>kernel_rfl) hrow rfl (by omega) hilm | exact aN rfl (by as_aux_lemma=>kernel_rfl) rfl rfl rfl hrow hgl);apply aH rfl rfl rfl;(first | exact aD rfl rfl rfl hbf | exact aS (j:=0) rfl rfl rfl rfl rfl (by as_aux_lemma=>kernel_rfl) hrow rfl (by omega) hilm | exact aN rfl (by as_aux_lemma=>kernel_rfl) rfl rfl rfl hrow hgl);apply aa rfl;(exact bf rfl rfl rfl);apply aa rfl;(exact ag rfl rfl);refine aj ?_)
   exact aL (Wk.of ⟨rfl,rfl,rfl,trivial⟩ ⟨rfl,trivial⟩ trivial)
  ·(apply aG rfl rfl rfl rfl rfl;apply aG rfl rfl rfl rfl rfl;apply aG rfl rfl rfl rfl rfl;apply aG rfl rfl rfl rfl rfl;apply aa rfl;(exact br rfl rfl rfl);apply aa rfl;(exact ag rfl rfl);refine aj ?_)
   exact aL (Wk.of ⟨rfl,rfl,rfl,trivial⟩ ⟨rfl,trivial⟩ trivial)
 (refine ai ?_)
 refine au rfl (fun e=>by cases e) (fun _=> ?_)
 (refine ah ?_;refine ab ?_;apply aa rfl;(exact ae rfl rfl);apply aa rfl;(exact cr (E:=2) rfl (by as_aux_lemma=>kernel_rfl) rfl rfl);apply aa rfl;(first | (apply ak 77;exact aq hE1 (by as_aux_lemma=>kernel_rfl) rfl rfl ⟨rfl,rfl,trivial⟩ ⟨⟨_,rfl, .inl rfl⟩,⟨_,rfl, .inr rfl⟩,trivial⟩ rfl rfl) | exact aO (E:=2) rfl (by as_aux_lemma=>kernel_rfl) rfl rfl rfl | exact aP (E:=2) rfl (by as_aux_lemma=>kernel_rfl) rfl rfl rfl rfl);apply aa rfl;(exact ag rfl rfl);refine aj ?_;refine ai ?_)
 refine au rfl (fun e=>by cases e) (fun _=> ?_)
 (refine ah ?_;refine ab ?_;apply aa rfl;(exact ae rfl rfl);apply aa rfl;(first | (apply ak 77;exact aq hE2 (by as_aux_lemma=>kernel_rfl) rfl rfl ⟨rfl,rfl,trivial⟩ ⟨⟨_,rfl, .inl rfl⟩,⟨_,rfl, .inr rfl⟩,trivial⟩ rfl rfl) | exact aO (E:=2) rfl (by as_aux_lemma=>kernel_rfl) rfl rfl rfl | exact aP (E:=2) rfl (by as_aux_lemma=>kernel_rfl) rfl rfl rfl rfl);apply aa rfl;(first | (apply ak 77;exact aq hE2 (by as_aux_lemma=>kernel_rfl) rfl rfl ⟨rfl,rfl,trivial⟩ ⟨⟨_,rfl, .inl rfl⟩,⟨_,rfl, .inr rfl⟩,trivial⟩ rfl rfl) | exact aO (E:=2) rfl (by as_aux_lemma=>kernel_rfl) rfl rfl rfl | exact aP (E:=2) rfl (by as_aux_lemma=>kernel_rfl) rfl rfl rfl rfl);apply aa rfl;(exact ag rfl rfl);refine aj ?_;refine ai ?_)
 refine au rfl (fun _=> ?_) (fun e=>by cases e)
 (refine ah ?_;refine ab ?_;apply aa rfl;(first | exact aO (E:=2) rfl (by as_aux_lemma=>kernel_rfl) rfl rfl rfl | exact aP (E:=2) rfl (by as_aux_lemma=>kernel_rfl) rfl rfl rfl rfl);apply aa rfl;(exact ag rfl rfl);refine aj ?_;refine ai ?_;refine aW ?_;refine bj ?_;refine aT ?_)
 exact bd (.inl rfl) rfl (.tmp rfl) ⟨rfl,trivial⟩ trivial
set_option maxRecDepth 100000 in
set_option maxHeartbeats 2000000 in
theorem z7 (zss:List (List Int)) (i m:Nat) (labs:List Int) (hi:i < zss.length) (hlb:bu zss i=labs) (hm:labs.length=m) (hm4:m≤4) (h0:0 < m) (hq:¬(m=1∧0 < aC labs 0)) (e1:bA labs [3,5]=false) (e2:bA labs [3,3,5]=false) (e3:bA labs [3,4,3]=true):
  FC Try.prog 59 [(1000,aV zss)] [o1 (.esl 1000 i 0 m)] [(43,bw [2,6,8,12])] (o1 (.sl 43 0 4)) []:=by
 have hrow:(bK zss)[i]? =some (aJ labs):=by rw [←hlb];exact ar hi
 have hilm:m≤(aJ labs).length:=by rw [an,hm];exact Nat.le_refl _
 have hE1:=(bt zss i m 2 labs [3,5] hi hlb hm rfl (by omega) (by omega)).nm [(1000,1000),(1001,31)] (by kernel_rfl)
 have hE1:FC Try.prog 77 [(1000,aV zss),(31,de [3,5])] [o1 (.esl 1000 i 0 m),o1 (.sl 31 0 2)] [] (vv (.bool (bA labs [3,5]))) []:=hE1
 rw [e1] at hE1
 have hE2:=(bt zss i m 3 labs [3,3,5] hi hlb hm rfl (by omega) (by omega)).nm [(1000,1000),(1001,36)] (by kernel_rfl)
 have hE2:FC Try.prog 77 [(1000,aV zss),(36,de [3,3,5])] [o1 (.esl 1000 i 0 m),o1 (.sl 36 0 3)] [] (vv (.bool (bA labs [3,3,5]))) []:=hE2
 rw [e2] at hE2
 have hE3:=(bt zss i m 3 labs [3,4,3] hi hlb hm rfl (by omega) (by omega)).nm [(1000,1000),(1001,41)] (by kernel_rfl)
 have hE3:FC Try.prog 77 [(1000,aV zss),(41,de [3,4,3])] [o1 (.esl 1000 i 0 m),o1 (.sl 41 0 3)] [] (vv (.bool (bA labs [3,4,3]))) []:=hE3
 rw [e3] at hE3
 refine bc (nt:=97) Try.func59 rfl rfl (by simp) fun w0 ω0=> ?_
 have hw1:IntKind.i64.wrap ((m:Int) + 1)=(m:Int) + 1:=IntWalk.i64_in _ (by omega)
 (refine ah ?_;refine ab ?_;apply aa rfl;(exact ag rfl rfl);refine aj ?_;refine ai ?_;refine ah ?_;refine ab ?_;apply aa rfl;(exact ae rfl rfl);apply aa rfl;(exact a8 rfl rfl rfl (by as_aux_lemma=>kernel_rfl));apply aa rfl;(exact aR rfl rfl rfl hw1);apply aa rfl;(exact ag rfl rfl);refine aj ?_;refine ai ?_;refine ah ?_;refine aB ?_;refine ah ?_;refine ab ?_;apply aa rfl;(exact ae rfl rfl);apply aa rfl;(exact aD rfl rfl rfl rfl);apply aa rfl;(exact ag rfl rfl);refine aj ?_;refine ai ?_)
 refine au rfl (fun e=> ?_) (fun _=> ?_)
 ·exfalso;simp at e;omega
 (repeat (first | refine ah ?_ | refine ai ?_ | refine aI ?_ | refine aB ?_ | refine aK ?_ | refine a5 ?_ | refine aM ?_ | refine bZ rfl ?_ | refine ax ?_))
 refine cg (St.of [(0,o1 (.esl 1000 i 0 m)),(3,vv (I6 ((m:Int) + 1))),(16,vv (.bool false))] [(1000,aV zss)]) ?_ ?_
 ·refine ab ?_
  (apply aa rfl;(exact ae rfl rfl);apply aa rfl;(exact aD rfl rfl rfl rfl);apply aa rfl;(exact ae rfl rfl))
  refine bH 19 rfl (fun e1=> ?_) (fun e1=> ?_)
  ·have e1:m=1:=by simp at e1;omega
   have hg2:¬aC labs 0 > 0:=fun h=>hq ⟨e1,h⟩
   have hgl:(aJ labs)[0]? =some (I6 (aC labs 0)):=al (by omega)
   have hbf:dB .i64 .gtr (aC labs 0) 0=some (.bool false):=by simp [dB];omega
   (apply aH rfl rfl rfl;(exact ae rfl rfl);apply aH rfl rfl rfl;(first | exact aD rfl rfl rfl hbf | exact aS (j:=0) rfl rfl rfl rfl rfl (by as_aux_lemma=>kernel_rfl) hrow rfl (by omega) hilm | exact aN rfl (by as_aux_lemma=>kernel_rfl) rfl rfl rfl hrow hgl);apply aH rfl rfl rfl;(first | exact aD rfl rfl rfl hbf | exact aS (j:=0) rfl rfl rfl rfl rfl (by as_aux_lemma=>kernel_rfl) hrow rfl (by omega) hilm | exact aN rfl (by as_aux_lemma=>kernel_rfl) rfl rfl rfl hrow hgl);apply aH rfl rfl rfl;(first | exact aD rfl rfl rfl hbf | exact aS (j:=0) rfl rfl rfl rfl rfl (by as_aux_lemma=>kernel_rfl) hrow rfl (by omega) hilm | exact aN rfl (by as_aux_lemma=>kernel_rfl) rfl rfl rfl hrow hgl);apply aa rfl;(exact bf rfl rfl rfl);apply aa rfl;(exact ag rfl rfl);refine aj ?_)
   exact aL (Wk.of ⟨rfl,rfl,rfl,trivial⟩ ⟨rfl,trivial⟩ trivial)
  ·(apply aG rfl rfl rfl rfl rfl;apply aG rfl rfl rfl rfl rfl;apply aG rfl rfl rfl rfl rfl;apply aG rfl rfl rfl rfl rfl;apply aa rfl;(exact br rfl rfl rfl);apply aa rfl;(exact ag rfl rfl);refine aj ?_)
   exact aL (Wk.of ⟨rfl,rfl,rfl,trivial⟩ ⟨rfl,trivial⟩ trivial)
 (refine ai ?_)
 refine au rfl (fun e=>by cases e) (fun _=> ?_)
 (refine ah ?_;refine ab ?_;apply aa rfl;(exact ae rfl rfl);apply aa rfl;(exact cr (E:=2) rfl (by as_aux_lemma=>kernel_rfl) rfl rfl);apply aa rfl;(first | (apply ak 77;exact aq hE1 (by as_aux_lemma=>kernel_rfl) rfl rfl ⟨rfl,rfl,trivial⟩ ⟨⟨_,rfl, .inl rfl⟩,⟨_,rfl, .inr rfl⟩,trivial⟩ rfl rfl) | exact aO (E:=2) rfl (by as_aux_lemma=>kernel_rfl) rfl rfl rfl | exact aP (E:=2) rfl (by as_aux_lemma=>kernel_rfl) rfl rfl rfl rfl);apply aa rfl;(exact ag rfl rfl);refine aj ?_;refine ai ?_)
 refine au rfl (fun e=>by cases e) (fun _=> ?_)
 (refine ah ?_;refine ab ?_;apply aa rfl;(exact ae rfl rfl);apply aa rfl;(first | (apply ak 77;exact aq hE2 (by as_aux_lemma=>kernel_rfl) rfl rfl ⟨rfl,rfl,trivial⟩ ⟨⟨_,rfl, .inl rfl⟩,⟨_,rfl, .inr rfl⟩,trivial⟩ rfl rfl) | exact aO (E:=2) rfl (by as_aux_lemma=>kernel_rfl) rfl rfl rfl | exact aP (E:=2) rfl (by as_aux_lemma=>kernel_rfl) rfl rfl rfl rfl);apply aa rfl;(first | (apply ak 77;exact aq hE2 (by as_aux_lemma=>kernel_rfl) rfl rfl ⟨rfl,rfl,trivial⟩ ⟨⟨_,rfl, .inl rfl⟩,⟨_,rfl, .inr rfl⟩,trivial⟩ rfl rfl) | exact aO (E:=2) rfl (by as_aux_lemma=>kernel_rfl) rfl rfl rfl | exact aP (E:=2) rfl (by as_aux_lemma=>kernel_rfl) rfl rfl rfl rfl);apply aa rfl;(exact ag rfl rfl);refine aj ?_;refine ai ?_)
 refine au rfl (fun e=>by cases e) (fun _=> ?_)
 (refine ah ?_;refine ab ?_;apply aa rfl;(exact ae rfl rfl);apply aa rfl;(first | (apply ak 77;exact aq hE3 (by as_aux_lemma=>kernel_rfl) rfl rfl ⟨rfl,rfl,trivial⟩ ⟨⟨_,rfl, .inl rfl⟩,⟨_,rfl, .inr rfl⟩,trivial⟩ rfl rfl) | exact aO (E:=2) rfl (by as_aux_lemma=>kernel_rfl) rfl rfl rfl | exact aP (E:=2) rfl (by as_aux_lemma=>kernel_rfl) rfl rfl rfl rfl);apply aa rfl;(first | (apply ak 77;exact aq hE3 (by as_aux_lemma=>kernel_rfl) rfl rfl ⟨rfl,rfl,trivial⟩ ⟨⟨_,rfl, .inl rfl⟩,⟨_,rfl, .inr rfl⟩,trivial⟩ rfl rfl) | exact aO (E:=2) rfl (by as_aux_lemma=>kernel_rfl) rfl rfl rfl | exact aP (E:=2) rfl (by as_aux_lemma=>kernel_rfl) rfl rfl rfl rfl);apply aa rfl;(exact ag rfl rfl);refine aj ?_;refine ai ?_)
 refine au rfl (fun _=> ?_) (fun e=>by cases e)
 (refine ah ?_;refine ab ?_;apply aa rfl;(first | exact aO (E:=2) rfl (by as_aux_lemma=>kernel_rfl) rfl rfl rfl | exact aP (E:=2) rfl (by as_aux_lemma=>kernel_rfl) rfl rfl rfl rfl);apply aa rfl;(exact ag rfl rfl);refine aj ?_;refine ai ?_;refine aW ?_;refine bj ?_;refine aT ?_)
 exact bd (.inl rfl) rfl (.tmp rfl) ⟨rfl,trivial⟩ trivial
set_option maxRecDepth 100000 in
set_option maxHeartbeats 2000000 in
theorem yG (zss:List (List Int)) (i m:Nat) (labs:List Int) (hi:i < zss.length) (hlb:bu zss i=labs) (hm:labs.length=m) (hm4:m≤4) (h0:0 < m) (hq:¬(m=1∧0 < aC labs 0)) (e1:bA labs [3,5]=false) (e2:bA labs [3,3,5]=false) (e3:bA labs [3,4,3]=false) (h1:m=1):
  FC Try.prog 59 [(1000,aV zss)] [o1 (.esl 1000 i 0 m)] [] (vv (.slice none 0 0)) []:=by
 have hrow:(bK zss)[i]? =some (aJ labs):=by rw [←hlb];exact ar hi
 have hilm:m≤(aJ labs).length:=by rw [an,hm];exact Nat.le_refl _
 have hE1:=(bt zss i m 2 labs [3,5] hi hlb hm rfl (by omega) (by omega)).nm [(1000,1000),(1001,31)] (by kernel_rfl)
 have hE1:FC Try.prog 77 [(1000,aV zss),(31,de [3,5])] [o1 (.esl 1000 i 0 m),o1 (.sl 31 0 2)] [] (vv (.bool (bA labs [3,5]))) []:=hE1
 rw [e1] at hE1
 have hE2:=(bt zss i m 3 labs [3,3,5] hi hlb hm rfl (by omega) (by omega)).nm [(1000,1000),(1001,36)] (by kernel_rfl)
 have hE2:FC Try.prog 77 [(1000,aV zss),(36,de [3,3,5])] [o1 (.esl 1000 i 0 m),o1 (.sl 36 0 3)] [] (vv (.bool (bA labs [3,3,5]))) []:=hE2
 rw [e2] at hE2
 have hE3:=(bt zss i m 3 labs [3,4,3] hi hlb hm rfl (by omega) (by omega)).nm [(1000,1000),(1001,41)] (by kernel_rfl)
 have hE3:FC Try.prog 77 [(1000,aV zss),(41,de [3,4,3])] [o1 (.esl 1000 i 0 m),o1 (.sl 41 0 3)] [] (vv (.bool (bA labs [3,4,3]))) []:=hE3
 rw [e3] at hE3
 refine bc (nt:=97) Try.func59 rfl rfl (by simp) fun w0 ω0=> ?_
 have hw1:IntKind.i64.wrap ((m:Int) + 1)=(m:Int) + 1:=IntWalk.i64_in _ (by omega)
 (refine ah ?_;refine ab ?_;apply aa rfl;(exact ag rfl rfl);refine aj ?_;refine ai ?_;refine ah ?_;refine ab ?_;apply aa rfl;(exact ae rfl rfl);apply aa rfl;(exact a8 rfl rfl rfl (by as_aux_lemma=>kernel_rfl));apply aa rfl;(exact aR rfl rfl rfl hw1);apply aa rfl;(exact ag rfl rfl);refine aj ?_;refine ai ?_;refine ah ?_;refine aB ?_;refine ah ?_;refine ab ?_;apply aa rfl;(exact ae rfl rfl);apply aa rfl;(exact aD rfl rfl rfl rfl);apply aa rfl;(exact ag rfl rfl);refine aj ?_;refine ai ?_)
 refine au rfl (fun e=> ?_) (fun _=> ?_)
 ·exfalso;simp at e;omega
 (repeat (first | refine ah ?_ | refine ai ?_ | refine aI ?_ | refine aB ?_ | refine aK ?_ | refine a5 ?_ | refine aM ?_ | refine bZ rfl ?_ | refine ax ?_))
 refine cg (St.of [(0,o1 (.esl 1000 i 0 m)),(3,vv (I6 ((m:Int) + 1))),(16,vv (.bool false))] [(1000,aV zss)]) ?_ ?_
 ·refine ab ?_
  (apply aa rfl;(exact ae rfl rfl);apply aa rfl;(exact aD rfl rfl rfl rfl);apply aa rfl;(exact ae rfl rfl))
  refine bH 19 rfl (fun e1=> ?_) (fun e1=> ?_)
  ·have e1:m=1:=by simp at e1;omega
   have hg2:¬aC labs 0 > 0:=fun h=>hq ⟨e1,h⟩
   have hgl:(aJ labs)[0]? =some (I6 (aC labs 0)):=al (by omega)
   have hbf:dB .i64 .gtr (aC labs 0) 0=some (.bool false):=by simp [dB];omega
   (apply aH rfl rfl rfl;(exact ae rfl rfl);apply aH rfl rfl rfl;(first | exact aD rfl rfl rfl hbf | exact aS (j:=0) rfl rfl rfl rfl rfl (by as_aux_lemma=>kernel_rfl) hrow rfl (by omega) hilm | exact aN rfl (by as_aux_lemma=>kernel_rfl) rfl rfl rfl hrow hgl);apply aH rfl rfl rfl;(first | exact aD rfl rfl rfl hbf | exact aS (j:=0) rfl rfl rfl rfl rfl (by as_aux_lemma=>kernel_rfl) hrow rfl (by omega) hilm | exact aN rfl (by as_aux_lemma=>kernel_rfl) rfl rfl rfl hrow hgl);apply aH rfl rfl rfl;(first | exact aD rfl rfl rfl hbf | exact aS (j:=0) rfl rfl rfl rfl rfl (by as_aux_lemma=>kernel_rfl) hrow rfl (by omega) hilm | exact aN rfl (by as_aux_lemma=>kernel_rfl) rfl rfl rfl hrow hgl);apply aa rfl;(exact bf rfl rfl rfl);apply aa rfl;(exact ag rfl rfl);refine aj ?_)
   exact aL (Wk.of ⟨rfl,rfl,rfl,trivial⟩ ⟨rfl,trivial⟩ trivial)
  ·(apply aG rfl rfl rfl rfl rfl;apply aG rfl rfl rfl rfl rfl;apply aG rfl rfl rfl rfl rfl;apply aG rfl rfl rfl rfl rfl;apply aa rfl;(exact br rfl rfl rfl);apply aa rfl;(exact ag rfl rfl);refine aj ?_)
   exact aL (Wk.of ⟨rfl,rfl,rfl,trivial⟩ ⟨rfl,trivial⟩ trivial)
 (refine ai ?_)
 refine au rfl (fun e=>by cases e) (fun _=> ?_)
 (refine ah ?_;refine ab ?_;apply aa rfl;(exact ae rfl rfl);apply aa rfl;(exact cr (E:=2) rfl (by as_aux_lemma=>kernel_rfl) rfl rfl);apply aa rfl;(first | (apply ak 77;exact aq hE1 (by as_aux_lemma=>kernel_rfl) rfl rfl ⟨rfl,rfl,trivial⟩ ⟨⟨_,rfl, .inl rfl⟩,⟨_,rfl, .inr rfl⟩,trivial⟩ rfl rfl) | exact aO (E:=2) rfl (by as_aux_lemma=>kernel_rfl) rfl rfl rfl | exact aP (E:=2) rfl (by as_aux_lemma=>kernel_rfl) rfl rfl rfl rfl);apply aa rfl;(exact ag rfl rfl);refine aj ?_;refine ai ?_)
 refine au rfl (fun e=>by cases e) (fun _=> ?_)
 (refine ah ?_;refine ab ?_;apply aa rfl;(exact ae rfl rfl);apply aa rfl;(first | (apply ak 77;exact aq hE2 (by as_aux_lemma=>kernel_rfl) rfl rfl ⟨rfl,rfl,trivial⟩ ⟨⟨_,rfl, .inl rfl⟩,⟨_,rfl, .inr rfl⟩,trivial⟩ rfl rfl) | exact aO (E:=2) rfl (by as_aux_lemma=>kernel_rfl) rfl rfl rfl | exact aP (E:=2) rfl (by as_aux_lemma=>kernel_rfl) rfl rfl rfl rfl);apply aa rfl;(first | (apply ak 77;exact aq hE2 (by as_aux_lemma=>kernel_rfl) rfl rfl ⟨rfl,rfl,trivial⟩ ⟨⟨_,rfl, .inl rfl⟩,⟨_,rfl, .inr rfl⟩,trivial⟩ rfl rfl) | exact aO (E:=2) rfl (by as_aux_lemma=>kernel_rfl) rfl rfl rfl | exact aP (E:=2) rfl (by as_aux_lemma=>kernel_rfl) rfl rfl rfl rfl);apply aa rfl;(exact ag rfl rfl);refine aj ?_;refine ai ?_)
 refine au rfl (fun e=>by cases e) (fun _=> ?_)
 (refine ah ?_;refine ab ?_;apply aa rfl;(exact ae rfl rfl);apply aa rfl;(first | (apply ak 77;exact aq hE3 (by as_aux_lemma=>kernel_rfl) rfl rfl ⟨rfl,rfl,trivial⟩ ⟨⟨_,rfl, .inl rfl⟩,⟨_,rfl, .inr rfl⟩,trivial⟩ rfl rfl) | exact aO (E:=2) rfl (by as_aux_lemma=>kernel_rfl) rfl rfl rfl | exact aP (E:=2) rfl (by as_aux_lemma=>kernel_rfl) rfl rfl rfl rfl);apply aa rfl;(first | (apply ak 77;exact aq hE3 (by as_aux_lemma=>kernel_rfl) rfl rfl ⟨rfl,rfl,trivial⟩ ⟨⟨_,rfl, .inl rfl⟩,⟨_,rfl, .inr rfl⟩,trivial⟩ rfl rfl) | exact aO (E:=2) rfl (by as_aux_lemma=>kernel_rfl) rfl rfl rfl | exact aP (E:=2) rfl (by as_aux_lemma=>kernel_rfl) rfl rfl rfl rfl);apply aa rfl;(exact ag rfl rfl);refine aj ?_;refine ai ?_)
 refine au rfl (fun e=>by cases e) (fun _=> ?_)
 (refine aI ?_;refine aK ?_;refine ai ?_;refine ah ?_;refine ah ?_;refine ab ?_;apply aa rfl;(exact ae rfl rfl);apply aa rfl;(exact aD rfl rfl rfl rfl);refine aj ?_;refine ai ?_)
 refine au rfl (fun _=> ?_) (fun e=> ?_)
 ·(refine ah ?_;refine ab ?_;apply aa rfl;(exact ag rfl rfl);refine aj ?_;refine ai ?_;refine aW ?_;refine aT ?_)
  exact bd (.inl rfl) rfl (.tmp rfl) trivial trivial
 ·exfalso;simp at e;omega
theorem gR {labs:List Int} (h:eE labs=true) {k:Nat} (hk:k < labs.length - 1):aC (ends labs) k=3:=by
 unfold eE at h
 have:=(List.all_eq_true.1 h) k (List.mem_range.2 hk)
 simpa using this
theorem qB {labs:List Int} (h:∀q,q < labs.length - 1→aC (ends labs) q=3):eE labs=true:=by
 unfold eE
 rw [List.all_eq_true]
 intro q hq
 have:=h q (List.mem_range.1 hq)
 simpa using this
set_option maxRecDepth 100000 in
set_option maxHeartbeats 2000000 in
theorem uL (zss:List (List Int)) (i m:Nat) (labs:List Int) (hi:i < zss.length) (hlb:bu zss i=labs) (hm:labs.length=m) (hm4:m≤4) (h0:0 < m) (hq:¬(m=1∧0 < aC labs 0)) (e1:bA labs [3,5]=false) (e2:bA labs [3,3,5]=false) (e3:bA labs [3,4,3]=false) (h2:2≤m) (hA:aC labs 0=3) (ht:eE labs=false):
  FC Try.prog 59 [(1000,aV zss)] [o1 (.esl 1000 i 0 m)] [] (vv (.slice none 0 0)) []:=by
 have hrow:(bK zss)[i]? =some (aJ labs):=by rw [←hlb];exact ar hi
 have hilm:m≤(aJ labs).length:=by rw [an,hm];exact Nat.le_refl _
 have hE1:=(bt zss i m 2 labs [3,5] hi hlb hm rfl (by omega) (by omega)).nm [(1000,1000),(1001,31)] (by kernel_rfl)
 have hE1:FC Try.prog 77 [(1000,aV zss),(31,de [3,5])] [o1 (.esl 1000 i 0 m),o1 (.sl 31 0 2)] [] (vv (.bool (bA labs [3,5]))) []:=hE1
 rw [e1] at hE1
 have hE2:=(bt zss i m 3 labs [3,3,5] hi hlb hm rfl (by omega) (by omega)).nm [(1000,1000),(1001,36)] (by kernel_rfl)
 have hE2:FC Try.prog 77 [(1000,aV zss),(36,de [3,3,5])] [o1 (.esl 1000 i 0 m),o1 (.sl 36 0 3)] [] (vv (.bool (bA labs [3,3,5]))) []:=hE2
 rw [e2] at hE2
 have hE3:=(bt zss i m 3 labs [3,4,3] hi hlb hm rfl (by omega) (by omega)).nm [(1000,1000),(1001,41)] (by kernel_rfl)
 have hE3:FC Try.prog 77 [(1000,aV zss),(41,de [3,4,3])] [o1 (.esl 1000 i 0 m),o1 (.sl 41 0 3)] [] (vv (.bool (bA labs [3,4,3]))) []:=hE3
 rw [e3] at hE3
 refine bc (nt:=97) Try.func59 rfl rfl (by simp) fun w0 ω0=> ?_
 have hgl:(aJ labs)[0]? =some (I6 (aC labs 0)):=al (by omega)
 have hE:ends labs=labs:=by unfold ends;rw [if_pos hA]
 have hw1:IntKind.i64.wrap ((m:Int) + 1)=(m:Int) + 1:=IntWalk.i64_in _ (by omega)
 (refine ah ?_;refine ab ?_;apply aa rfl;(exact ag rfl rfl);refine aj ?_;refine ai ?_;refine ah ?_;refine ab ?_;apply aa rfl;(exact ae rfl rfl);apply aa rfl;(exact a8 rfl rfl rfl (by as_aux_lemma=>kernel_rfl));apply aa rfl;(exact aR rfl rfl rfl hw1);apply aa rfl;(exact ag rfl rfl);refine aj ?_;refine ai ?_;refine ah ?_;refine aB ?_;refine ah ?_;refine ab ?_;apply aa rfl;(exact ae rfl rfl);apply aa rfl;(exact aD rfl rfl rfl rfl);apply aa rfl;(exact ag rfl rfl);refine aj ?_;refine ai ?_)
 refine au rfl (fun e=> ?_) (fun _=> ?_)
 ·exfalso;simp at e;omega
 (repeat (first | refine ah ?_ | refine ai ?_ | refine aI ?_ | refine aB ?_ | refine aK ?_ | refine a5 ?_ | refine aM ?_ | refine bZ rfl ?_ | refine ax ?_))
 refine cg (St.of [(0,o1 (.esl 1000 i 0 m)),(3,vv (I6 ((m:Int) + 1))),(16,vv (.bool false))] [(1000,aV zss)]) ?_ ?_
 ·refine ab ?_
  (apply aa rfl;(exact ae rfl rfl);apply aa rfl;(exact aD rfl rfl rfl rfl);apply aa rfl;(exact ae rfl rfl))
  refine bH 19 rfl (fun e1=> ?_) (fun e1=> ?_)
  ·have e1:m=1:=by simp at e1;omega
   have hg2:¬aC labs 0 > 0:=fun h=>hq ⟨e1,h⟩
   have hgl:(aJ labs)[0]? =some (I6 (aC labs 0)):=al (by omega)
   have hbf:dB .i64 .gtr (aC labs 0) 0=some (.bool false):=by simp [dB];omega
   (apply aH rfl rfl rfl;(exact ae rfl rfl);apply aH rfl rfl rfl;(first | exact aD rfl rfl rfl hbf | exact aS (j:=0) rfl rfl rfl rfl rfl (by as_aux_lemma=>kernel_rfl) hrow rfl (by omega) hilm | exact aN rfl (by as_aux_lemma=>kernel_rfl) rfl rfl rfl hrow hgl);apply aH rfl rfl rfl;(first | exact aD rfl rfl rfl hbf | exact aS (j:=0) rfl rfl rfl rfl rfl (by as_aux_lemma=>kernel_rfl) hrow rfl (by omega) hilm | exact aN rfl (by as_aux_lemma=>kernel_rfl) rfl rfl rfl hrow hgl);apply aH rfl rfl rfl;(first | exact aD rfl rfl rfl hbf | exact aS (j:=0) rfl rfl rfl rfl rfl (by as_aux_lemma=>kernel_rfl) hrow rfl (by omega) hilm | exact aN rfl (by as_aux_lemma=>kernel_rfl) rfl rfl rfl hrow hgl);apply aa rfl;(exact bf rfl rfl rfl);apply aa rfl;(exact ag rfl rfl);refine aj ?_)
   exact aL (Wk.of ⟨rfl,rfl,rfl,trivial⟩ ⟨rfl,trivial⟩ trivial)
  ·(apply aG rfl rfl rfl rfl rfl;apply aG rfl rfl rfl rfl rfl;apply aG rfl rfl rfl rfl rfl;apply aG rfl rfl rfl rfl rfl;apply aa rfl;(exact br rfl rfl rfl);apply aa rfl;(exact ag rfl rfl);refine aj ?_)
   exact aL (Wk.of ⟨rfl,rfl,rfl,trivial⟩ ⟨rfl,trivial⟩ trivial)
 (refine ai ?_)
 refine au rfl (fun e=>by cases e) (fun _=> ?_)
 (refine ah ?_;refine ab ?_;apply aa rfl;(exact ae rfl rfl);apply aa rfl;(exact cr (E:=2) rfl (by as_aux_lemma=>kernel_rfl) rfl rfl);apply aa rfl;(first | (apply ak 77;exact aq hE1 (by as_aux_lemma=>kernel_rfl) rfl rfl ⟨rfl,rfl,trivial⟩ ⟨⟨_,rfl, .inl rfl⟩,⟨_,rfl, .inr rfl⟩,trivial⟩ rfl rfl) | exact aO (E:=2) rfl (by as_aux_lemma=>kernel_rfl) rfl rfl rfl | exact aP (E:=2) rfl (by as_aux_lemma=>kernel_rfl) rfl rfl rfl rfl);apply aa rfl;(exact ag rfl rfl);refine aj ?_;refine ai ?_)
 refine au rfl (fun e=>by cases e) (fun _=> ?_)
 (refine ah ?_;refine ab ?_;apply aa rfl;(exact ae rfl rfl);apply aa rfl;(first | (apply ak 77;exact aq hE2 (by as_aux_lemma=>kernel_rfl) rfl rfl ⟨rfl,rfl,trivial⟩ ⟨⟨_,rfl, .inl rfl⟩,⟨_,rfl, .inr rfl⟩,trivial⟩ rfl rfl) | exact aO (E:=2) rfl (by as_aux_lemma=>kernel_rfl) rfl rfl rfl | exact aP (E:=2) rfl (by as_aux_lemma=>kernel_rfl) rfl rfl rfl rfl);apply aa rfl;(first | (apply ak 77;exact aq hE2 (by as_aux_lemma=>kernel_rfl) rfl rfl ⟨rfl,rfl,trivial⟩ ⟨⟨_,rfl, .inl rfl⟩,⟨_,rfl, .inr rfl⟩,trivial⟩ rfl rfl) | exact aO (E:=2) rfl (by as_aux_lemma=>kernel_rfl) rfl rfl rfl | exact aP (E:=2) rfl (by as_aux_lemma=>kernel_rfl) rfl rfl rfl rfl);apply aa rfl;(exact ag rfl rfl);refine aj ?_;refine ai ?_)
 refine au rfl (fun e=>by cases e) (fun _=> ?_)
 (refine ah ?_;refine ab ?_;apply aa rfl;(exact ae rfl rfl);apply aa rfl;(first | (apply ak 77;exact aq hE3 (by as_aux_lemma=>kernel_rfl) rfl rfl ⟨rfl,rfl,trivial⟩ ⟨⟨_,rfl, .inl rfl⟩,⟨_,rfl, .inr rfl⟩,trivial⟩ rfl rfl) | exact aO (E:=2) rfl (by as_aux_lemma=>kernel_rfl) rfl rfl rfl | exact aP (E:=2) rfl (by as_aux_lemma=>kernel_rfl) rfl rfl rfl rfl);apply aa rfl;(first | (apply ak 77;exact aq hE3 (by as_aux_lemma=>kernel_rfl) rfl rfl ⟨rfl,rfl,trivial⟩ ⟨⟨_,rfl, .inl rfl⟩,⟨_,rfl, .inr rfl⟩,trivial⟩ rfl rfl) | exact aO (E:=2) rfl (by as_aux_lemma=>kernel_rfl) rfl rfl rfl | exact aP (E:=2) rfl (by as_aux_lemma=>kernel_rfl) rfl rfl rfl rfl);apply aa rfl;(exact ag rfl rfl);refine aj ?_;refine ai ?_)
 refine au rfl (fun e=>by cases e) (fun _=> ?_)
 (refine aI ?_;refine aK ?_;refine ai ?_;refine ah ?_;refine ah ?_;refine ab ?_;apply aa rfl;(exact ae rfl rfl);apply aa rfl;(exact aD rfl rfl rfl rfl);refine aj ?_;refine ai ?_)
 refine au rfl (fun e=> ?_) (fun _=> ?_)
 ·exfalso;simp at e;omega
 (refine aI ?_;refine ai ?_;refine ah ?_;refine ab ?_;apply aa rfl;(exact ae rfl rfl);apply aa rfl;(exact ag rfl rfl);refine aj ?_;refine ai ?_;refine ah ?_;refine ah ?_;refine ab ?_;apply aa rfl;(exact ae rfl rfl);apply aa rfl;(first | exact aS (j:=0) rfl rfl rfl rfl rfl (by as_aux_lemma=>kernel_rfl) hrow rfl (by omega) hilm | exact aN rfl (by as_aux_lemma=>kernel_rfl) rfl rfl rfl hrow hgl);apply aa rfl;(first | exact aS (j:=0) rfl rfl rfl rfl rfl (by as_aux_lemma=>kernel_rfl) hrow rfl (by omega) hilm | exact aN rfl (by as_aux_lemma=>kernel_rfl) rfl rfl rfl hrow hgl);apply aa rfl;(exact aD rfl rfl rfl rfl);refine aj ?_;refine ai ?_)
 refine au rfl (fun e=> ?_) (fun e=> ?_)
 ·exfalso;simp at e;exact e hA
 (refine aI ?_;refine ai ?_;refine ah ?_;refine ah ?_;refine ab ?_;apply aa rfl;(exact ag rfl rfl);refine aj ?_;refine ai ?_;refine aB ?_)
 refine bl (fun k:Nat=>St.of [(3,vv (I6 ((m:Int) + 1))),(4,o1 (.esl 1000 i 0 m)),(5,vv (I6 k))] [(1000,aV zss)]) (fun k=>k≤m - 1∧∀q,q < k→aC (ends labs) q=3) (fun k=>m - k) 0 ⟨Nat.zero_le _,fun q h=>absurd h (by omega)⟩ (Wk.of ⟨rfl,rfl,rfl,trivial⟩ ⟨rfl,trivial⟩ trivial) ?_
 rintro k ⟨hk,hq3⟩
 have hkm:k < m:=by omega
 have hgk:(aJ labs)[k]? =some (I6 (aC (ends labs) k)):=by rw [hE];exact al (by first | omega | (rw [List.length_reverse];omega))
 have hwk:IntKind.i64.wrap ((k:Int) + 1)=(k:Int) + 1:=IntWalk.i64_in _ (by omega)
 (refine ah ?_;refine ah ?_;refine ab ?_;apply aa rfl;(exact ae rfl rfl);apply aa rfl;(exact aR rfl rfl rfl hwk);apply aa rfl;(exact ae rfl rfl);apply aa rfl;(exact a8 rfl rfl rfl (by as_aux_lemma=>kernel_rfl));apply aa rfl;(exact aD rfl rfl rfl rfl);refine aj ?_;refine ai ?_)
 refine bF rfl (fun hlt=> ?_) (fun hlt=> ?_)
 ·(refine aI ?_;refine ai ?_;refine ah ?_;refine aB ?_;refine ah ?_;refine ab ?_;apply aa rfl;(exact ae rfl rfl);apply aa rfl;(exact ae rfl rfl);apply aa rfl;(first | exact aS (j:=k) rfl rfl rfl rfl rfl (by as_aux_lemma=>kernel_rfl) hrow rfl hkm hilm | exact aN rfl (by as_aux_lemma=>kernel_rfl) rfl rfl rfl hrow hgk);apply aa rfl;(first | exact aS (j:=k) rfl rfl rfl rfl rfl (by as_aux_lemma=>kernel_rfl) hrow rfl hkm hilm | exact aN rfl (by as_aux_lemma=>kernel_rfl) rfl rfl rfl hrow hgk);apply aa rfl;(exact aD rfl rfl rfl rfl);refine aj ?_;refine ai ?_)
  refine au rfl (fun e=> ?_) (fun e=> ?_)
  ·(refine ah ?_;refine ab ?_;apply aa rfl;(exact ag rfl rfl);refine aj ?_;refine ai ?_;refine aW ?_;refine bj ?_;refine aT ?_;refine aT ?_;refine bj ?_;refine aT ?_)
   exact bd (.inl rfl) rfl (.tmp rfl) trivial trivial
  ·have e:aC (ends labs) k=3:=by simpa using e
   (refine aI ?_;refine aK ?_;refine ai ?_;refine ab ?_;apply aa rfl;(exact ae rfl rfl);apply aa rfl;(exact aR rfl rfl rfl hwk);apply aa rfl;(exact ag rfl rfl);refine aj ?_)
   exact aX (k + 1) ⟨by omega,fun q h=>by
    by_cases e':q=k
    ·subst e';exact e
    ·exact hq3 q (by omega)⟩ (by omega) (Wk.of ⟨rfl,rfl,rfl,trivial⟩ ⟨rfl,trivial⟩ trivial)
 ·exfalso
  rw [qB (fun q h=>hq3 q (by omega))] at ht
  cases ht
set_option maxRecDepth 100000 in
set_option maxHeartbeats 2000000 in
theorem vk (zss:List (List Int)) (i m:Nat) (labs:List Int) (hi:i < zss.length) (hlb:bu zss i=labs) (hm:labs.length=m) (hm4:m≤4) (h0:0 < m) (hq:¬(m=1∧0 < aC labs 0)) (e1:bA labs [3,5]=false) (e2:bA labs [3,3,5]=false) (e3:bA labs [3,4,3]=false) (h2:2≤m) (hA:aC labs 0=3) (ht:eE labs=true) (hlast:aC (ends labs) (labs.length - 1)=3):
  FC Try.prog 59 [(1000,aV zss)] [o1 (.esl 1000 i 0 m)] [(65,bw (eZ (m + 1) 1))] (o1 (.sl 65 0 (m + 1))) []:=by
 have hrow:(bK zss)[i]? =some (aJ labs):=by rw [←hlb];exact ar hi
 have hilm:m≤(aJ labs).length:=by rw [an,hm];exact Nat.le_refl _
 have hE1:=(bt zss i m 2 labs [3,5] hi hlb hm rfl (by omega) (by omega)).nm [(1000,1000),(1001,31)] (by kernel_rfl)
 have hE1:FC Try.prog 77 [(1000,aV zss),(31,de [3,5])] [o1 (.esl 1000 i 0 m),o1 (.sl 31 0 2)] [] (vv (.bool (bA labs [3,5]))) []:=hE1
 rw [e1] at hE1
 have hE2:=(bt zss i m 3 labs [3,3,5] hi hlb hm rfl (by omega) (by omega)).nm [(1000,1000),(1001,36)] (by kernel_rfl)
 have hE2:FC Try.prog 77 [(1000,aV zss),(36,de [3,3,5])] [o1 (.esl 1000 i 0 m),o1 (.sl 36 0 3)] [] (vv (.bool (bA labs [3,3,5]))) []:=hE2
 rw [e2] at hE2
 have hE3:=(bt zss i m 3 labs [3,4,3] hi hlb hm rfl (by omega) (by omega)).nm [(1000,1000),(1001,41)] (by kernel_rfl)
 have hE3:FC Try.prog 77 [(1000,aV zss),(41,de [3,4,3])] [o1 (.esl 1000 i 0 m),o1 (.sl 41 0 3)] [] (vv (.bool (bA labs [3,4,3]))) []:=hE3
 rw [e3] at hE3
 refine bc (nt:=97) Try.func59 rfl rfl (by simp) fun w0 ω0=> ?_
 have hgl:(aJ labs)[0]? =some (I6 (aC labs 0)):=al (by omega)
 have hE:ends labs=labs:=by unfold ends;rw [if_pos hA]
 have hw1:IntKind.i64.wrap ((m:Int) + 1)=(m:Int) + 1:=IntWalk.i64_in _ (by omega)
 (refine ah ?_;refine ab ?_;apply aa rfl;(exact ag rfl rfl);refine aj ?_;refine ai ?_;refine ah ?_;refine ab ?_;apply aa rfl;(exact ae rfl rfl);apply aa rfl;(exact a8 rfl rfl rfl (by as_aux_lemma=>kernel_rfl));apply aa rfl;(exact aR rfl rfl rfl hw1);apply aa rfl;(exact ag rfl rfl);refine aj ?_;refine ai ?_;refine ah ?_;refine aB ?_;refine ah ?_;refine ab ?_;apply aa rfl;(exact ae rfl rfl);apply aa rfl;(exact aD rfl rfl rfl rfl);apply aa rfl;(exact ag rfl rfl);refine aj ?_;refine ai ?_)
 refine au rfl (fun e=> ?_) (fun _=> ?_)
 ·exfalso;simp at e;omega
 (repeat (first | refine ah ?_ | refine ai ?_ | refine aI ?_ | refine aB ?_ | refine aK ?_ | refine a5 ?_ | refine aM ?_ | refine bZ rfl ?_ | refine ax ?_))
 refine cg (St.of [(0,o1 (.esl 1000 i 0 m)),(3,vv (I6 ((m:Int) + 1))),(16,vv (.bool false))] [(1000,aV zss)]) ?_ ?_
 ·refine ab ?_
  (apply aa rfl;(exact ae rfl rfl);apply aa rfl;(exact aD rfl rfl rfl rfl);apply aa rfl;(exact ae rfl rfl))
  refine bH 19 rfl (fun e1=> ?_) (fun e1=> ?_)
  ·have e1:m=1:=by simp at e1;omega
   have hg2:¬aC labs 0 > 0:=fun h=>hq ⟨e1,h⟩
   have hgl:(aJ labs)[0]? =some (I6 (aC labs 0)):=al (by omega)
   have hbf:dB .i64 .gtr (aC labs 0) 0=some (.bool false):=by simp [dB];omega
   (apply aH rfl rfl rfl;(exact ae rfl rfl);apply aH rfl rfl rfl;(first | exact aD rfl rfl rfl hbf | exact aS (j:=0) rfl rfl rfl rfl rfl (by as_aux_lemma=>kernel_rfl) hrow rfl (by omega) hilm | exact aN rfl (by as_aux_lemma=>kernel_rfl) rfl rfl rfl hrow hgl);apply aH rfl rfl rfl;(first | exact aD rfl rfl rfl hbf | exact aS (j:=0) rfl rfl rfl rfl rfl (by as_aux_lemma=>kernel_rfl) hrow rfl (by omega) hilm | exact aN rfl (by as_aux_lemma=>kernel_rfl) rfl rfl rfl hrow hgl);apply aH rfl rfl rfl;(first | exact aD rfl rfl rfl hbf | exact aS (j:=0) rfl rfl rfl rfl rfl (by as_aux_lemma=>kernel_rfl) hrow rfl (by omega) hilm | exact aN rfl (by as_aux_lemma=>kernel_rfl) rfl rfl rfl hrow hgl);apply aa rfl;(exact bf rfl rfl rfl);apply aa rfl;(exact ag rfl rfl);refine aj ?_)
   exact aL (Wk.of ⟨rfl,rfl,rfl,trivial⟩ ⟨rfl,trivial⟩ trivial)
  ·(apply aG rfl rfl rfl rfl rfl;apply aG rfl rfl rfl rfl rfl;apply aG rfl rfl rfl rfl rfl;apply aG rfl rfl rfl rfl rfl;apply aa rfl;(exact br rfl rfl rfl);apply aa rfl;(exact ag rfl rfl);refine aj ?_)
   exact aL (Wk.of ⟨rfl,rfl,rfl,trivial⟩ ⟨rfl,trivial⟩ trivial)
 (refine ai ?_)
 refine au rfl (fun e=>by cases e) (fun _=> ?_)
 (refine ah ?_;refine ab ?_;apply aa rfl;(exact ae rfl rfl);apply aa rfl;(exact cr (E:=2) rfl (by as_aux_lemma=>kernel_rfl) rfl rfl);apply aa rfl;(first | (apply ak 77;exact aq hE1 (by as_aux_lemma=>kernel_rfl) rfl rfl ⟨rfl,rfl,trivial⟩ ⟨⟨_,rfl, .inl rfl⟩,⟨_,rfl, .inr rfl⟩,trivial⟩ rfl rfl) | exact aO (E:=2) rfl (by as_aux_lemma=>kernel_rfl) rfl rfl rfl | exact aP (E:=2) rfl (by as_aux_lemma=>kernel_rfl) rfl rfl rfl rfl);apply aa rfl;(exact ag rfl rfl);refine aj ?_;refine ai ?_)
 refine au rfl (fun e=>by cases e) (fun _=> ?_)
 (refine ah ?_;refine ab ?_;apply aa rfl;(exact ae rfl rfl);apply aa rfl;(first | (apply ak 77;exact aq hE2 (by as_aux_lemma=>kernel_rfl) rfl rfl ⟨rfl,rfl,trivial⟩ ⟨⟨_,rfl, .inl rfl⟩,⟨_,rfl, .inr rfl⟩,trivial⟩ rfl rfl) | exact aO (E:=2) rfl (by as_aux_lemma=>kernel_rfl) rfl rfl rfl | exact aP (E:=2) rfl (by as_aux_lemma=>kernel_rfl) rfl rfl rfl rfl);apply aa rfl;(first | (apply ak 77;exact aq hE2 (by as_aux_lemma=>kernel_rfl) rfl rfl ⟨rfl,rfl,trivial⟩ ⟨⟨_,rfl, .inl rfl⟩,⟨_,rfl, .inr rfl⟩,trivial⟩ rfl rfl) | exact aO (E:=2) rfl (by as_aux_lemma=>kernel_rfl) rfl rfl rfl | exact aP (E:=2) rfl (by as_aux_lemma=>kernel_rfl) rfl rfl rfl rfl);apply aa rfl;(exact ag rfl rfl);refine aj ?_;refine ai ?_)
 refine au rfl (fun e=>by cases e) (fun _=> ?_)
 (refine ah ?_;refine ab ?_;apply aa rfl;(exact ae rfl rfl);apply aa rfl;(first | (apply ak 77;exact aq hE3 (by as_aux_lemma=>kernel_rfl) rfl rfl ⟨rfl,rfl,trivial⟩ ⟨⟨_,rfl, .inl rfl⟩,⟨_,rfl, .inr rfl⟩,trivial⟩ rfl rfl) | exact aO (E:=2) rfl (by as_aux_lemma=>kernel_rfl) rfl rfl rfl | exact aP (E:=2) rfl (by as_aux_lemma=>kernel_rfl) rfl rfl rfl rfl);apply aa rfl;(first | (apply ak 77;exact aq hE3 (by as_aux_lemma=>kernel_rfl) rfl rfl ⟨rfl,rfl,trivial⟩ ⟨⟨_,rfl, .inl rfl⟩,⟨_,rfl, .inr rfl⟩,trivial⟩ rfl rfl) | exact aO (E:=2) rfl (by as_aux_lemma=>kernel_rfl) rfl rfl rfl | exact aP (E:=2) rfl (by as_aux_lemma=>kernel_rfl) rfl rfl rfl rfl);apply aa rfl;(exact ag rfl rfl);refine aj ?_;refine ai ?_)
 refine au rfl (fun e=>by cases e) (fun _=> ?_)
 (refine aI ?_;refine aK ?_;refine ai ?_;refine ah ?_;refine ah ?_;refine ab ?_;apply aa rfl;(exact ae rfl rfl);apply aa rfl;(exact aD rfl rfl rfl rfl);refine aj ?_;refine ai ?_)
 refine au rfl (fun e=> ?_) (fun _=> ?_)
 ·exfalso;simp at e;omega
 (refine aI ?_;refine ai ?_;refine ah ?_;refine ab ?_;apply aa rfl;(exact ae rfl rfl);apply aa rfl;(exact ag rfl rfl);refine aj ?_;refine ai ?_;refine ah ?_;refine ah ?_;refine ab ?_;apply aa rfl;(exact ae rfl rfl);apply aa rfl;(first | exact aS (j:=0) rfl rfl rfl rfl rfl (by as_aux_lemma=>kernel_rfl) hrow rfl (by omega) hilm | exact aN rfl (by as_aux_lemma=>kernel_rfl) rfl rfl rfl hrow hgl);apply aa rfl;(first | exact aS (j:=0) rfl rfl rfl rfl rfl (by as_aux_lemma=>kernel_rfl) hrow rfl (by omega) hilm | exact aN rfl (by as_aux_lemma=>kernel_rfl) rfl rfl rfl hrow hgl);apply aa rfl;(exact aD rfl rfl rfl rfl);refine aj ?_;refine ai ?_)
 refine au rfl (fun e=> ?_) (fun e=> ?_)
 ·exfalso;simp at e;exact e hA
 (refine aI ?_;refine ai ?_;refine ah ?_;refine ah ?_;refine ab ?_;apply aa rfl;(exact ag rfl rfl);refine aj ?_;refine ai ?_;refine aB ?_)
 refine bl (fun k:Nat=>St.of [(3,vv (I6 ((m:Int) + 1))),(4,o1 (.esl 1000 i 0 m)),(5,vv (I6 k))] [(1000,aV zss)]) (fun k=>k≤m - 1∧∀q,q < k→aC (ends labs) q=3) (fun k=>m - k) 0 ⟨Nat.zero_le _,fun q h=>absurd h (by omega)⟩ (Wk.of ⟨rfl,rfl,rfl,trivial⟩ ⟨rfl,trivial⟩ trivial) ?_
 rintro k ⟨hk,hq3⟩
 have hkm:k < m:=by omega
 have hgk:(aJ labs)[k]? =some (I6 (aC (ends labs) k)):=by rw [hE];exact al (by first | omega | (rw [List.length_reverse];omega))
 have hwk:IntKind.i64.wrap ((k:Int) + 1)=(k:Int) + 1:=IntWalk.i64_in _ (by omega)
 (refine ah ?_;refine ah ?_;refine ab ?_;apply aa rfl;(exact ae rfl rfl);apply aa rfl;(exact aR rfl rfl rfl hwk);apply aa rfl;(exact ae rfl rfl);apply aa rfl;(exact a8 rfl rfl rfl (by as_aux_lemma=>kernel_rfl));apply aa rfl;(exact aD rfl rfl rfl rfl);refine aj ?_;refine ai ?_)
 refine bF rfl (fun hlt=> ?_) (fun hlt=> ?_)
 ·(refine aI ?_;refine ai ?_;refine ah ?_;refine aB ?_;refine ah ?_;refine ab ?_;apply aa rfl;(exact ae rfl rfl);apply aa rfl;(exact ae rfl rfl);apply aa rfl;(first | exact aS (j:=k) rfl rfl rfl rfl rfl (by as_aux_lemma=>kernel_rfl) hrow rfl hkm hilm | exact aN rfl (by as_aux_lemma=>kernel_rfl) rfl rfl rfl hrow hgk);apply aa rfl;(first | exact aS (j:=k) rfl rfl rfl rfl rfl (by as_aux_lemma=>kernel_rfl) hrow rfl hkm hilm | exact aN rfl (by as_aux_lemma=>kernel_rfl) rfl rfl rfl hrow hgk);apply aa rfl;(exact aD rfl rfl rfl rfl);refine aj ?_;refine ai ?_)
  refine au rfl (fun e=> ?_) (fun e=> ?_)
  ·exfalso
   have:=gR ht (k:=k) (by omega)
   simp at e
   exact e this
  ·have e:aC (ends labs) k=3:=by simpa using e
   (refine aI ?_;refine aK ?_;refine ai ?_;refine ab ?_;apply aa rfl;(exact ae rfl rfl);apply aa rfl;(exact aR rfl rfl rfl hwk);apply aa rfl;(exact ag rfl rfl);refine aj ?_)
   exact aX (k + 1) ⟨by omega,fun q h=>by
    by_cases e':q=k
    ·subst e';exact e
    ·exact hq3 q (by omega)⟩ (by omega) (Wk.of ⟨rfl,rfl,rfl,trivial⟩ ⟨rfl,trivial⟩ trivial)
 ·have hgm:(aJ labs)[m - 1]? =some (I6 (aC (ends labs) (m - 1))):=by rw [hE];exact al (by first | omega | (rw [List.length_reverse];omega))
  have hm1:(m:Int) - 1=((m - 1:Nat):Int):=by omega
  have hws:IntKind.i64.wrap ((m:Int) - 1)=(m:Int) - 1:=IntWalk.i64_in _ (by omega)
  rw [hm] at hlast
  (refine a5 ?_;refine ax ?_;refine ax ?_;refine aM ?_;refine ai ?_;refine ah ?_;refine ab ?_;apply aa rfl;(exact du (E:=2) (k:=1) rfl (by as_aux_lemma=>kernel_rfl));apply aa rfl;(exact ag rfl rfl);refine aj ?_;refine ai ?_;refine ah ?_;refine ah ?_;refine ab ?_;apply aa rfl;(exact ae rfl rfl);apply aa rfl;(exact ae rfl rfl);apply aa rfl;(exact a8 rfl rfl rfl (by as_aux_lemma=>kernel_rfl));apply aa rfl;(first | exact bJ rfl rfl rfl hws | exact aS (j:=m - 1) rfl rfl rfl rfl rfl (by as_aux_lemma=>kernel_rfl) hrow hm1 (by omega) hilm | exact aN rfl (by as_aux_lemma=>kernel_rfl) rfl rfl rfl hrow hgm);apply aa rfl;(first | exact bJ rfl rfl rfl hws | exact aS (j:=m - 1) rfl rfl rfl rfl rfl (by as_aux_lemma=>kernel_rfl) hrow hm1 (by omega) hilm | exact aN rfl (by as_aux_lemma=>kernel_rfl) rfl rfl rfl hrow hgm);apply aa rfl;(first | exact bJ rfl rfl rfl hws | exact aS (j:=m - 1) rfl rfl rfl rfl rfl (by as_aux_lemma=>kernel_rfl) hrow hm1 (by omega) hilm | exact aN rfl (by as_aux_lemma=>kernel_rfl) rfl rfl rfl hrow hgm);refine aj ?_;refine ai ?_;refine aB ?_;refine ah ?_;refine ab ?_;apply aa rfl;(exact aD rfl rfl rfl rfl);apply aa rfl;(exact ag rfl rfl);refine aj ?_;refine ai ?_)
  refine au rfl (fun _=> ?_) (fun e=> ?_)
  rotate_left
  ·exfalso;simp at e;exact e hlast
  (refine ah ?_;refine ab ?_;apply aa rfl;(exact ag rfl rfl);refine aj ?_;refine ai ?_;refine aB ?_)
  have hw2:IntKind.i64.wrap ((m:Int) + 1 + 1)=(m:Int) + 1 + 1:=IntWalk.i64_in _ (by omega)
  refine bl (fun k:Nat=>St.of [(3,vv (I6 ((m:Int) + 1))),(6,o1 (.sl 65 0 k)),(7,vv (I6 (2 + 1 * (k:Int))))] [(65,bw (eZ k 1))]) (fun k=>k≤m + 1) (fun k=>m + 1 - k) 0 (Nat.zero_le _) (Wk.of ⟨rfl,rfl,rfl,trivial⟩ ⟨rfl,trivial⟩ trivial) ?_
  rintro k hk
  have hwa:IntKind.i64.wrap (2 + 1 * (k:Int) + 1)=2 + 1 * ((k + 1:Nat):Int):=(IntWalk.i64_in _ (by omega)).trans (by omega)
  (refine ah ?_;refine ah ?_;refine ab ?_;apply aa rfl;(exact ae rfl rfl);apply aa rfl;(exact ae rfl rfl);apply aa rfl;(exact aR rfl rfl rfl hw2);apply aa rfl;(exact aD rfl rfl rfl rfl);refine aj ?_;refine ai ?_)
  refine bF rfl (fun hlt=> ?_) (fun hlt=> ?_)
  ·(refine aI ?_;refine ai ?_;refine ah ?_;refine aB ?_;refine ab ?_;apply aa rfl;(exact ae rfl rfl);apply aa rfl;(exact ae rfl rfl);apply aa rfl;(exact bM (E:=2) rfl (by as_aux_lemma=>kernel_rfl) rfl);apply aa rfl;(first | exact aR rfl rfl rfl hwa | exact bg rfl (by as_aux_lemma=>kernel_rfl) rfl rfl rfl (cL _ _) rfl rfl (by omega));apply aa rfl;(exact ag rfl rfl);refine aj ?_;refine aK ?_;refine ai ?_;refine ab ?_;apply aa rfl;(exact ae rfl rfl);apply aa rfl;(first | exact aR rfl rfl rfl hwa | exact bg rfl (by as_aux_lemma=>kernel_rfl) rfl rfl rfl (cL _ _) rfl rfl (by omega));apply aa rfl;(exact ag rfl rfl);refine aj ?_)
   exact aX (k + 1) (by omega) (by omega) (Wk.of ⟨rfl,rfl,rfl,trivial⟩ ⟨by rw [gQ];rfl,trivial⟩ trivial)
  ·obtain rfl:k=m + 1:=by omega
   (refine a5 ?_;refine ax ?_;refine ax ?_;refine aM ?_;refine aK ?_;refine ai ?_;refine ah ?_;refine ab ?_;apply aa rfl;(exact ae rfl rfl);apply aa rfl;(exact ag rfl rfl);refine aj ?_;refine ai ?_;refine aW ?_)
   exact bd (.inl rfl) rfl (.tmp rfl) ⟨rfl,trivial⟩ trivial
set_option maxRecDepth 100000 in
set_option maxHeartbeats 2000000 in
theorem uI (zss:List (List Int)) (i m:Nat) (labs:List Int) (hi:i < zss.length) (hlb:bu zss i=labs) (hm:labs.length=m) (hm4:m≤4) (h0:0 < m) (hq:¬(m=1∧0 < aC labs 0)) (e1:bA labs [3,5]=false) (e2:bA labs [3,3,5]=false) (e3:bA labs [3,4,3]=false) (h2:2≤m) (hA:aC labs 0=3) (ht:eE labs=true) (hlast:aC (ends labs) (labs.length - 1)=4):
  FC Try.prog 59 [(1000,aV zss)] [o1 (.esl 1000 i 0 m)] [(65,bw (eZ (m + 1) 2))] (o1 (.sl 65 0 (m + 1))) []:=by
 have hrow:(bK zss)[i]? =some (aJ labs):=by rw [←hlb];exact ar hi
 have hilm:m≤(aJ labs).length:=by rw [an,hm];exact Nat.le_refl _
 have hE1:=(bt zss i m 2 labs [3,5] hi hlb hm rfl (by omega) (by omega)).nm [(1000,1000),(1001,31)] (by kernel_rfl)
 have hE1:FC Try.prog 77 [(1000,aV zss),(31,de [3,5])] [o1 (.esl 1000 i 0 m),o1 (.sl 31 0 2)] [] (vv (.bool (bA labs [3,5]))) []:=hE1
 rw [e1] at hE1
 have hE2:=(bt zss i m 3 labs [3,3,5] hi hlb hm rfl (by omega) (by omega)).nm [(1000,1000),(1001,36)] (by kernel_rfl)
 have hE2:FC Try.prog 77 [(1000,aV zss),(36,de [3,3,5])] [o1 (.esl 1000 i 0 m),o1 (.sl 36 0 3)] [] (vv (.bool (bA labs [3,3,5]))) []:=hE2
 rw [e2] at hE2
 have hE3:=(bt zss i m 3 labs [3,4,3] hi hlb hm rfl (by omega) (by omega)).nm [(1000,1000),(1001,41)] (by kernel_rfl)
 have hE3:FC Try.prog 77 [(1000,aV zss),(41,de [3,4,3])] [o1 (.esl 1000 i 0 m),o1 (.sl 41 0 3)] [] (vv (.bool (bA labs [3,4,3]))) []:=hE3
 rw [e3] at hE3
 refine bc (nt:=97) Try.func59 rfl rfl (by simp) fun w0 ω0=> ?_
 have hgl:(aJ labs)[0]? =some (I6 (aC labs 0)):=al (by omega)
 have hE:ends labs=labs:=by unfold ends;rw [if_pos hA]
 have hw1:IntKind.i64.wrap ((m:Int) + 1)=(m:Int) + 1:=IntWalk.i64_in _ (by omega)
 (refine ah ?_;refine ab ?_;apply aa rfl;(exact ag rfl rfl);refine aj ?_;refine ai ?_;refine ah ?_;refine ab ?_;apply aa rfl;(exact ae rfl rfl);apply aa rfl;(exact a8 rfl rfl rfl (by as_aux_lemma=>kernel_rfl));apply aa rfl;(exact aR rfl rfl rfl hw1);apply aa rfl;(exact ag rfl rfl);refine aj ?_;refine ai ?_;refine ah ?_;refine aB ?_;refine ah ?_;refine ab ?_;apply aa rfl;(exact ae rfl rfl);apply aa rfl;(exact aD rfl rfl rfl rfl);apply aa rfl;(exact ag rfl rfl);refine aj ?_;refine ai ?_)
 refine au rfl (fun e=> ?_) (fun _=> ?_)
 ·exfalso;simp at e;omega
 (repeat (first | refine ah ?_ | refine ai ?_ | refine aI ?_ | refine aB ?_ | refine aK ?_ | refine a5 ?_ | refine aM ?_ | refine bZ rfl ?_ | refine ax ?_))
 refine cg (St.of [(0,o1 (.esl 1000 i 0 m)),(3,vv (I6 ((m:Int) + 1))),(16,vv (.bool false))] [(1000,aV zss)]) ?_ ?_
 ·refine ab ?_
  (apply aa rfl;(exact ae rfl rfl);apply aa rfl;(exact aD rfl rfl rfl rfl);apply aa rfl;(exact ae rfl rfl))
  refine bH 19 rfl (fun e1=> ?_) (fun e1=> ?_)
  ·have e1:m=1:=by simp at e1;omega
   have hg2:¬aC labs 0 > 0:=fun h=>hq ⟨e1,h⟩
   have hgl:(aJ labs)[0]? =some (I6 (aC labs 0)):=al (by omega)
   have hbf:dB .i64 .gtr (aC labs 0) 0=some (.bool false):=by simp [dB];omega
   (apply aH rfl rfl rfl;(exact ae rfl rfl);apply aH rfl rfl rfl;(first | exact aD rfl rfl rfl hbf | exact aS (j:=0) rfl rfl rfl rfl rfl (by as_aux_lemma=>kernel_rfl) hrow rfl (by omega) hilm | exact aN rfl (by as_aux_lemma=>kernel_rfl) rfl rfl rfl hrow hgl);apply aH rfl rfl rfl;(first | exact aD rfl rfl rfl hbf | exact aS (j:=0) rfl rfl rfl rfl rfl (by as_aux_lemma=>kernel_rfl) hrow rfl (by omega) hilm | exact aN rfl (by as_aux_lemma=>kernel_rfl) rfl rfl rfl hrow hgl);apply aH rfl rfl rfl;(first | exact aD rfl rfl rfl hbf | exact aS (j:=0) rfl rfl rfl rfl rfl (by as_aux_lemma=>kernel_rfl) hrow rfl (by omega) hilm | exact aN rfl (by as_aux_lemma=>kernel_rfl) rfl rfl rfl hrow hgl);apply aa rfl;(exact bf rfl rfl rfl);apply aa rfl;(exact ag rfl rfl);refine aj ?_)
   exact aL (Wk.of ⟨rfl,rfl,rfl,trivial⟩ ⟨rfl,trivial⟩ trivial)
  ·(apply aG rfl rfl rfl rfl rfl;apply aG rfl rfl rfl rfl rfl;apply aG rfl rfl rfl rfl rfl;apply aG rfl rfl rfl rfl rfl;apply aa rfl;(exact br rfl rfl rfl);apply aa rfl;(exact ag rfl rfl);refine aj ?_)
   exact aL (Wk.of ⟨rfl,rfl,rfl,trivial⟩ ⟨rfl,trivial⟩ trivial)
 (refine ai ?_)
 refine au rfl (fun e=>by cases e) (fun _=> ?_)
 (refine ah ?_;refine ab ?_;apply aa rfl;(exact ae rfl rfl);apply aa rfl;(exact cr (E:=2) rfl (by as_aux_lemma=>kernel_rfl) rfl rfl);apply aa rfl;(first | (apply ak 77;exact aq hE1 (by as_aux_lemma=>kernel_rfl) rfl rfl ⟨rfl,rfl,trivial⟩ ⟨⟨_,rfl, .inl rfl⟩,⟨_,rfl, .inr rfl⟩,trivial⟩ rfl rfl) | exact aO (E:=2) rfl (by as_aux_lemma=>kernel_rfl) rfl rfl rfl | exact aP (E:=2) rfl (by as_aux_lemma=>kernel_rfl) rfl rfl rfl rfl);apply aa rfl;(exact ag rfl rfl);refine aj ?_;refine ai ?_)
 refine au rfl (fun e=>by cases e) (fun _=> ?_)
 (refine ah ?_;refine ab ?_;apply aa rfl;(exact ae rfl rfl);apply aa rfl;(first | (apply ak 77;exact aq hE2 (by as_aux_lemma=>kernel_rfl) rfl rfl ⟨rfl,rfl,trivial⟩ ⟨⟨_,rfl, .inl rfl⟩,⟨_,rfl, .inr rfl⟩,trivial⟩ rfl rfl) | exact aO (E:=2) rfl (by as_aux_lemma=>kernel_rfl) rfl rfl rfl | exact aP (E:=2) rfl (by as_aux_lemma=>kernel_rfl) rfl rfl rfl rfl);apply aa rfl;(first | (apply ak 77;exact aq hE2 (by as_aux_lemma=>kernel_rfl) rfl rfl ⟨rfl,rfl,trivial⟩ ⟨⟨_,rfl, .inl rfl⟩,⟨_,rfl, .inr rfl⟩,trivial⟩ rfl rfl) | exact aO (E:=2) rfl (by as_aux_lemma=>kernel_rfl) rfl rfl rfl | exact aP (E:=2) rfl (by as_aux_lemma=>kernel_rfl) rfl rfl rfl rfl);apply aa rfl;(exact ag rfl rfl);refine aj ?_;refine ai ?_)
 refine au rfl (fun e=>by cases e) (fun _=> ?_)
 (refine ah ?_;refine ab ?_;apply aa rfl;(exact ae rfl rfl);apply aa rfl;(first | (apply ak 77;exact aq hE3 (by as_aux_lemma=>kernel_rfl) rfl rfl ⟨rfl,rfl,trivial⟩ ⟨⟨_,rfl, .inl rfl⟩,⟨_,rfl, .inr rfl⟩,trivial⟩ rfl rfl) | exact aO (E:=2) rfl (by as_aux_lemma=>kernel_rfl) rfl rfl rfl | exact aP (E:=2) rfl (by as_aux_lemma=>kernel_rfl) rfl rfl rfl rfl);apply aa rfl;(first | (apply ak 77;exact aq hE3 (by as_aux_lemma=>kernel_rfl) rfl rfl ⟨rfl,rfl,trivial⟩ ⟨⟨_,rfl, .inl rfl⟩,⟨_,rfl, .inr rfl⟩,trivial⟩ rfl rfl) | exact aO (E:=2) rfl (by as_aux_lemma=>kernel_rfl) rfl rfl rfl | exact aP (E:=2) rfl (by as_aux_lemma=>kernel_rfl) rfl rfl rfl rfl);apply aa rfl;(exact ag rfl rfl);refine aj ?_;refine ai ?_)
 refine au rfl (fun e=>by cases e) (fun _=> ?_)
 (refine aI ?_;refine aK ?_;refine ai ?_;refine ah ?_;refine ah ?_;refine ab ?_;apply aa rfl;(exact ae rfl rfl);apply aa rfl;(exact aD rfl rfl rfl rfl);refine aj ?_;refine ai ?_)
 refine au rfl (fun e=> ?_) (fun _=> ?_)
 ·exfalso;simp at e;omega
 (refine aI ?_;refine ai ?_;refine ah ?_;refine ab ?_;apply aa rfl;(exact ae rfl rfl);apply aa rfl;(exact ag rfl rfl);refine aj ?_;refine ai ?_;refine ah ?_;refine ah ?_;refine ab ?_;apply aa rfl;(exact ae rfl rfl);apply aa rfl;(first | exact aS (j:=0) rfl rfl rfl rfl rfl (by as_aux_lemma=>kernel_rfl) hrow rfl (by omega) hilm | exact aN rfl (by as_aux_lemma=>kernel_rfl) rfl rfl rfl hrow hgl);apply aa rfl;(first | exact aS (j:=0) rfl rfl rfl rfl rfl (by as_aux_lemma=>kernel_rfl) hrow rfl (by omega) hilm | exact aN rfl (by as_aux_lemma=>kernel_rfl) rfl rfl rfl hrow hgl);apply aa rfl;(exact aD rfl rfl rfl rfl);refine aj ?_;refine ai ?_)
 refine au rfl (fun e=> ?_) (fun e=> ?_)
 ·exfalso;simp at e;exact e hA
 (refine aI ?_;refine ai ?_;refine ah ?_;refine ah ?_;refine ab ?_;apply aa rfl;(exact ag rfl rfl);refine aj ?_;refine ai ?_;refine aB ?_)
 refine bl (fun k:Nat=>St.of [(3,vv (I6 ((m:Int) + 1))),(4,o1 (.esl 1000 i 0 m)),(5,vv (I6 k))] [(1000,aV zss)]) (fun k=>k≤m - 1∧∀q,q < k→aC (ends labs) q=3) (fun k=>m - k) 0 ⟨Nat.zero_le _,fun q h=>absurd h (by omega)⟩ (Wk.of ⟨rfl,rfl,rfl,trivial⟩ ⟨rfl,trivial⟩ trivial) ?_
 rintro k ⟨hk,hq3⟩
 have hkm:k < m:=by omega
 have hgk:(aJ labs)[k]? =some (I6 (aC (ends labs) k)):=by rw [hE];exact al (by first | omega | (rw [List.length_reverse];omega))
 have hwk:IntKind.i64.wrap ((k:Int) + 1)=(k:Int) + 1:=IntWalk.i64_in _ (by omega)
 (refine ah ?_;refine ah ?_;refine ab ?_;apply aa rfl;(exact ae rfl rfl);apply aa rfl;(exact aR rfl rfl rfl hwk);apply aa rfl;(exact ae rfl rfl);apply aa rfl;(exact a8 rfl rfl rfl (by as_aux_lemma=>kernel_rfl));apply aa rfl;(exact aD rfl rfl rfl rfl);refine aj ?_;refine ai ?_)
 refine bF rfl (fun hlt=> ?_) (fun hlt=> ?_)
 ·(refine aI ?_;refine ai ?_;refine ah ?_;refine aB ?_;refine ah ?_;refine ab ?_;apply aa rfl;(exact ae rfl rfl);apply aa rfl;(exact ae rfl rfl);apply aa rfl;(first | exact aS (j:=k) rfl rfl rfl rfl rfl (by as_aux_lemma=>kernel_rfl) hrow rfl hkm hilm | exact aN rfl (by as_aux_lemma=>kernel_rfl) rfl rfl rfl hrow hgk);apply aa rfl;(first | exact aS (j:=k) rfl rfl rfl rfl rfl (by as_aux_lemma=>kernel_rfl) hrow rfl hkm hilm | exact aN rfl (by as_aux_lemma=>kernel_rfl) rfl rfl rfl hrow hgk);apply aa rfl;(exact aD rfl rfl rfl rfl);refine aj ?_;refine ai ?_)
  refine au rfl (fun e=> ?_) (fun e=> ?_)
  ·exfalso
   have:=gR ht (k:=k) (by omega)
   simp at e
   exact e this
  ·have e:aC (ends labs) k=3:=by simpa using e
   (refine aI ?_;refine aK ?_;refine ai ?_;refine ab ?_;apply aa rfl;(exact ae rfl rfl);apply aa rfl;(exact aR rfl rfl rfl hwk);apply aa rfl;(exact ag rfl rfl);refine aj ?_)
   exact aX (k + 1) ⟨by omega,fun q h=>by
    by_cases e':q=k
    ·subst e';exact e
    ·exact hq3 q (by omega)⟩ (by omega) (Wk.of ⟨rfl,rfl,rfl,trivial⟩ ⟨rfl,trivial⟩ trivial)
 ·have hgm:(aJ labs)[m - 1]? =some (I6 (aC (ends labs) (m - 1))):=by rw [hE];exact al (by first | omega | (rw [List.length_reverse];omega))
  have hm1:(m:Int) - 1=((m - 1:Nat):Int):=by omega
  have hws:IntKind.i64.wrap ((m:Int) - 1)=(m:Int) - 1:=IntWalk.i64_in _ (by omega)
  rw [hm] at hlast
  (refine a5 ?_;refine ax ?_;refine ax ?_;refine aM ?_;refine ai ?_;refine ah ?_;refine ab ?_;apply aa rfl;(exact du (E:=2) (k:=1) rfl (by as_aux_lemma=>kernel_rfl));apply aa rfl;(exact ag rfl rfl);refine aj ?_;refine ai ?_;refine ah ?_;refine ah ?_;refine ab ?_;apply aa rfl;(exact ae rfl rfl);apply aa rfl;(exact ae rfl rfl);apply aa rfl;(exact a8 rfl rfl rfl (by as_aux_lemma=>kernel_rfl));apply aa rfl;(first | exact bJ rfl rfl rfl hws | exact aS (j:=m - 1) rfl rfl rfl rfl rfl (by as_aux_lemma=>kernel_rfl) hrow hm1 (by omega) hilm | exact aN rfl (by as_aux_lemma=>kernel_rfl) rfl rfl rfl hrow hgm);apply aa rfl;(first | exact bJ rfl rfl rfl hws | exact aS (j:=m - 1) rfl rfl rfl rfl rfl (by as_aux_lemma=>kernel_rfl) hrow hm1 (by omega) hilm | exact aN rfl (by as_aux_lemma=>kernel_rfl) rfl rfl rfl hrow hgm);apply aa rfl;(first | exact bJ rfl rfl rfl hws | exact aS (j:=m - 1) rfl rfl rfl rfl rfl (by as_aux_lemma=>kernel_rfl) hrow hm1 (by omega) hilm | exact aN rfl (by as_aux_lemma=>kernel_rfl) rfl rfl rfl hrow hgm);refine aj ?_;refine ai ?_;refine aB ?_;refine ah ?_;refine ab ?_;apply aa rfl;(exact aD rfl rfl rfl rfl);apply aa rfl;(exact ag rfl rfl);refine aj ?_;refine ai ?_)
  refine au rfl (fun e=> ?_) (fun _=> ?_)
  ·exfalso;simp at e;omega
  (refine ah ?_;refine ab ?_;apply aa rfl;(exact aD rfl rfl rfl rfl);apply aa rfl;(exact ag rfl rfl);refine aj ?_;refine ai ?_)
  refine au rfl (fun _=> ?_) (fun e=> ?_)
  rotate_left
  ·exfalso;simp at e;exact e hlast
  (refine ah ?_;refine ab ?_;apply aa rfl;(exact ag rfl rfl);refine aj ?_;refine ai ?_;refine aB ?_)
  have hw2:IntKind.i64.wrap (2 * ((m:Int) + 1))=2 * ((m:Int) + 1):=IntWalk.i64_in _ (by omega)
  refine bl (fun k:Nat=>St.of [(3,vv (I6 ((m:Int) + 1))),(6,o1 (.sl 65 0 k)),(8,vv (I6 (2 + 2 * (k:Int))))] [(65,bw (eZ k 2))]) (fun k=>k≤m + 1) (fun k=>m + 1 - k) 0 (Nat.zero_le _) (Wk.of ⟨rfl,rfl,rfl,trivial⟩ ⟨rfl,trivial⟩ trivial) ?_
  rintro k hk
  have hwa:IntKind.i64.wrap (2 + 2 * (k:Int) + 2)=2 + 2 * ((k + 1:Nat):Int):=(IntWalk.i64_in _ (by omega)).trans (by omega)
  (refine ah ?_;refine ah ?_;refine ab ?_;apply aa rfl;(exact ae rfl rfl);apply aa rfl;(exact ae rfl rfl);apply aa rfl;(exact c9 rfl rfl rfl hw2);apply aa rfl;(exact aD rfl rfl rfl rfl);refine aj ?_;refine ai ?_)
  refine bF rfl (fun hlt=> ?_) (fun hlt=> ?_)
  ·(refine aI ?_;refine ai ?_;refine ah ?_;refine aB ?_;refine ab ?_;apply aa rfl;(exact ae rfl rfl);apply aa rfl;(exact ae rfl rfl);apply aa rfl;(exact bM (E:=2) rfl (by as_aux_lemma=>kernel_rfl) rfl);apply aa rfl;(first | exact aR rfl rfl rfl hwa | exact bg rfl (by as_aux_lemma=>kernel_rfl) rfl rfl rfl (cL _ _) rfl rfl (by omega));apply aa rfl;(exact ag rfl rfl);refine aj ?_;refine aK ?_;refine ai ?_;refine ab ?_;apply aa rfl;(exact ae rfl rfl);apply aa rfl;(first | exact aR rfl rfl rfl hwa | exact bg rfl (by as_aux_lemma=>kernel_rfl) rfl rfl rfl (cL _ _) rfl rfl (by omega));apply aa rfl;(exact ag rfl rfl);refine aj ?_)
   exact aX (k + 1) (by omega) (by omega) (Wk.of ⟨rfl,rfl,rfl,trivial⟩ ⟨by rw [gQ];rfl,trivial⟩ trivial)
  ·obtain rfl:k=m + 1:=by omega
   (refine a5 ?_;refine ax ?_;refine ax ?_;refine aM ?_;refine aK ?_;refine ai ?_;refine ah ?_;refine ab ?_;apply aa rfl;(exact ae rfl rfl);apply aa rfl;(exact ag rfl rfl);refine aj ?_;refine ai ?_;refine aW ?_)
   exact bd (.inl rfl) rfl (.tmp rfl) ⟨rfl,trivial⟩ trivial
set_option maxRecDepth 100000 in
set_option maxHeartbeats 2000000 in
theorem vq (zss:List (List Int)) (i m:Nat) (labs:List Int) (hi:i < zss.length) (hlb:bu zss i=labs) (hm:labs.length=m) (hm4:m≤4) (h0:0 < m) (hq:¬(m=1∧0 < aC labs 0)) (e1:bA labs [3,5]=false) (e2:bA labs [3,3,5]=false) (e3:bA labs [3,4,3]=false) (h2:2≤m) (hA:aC labs 0=3) (ht:eE labs=true) (hlast:aC (ends labs) (labs.length - 1)≠3∧aC (ends labs) (labs.length - 1)≠4):
  FC Try.prog 59 [(1000,aV zss)] [o1 (.esl 1000 i 0 m)] [(65,bw [])] (o1 (.sl 65 0 0)) []:=by
 have hrow:(bK zss)[i]? =some (aJ labs):=by rw [←hlb];exact ar hi
 have hilm:m≤(aJ labs).length:=by rw [an,hm];exact Nat.le_refl _
 have hE1:=(bt zss i m 2 labs [3,5] hi hlb hm rfl (by omega) (by omega)).nm [(1000,1000),(1001,31)] (by kernel_rfl)
 have hE1:FC Try.prog 77 [(1000,aV zss),(31,de [3,5])] [o1 (.esl 1000 i 0 m),o1 (.sl 31 0 2)] [] (vv (.bool (bA labs [3,5]))) []:=hE1
 rw [e1] at hE1
 have hE2:=(bt zss i m 3 labs [3,3,5] hi hlb hm rfl (by omega) (by omega)).nm [(1000,1000),(1001,36)] (by kernel_rfl)
 have hE2:FC Try.prog 77 [(1000,aV zss),(36,de [3,3,5])] [o1 (.esl 1000 i 0 m),o1 (.sl 36 0 3)] [] (vv (.bool (bA labs [3,3,5]))) []:=hE2
 rw [e2] at hE2
 have hE3:=(bt zss i m 3 labs [3,4,3] hi hlb hm rfl (by omega) (by omega)).nm [(1000,1000),(1001,41)] (by kernel_rfl)
 have hE3:FC Try.prog 77 [(1000,aV zss),(41,de [3,4,3])] [o1 (.esl 1000 i 0 m),o1 (.sl 41 0 3)] [] (vv (.bool (bA labs [3,4,3]))) []:=hE3
 rw [e3] at hE3
 refine bc (nt:=97) Try.func59 rfl rfl (by simp) fun w0 ω0=> ?_
 have hgl:(aJ labs)[0]? =some (I6 (aC labs 0)):=al (by omega)
 have hE:ends labs=labs:=by unfold ends;rw [if_pos hA]
 have hw1:IntKind.i64.wrap ((m:Int) + 1)=(m:Int) + 1:=IntWalk.i64_in _ (by omega)
 (refine ah ?_;refine ab ?_;apply aa rfl;(exact ag rfl rfl);refine aj ?_;refine ai ?_;refine ah ?_;refine ab ?_;apply aa rfl;(exact ae rfl rfl);apply aa rfl;(exact a8 rfl rfl rfl (by as_aux_lemma=>kernel_rfl));apply aa rfl;(exact aR rfl rfl rfl hw1);apply aa rfl;(exact ag rfl rfl);refine aj ?_;refine ai ?_;refine ah ?_;refine aB ?_;refine ah ?_;refine ab ?_;apply aa rfl;(exact ae rfl rfl);apply aa rfl;(exact aD rfl rfl rfl rfl);apply aa rfl;(exact ag rfl rfl);refine aj ?_;refine ai ?_)
 refine au rfl (fun e=> ?_) (fun _=> ?_)
 ·exfalso;simp at e;omega
 (repeat (first | refine ah ?_ | refine ai ?_ | refine aI ?_ | refine aB ?_ | refine aK ?_ | refine a5 ?_ | refine aM ?_ | refine bZ rfl ?_ | refine ax ?_))
 refine cg (St.of [(0,o1 (.esl 1000 i 0 m)),(3,vv (I6 ((m:Int) + 1))),(16,vv (.bool false))] [(1000,aV zss)]) ?_ ?_
 ·refine ab ?_
  (apply aa rfl;(exact ae rfl rfl);apply aa rfl;(exact aD rfl rfl rfl rfl);apply aa rfl;(exact ae rfl rfl))
  refine bH 19 rfl (fun e1=> ?_) (fun e1=> ?_)
  ·have e1:m=1:=by simp at e1;omega
   have hg2:¬aC labs 0 > 0:=fun h=>hq ⟨e1,h⟩
   have hgl:(aJ labs)[0]? =some (I6 (aC labs 0)):=al (by omega)
   have hbf:dB .i64 .gtr (aC labs 0) 0=some (.bool false):=by simp [dB];omega
   (apply aH rfl rfl rfl;(exact ae rfl rfl);apply aH rfl rfl rfl;(first | exact aD rfl rfl rfl hbf | exact aS (j:=0) rfl rfl rfl rfl rfl (by as_aux_lemma=>kernel_rfl) hrow rfl (by omega) hilm | exact aN rfl (by as_aux_lemma=>kernel_rfl) rfl rfl rfl hrow hgl);apply aH rfl rfl rfl;(first | exact aD rfl rfl rfl hbf | exact aS (j:=0) rfl rfl rfl rfl rfl (by as_aux_lemma=>kernel_rfl) hrow rfl (by omega) hilm | exact aN rfl (by as_aux_lemma=>kernel_rfl) rfl rfl rfl hrow hgl);apply aH rfl rfl rfl;(first | exact aD rfl rfl rfl hbf | exact aS (j:=0) rfl rfl rfl rfl rfl (by as_aux_lemma=>kernel_rfl) hrow rfl (by omega) hilm | exact aN rfl (by as_aux_lemma=>kernel_rfl) rfl rfl rfl hrow hgl);apply aa rfl;(exact bf rfl rfl rfl);apply aa rfl;(exact ag rfl rfl);refine aj ?_)
   exact aL (Wk.of ⟨rfl,rfl,rfl,trivial⟩ ⟨rfl,trivial⟩ trivial)
  ·(apply aG rfl rfl rfl rfl rfl;apply aG rfl rfl rfl rfl rfl;apply aG rfl rfl rfl rfl rfl;apply aG rfl rfl rfl rfl rfl;apply aa rfl;(exact br rfl rfl rfl);apply aa rfl;(exact ag rfl rfl);refine aj ?_)
   exact aL (Wk.of ⟨rfl,rfl,rfl,trivial⟩ ⟨rfl,trivial⟩ trivial)
 (refine ai ?_)
 refine au rfl (fun e=>by cases e) (fun _=> ?_)
 (refine ah ?_;refine ab ?_;apply aa rfl;(exact ae rfl rfl);apply aa rfl;(exact cr (E:=2) rfl (by as_aux_lemma=>kernel_rfl) rfl rfl);apply aa rfl;(first | (apply ak 77;exact aq hE1 (by as_aux_lemma=>kernel_rfl) rfl rfl ⟨rfl,rfl,trivial⟩ ⟨⟨_,rfl, .inl rfl⟩,⟨_,rfl, .inr rfl⟩,trivial⟩ rfl rfl) | exact aO (E:=2) rfl (by as_aux_lemma=>kernel_rfl) rfl rfl rfl | exact aP (E:=2) rfl (by as_aux_lemma=>kernel_rfl) rfl rfl rfl rfl);apply aa rfl;(exact ag rfl rfl);refine aj ?_;refine ai ?_)
 refine au rfl (fun e=>by cases e) (fun _=> ?_)
 (refine ah ?_;refine ab ?_;apply aa rfl;(exact ae rfl rfl);apply aa rfl;(first | (apply ak 77;exact aq hE2 (by as_aux_lemma=>kernel_rfl) rfl rfl ⟨rfl,rfl,trivial⟩ ⟨⟨_,rfl, .inl rfl⟩,⟨_,rfl, .inr rfl⟩,trivial⟩ rfl rfl) | exact aO (E:=2) rfl (by as_aux_lemma=>kernel_rfl) rfl rfl rfl | exact aP (E:=2) rfl (by as_aux_lemma=>kernel_rfl) rfl rfl rfl rfl);apply aa rfl;(first | (apply ak 77;exact aq hE2 (by as_aux_lemma=>kernel_rfl) rfl rfl ⟨rfl,rfl,trivial⟩ ⟨⟨_,rfl, .inl rfl⟩,⟨_,rfl, .inr rfl⟩,trivial⟩ rfl rfl) | exact aO (E:=2) rfl (by as_aux_lemma=>kernel_rfl) rfl rfl rfl | exact aP (E:=2) rfl (by as_aux_lemma=>kernel_rfl) rfl rfl rfl rfl);apply aa rfl;(exact ag rfl rfl);refine aj ?_;refine ai ?_)
 refine au rfl (fun e=>by cases e) (fun _=> ?_)
 (refine ah ?_;refine ab ?_;apply aa rfl;(exact ae rfl rfl);apply aa rfl;(first | (apply ak 77;exact aq hE3 (by as_aux_lemma=>kernel_rfl) rfl rfl ⟨rfl,rfl,trivial⟩ ⟨⟨_,rfl, .inl rfl⟩,⟨_,rfl, .inr rfl⟩,trivial⟩ rfl rfl) | exact aO (E:=2) rfl (by as_aux_lemma=>kernel_rfl) rfl rfl rfl | exact aP (E:=2) rfl (by as_aux_lemma=>kernel_rfl) rfl rfl rfl rfl);apply aa rfl;(first | (apply ak 77;exact aq hE3 (by as_aux_lemma=>kernel_rfl) rfl rfl ⟨rfl,rfl,trivial⟩ ⟨⟨_,rfl, .inl rfl⟩,⟨_,rfl, .inr rfl⟩,trivial⟩ rfl rfl) | exact aO (E:=2) rfl (by as_aux_lemma=>kernel_rfl) rfl rfl rfl | exact aP (E:=2) rfl (by as_aux_lemma=>kernel_rfl) rfl rfl rfl rfl);apply aa rfl;(exact ag rfl rfl);refine aj ?_;refine ai ?_)
 refine au rfl (fun e=>by cases e) (fun _=> ?_)
 (refine aI ?_;refine aK ?_;refine ai ?_;refine ah ?_;refine ah ?_;refine ab ?_;apply aa rfl;(exact ae rfl rfl);apply aa rfl;(exact aD rfl rfl rfl rfl);refine aj ?_;refine ai ?_)
 refine au rfl (fun e=> ?_) (fun _=> ?_)
 ·exfalso;simp at e;omega
 (refine aI ?_;refine ai ?_;refine ah ?_;refine ab ?_;apply aa rfl;(exact ae rfl rfl);apply aa rfl;(exact ag rfl rfl);refine aj ?_;refine ai ?_;refine ah ?_;refine ah ?_;refine ab ?_;apply aa rfl;(exact ae rfl rfl);apply aa rfl;(first | exact aS (j:=0) rfl rfl rfl rfl rfl (by as_aux_lemma=>kernel_rfl) hrow rfl (by omega) hilm | exact aN rfl (by as_aux_lemma=>kernel_rfl) rfl rfl rfl hrow hgl);apply aa rfl;(first | exact aS (j:=0) rfl rfl rfl rfl rfl (by as_aux_lemma=>kernel_rfl) hrow rfl (by omega) hilm | exact aN rfl (by as_aux_lemma=>kernel_rfl) rfl rfl rfl hrow hgl);apply aa rfl;(exact aD rfl rfl rfl rfl);refine aj ?_;refine ai ?_)
 refine au rfl (fun e=> ?_) (fun e=> ?_)
 ·exfalso;simp at e;exact e hA
 (refine aI ?_;refine ai ?_;refine ah ?_;refine ah ?_;refine ab ?_;apply aa rfl;(exact ag rfl rfl);refine aj ?_;refine ai ?_;refine aB ?_)
 refine bl (fun k:Nat=>St.of [(3,vv (I6 ((m:Int) + 1))),(4,o1 (.esl 1000 i 0 m)),(5,vv (I6 k))] [(1000,aV zss)]) (fun k=>k≤m - 1∧∀q,q < k→aC (ends labs) q=3) (fun k=>m - k) 0 ⟨Nat.zero_le _,fun q h=>absurd h (by omega)⟩ (Wk.of ⟨rfl,rfl,rfl,trivial⟩ ⟨rfl,trivial⟩ trivial) ?_
 rintro k ⟨hk,hq3⟩
 have hkm:k < m:=by omega
 have hgk:(aJ labs)[k]? =some (I6 (aC (ends labs) k)):=by rw [hE];exact al (by first | omega | (rw [List.length_reverse];omega))
 have hwk:IntKind.i64.wrap ((k:Int) + 1)=(k:Int) + 1:=IntWalk.i64_in _ (by omega)
 (refine ah ?_;refine ah ?_;refine ab ?_;apply aa rfl;(exact ae rfl rfl);apply aa rfl;(exact aR rfl rfl rfl hwk);apply aa rfl;(exact ae rfl rfl);apply aa rfl;(exact a8 rfl rfl rfl (by as_aux_lemma=>kernel_rfl));apply aa rfl;(exact aD rfl rfl rfl rfl);refine aj ?_;refine ai ?_)
 refine bF rfl (fun hlt=> ?_) (fun hlt=> ?_)
 ·(refine aI ?_;refine ai ?_;refine ah ?_;refine aB ?_;refine ah ?_;refine ab ?_;apply aa rfl;(exact ae rfl rfl);apply aa rfl;(exact ae rfl rfl);apply aa rfl;(first | exact aS (j:=k) rfl rfl rfl rfl rfl (by as_aux_lemma=>kernel_rfl) hrow rfl hkm hilm | exact aN rfl (by as_aux_lemma=>kernel_rfl) rfl rfl rfl hrow hgk);apply aa rfl;(first | exact aS (j:=k) rfl rfl rfl rfl rfl (by as_aux_lemma=>kernel_rfl) hrow rfl hkm hilm | exact aN rfl (by as_aux_lemma=>kernel_rfl) rfl rfl rfl hrow hgk);apply aa rfl;(exact aD rfl rfl rfl rfl);refine aj ?_;refine ai ?_)
  refine au rfl (fun e=> ?_) (fun e=> ?_)
  ·exfalso
   have:=gR ht (k:=k) (by omega)
   simp at e
   exact e this
  ·have e:aC (ends labs) k=3:=by simpa using e
   (refine aI ?_;refine aK ?_;refine ai ?_;refine ab ?_;apply aa rfl;(exact ae rfl rfl);apply aa rfl;(exact aR rfl rfl rfl hwk);apply aa rfl;(exact ag rfl rfl);refine aj ?_)
   exact aX (k + 1) ⟨by omega,fun q h=>by
    by_cases e':q=k
    ·subst e';exact e
    ·exact hq3 q (by omega)⟩ (by omega) (Wk.of ⟨rfl,rfl,rfl,trivial⟩ ⟨rfl,trivial⟩ trivial)
 ·have hgm:(aJ labs)[m - 1]? =some (I6 (aC (ends labs) (m - 1))):=by rw [hE];exact al (by first | omega | (rw [List.length_reverse];omega))
  have hm1:(m:Int) - 1=((m - 1:Nat):Int):=by omega
  have hws:IntKind.i64.wrap ((m:Int) - 1)=(m:Int) - 1:=IntWalk.i64_in _ (by omega)
  rw [hm] at hlast
  (refine a5 ?_;refine ax ?_;refine ax ?_;refine aM ?_;refine ai ?_;refine ah ?_;refine ab ?_;apply aa rfl;(exact du (E:=2) (k:=1) rfl (by as_aux_lemma=>kernel_rfl));apply aa rfl;(exact ag rfl rfl);refine aj ?_;refine ai ?_;refine ah ?_;refine ah ?_;refine ab ?_;apply aa rfl;(exact ae rfl rfl);apply aa rfl;(exact ae rfl rfl);apply aa rfl;(exact a8 rfl rfl rfl (by as_aux_lemma=>kernel_rfl));apply aa rfl;(first | exact bJ rfl rfl rfl hws | exact aS (j:=m - 1) rfl rfl rfl rfl rfl (by as_aux_lemma=>kernel_rfl) hrow hm1 (by omega) hilm | exact aN rfl (by as_aux_lemma=>kernel_rfl) rfl rfl rfl hrow hgm);apply aa rfl;(first | exact bJ rfl rfl rfl hws | exact aS (j:=m - 1) rfl rfl rfl rfl rfl (by as_aux_lemma=>kernel_rfl) hrow hm1 (by omega) hilm | exact aN rfl (by as_aux_lemma=>kernel_rfl) rfl rfl rfl hrow hgm);apply aa rfl;(first | exact bJ rfl rfl rfl hws | exact aS (j:=m - 1) rfl rfl rfl rfl rfl (by as_aux_lemma=>kernel_rfl) hrow hm1 (by omega) hilm | exact aN rfl (by as_aux_lemma=>kernel_rfl) rfl rfl rfl hrow hgm);refine aj ?_;refine ai ?_;refine aB ?_;refine ah ?_;refine ab ?_;apply aa rfl;(exact aD rfl rfl rfl rfl);apply aa rfl;(exact ag rfl rfl);refine aj ?_;refine ai ?_)
  refine au rfl (fun e=> ?_) (fun _=> ?_)
  ·exfalso;simp at e;exact hlast.1 e
  (refine ah ?_;refine ab ?_;apply aa rfl;(exact aD rfl rfl rfl rfl);apply aa rfl;(exact ag rfl rfl);refine aj ?_;refine ai ?_)
  refine au rfl (fun e=> ?_) (fun _=> ?_)
  ·exfalso;simp at e;exact hlast.2 e
  (refine aI ?_;refine aK ?_;refine ai ?_;refine ah ?_;refine ab ?_;apply aa rfl;(exact ae rfl rfl);apply aa rfl;(exact ag rfl rfl);refine aj ?_;refine ai ?_;refine aW ?_)
  exact bd (.inl rfl) rfl (.tmp rfl) ⟨rfl,trivial⟩ trivial
set_option maxRecDepth 100000 in
set_option maxHeartbeats 2000000 in
theorem uH (zss:List (List Int)) (i m:Nat) (labs:List Int) (hi:i < zss.length) (hlb:bu zss i=labs) (hm:labs.length=m) (hm4:m≤4) (h0:0 < m) (hq:¬(m=1∧0 < aC labs 0)) (e1:bA labs [3,5]=false) (e2:bA labs [3,3,5]=false) (e3:bA labs [3,4,3]=false) (h2:2≤m) (hA:aC labs 0≠3) (ht:eE labs=false):
  FC Try.prog 59 [(1000,aV zss)] [o1 (.esl 1000 i 0 m)] [] (vv (.slice none 0 0)) []:=by
 have hrow:(bK zss)[i]? =some (aJ labs):=by rw [←hlb];exact ar hi
 have hilm:m≤(aJ labs).length:=by rw [an,hm];exact Nat.le_refl _
 have hE1:=(bt zss i m 2 labs [3,5] hi hlb hm rfl (by omega) (by omega)).nm [(1000,1000),(1001,31)] (by kernel_rfl)
 have hE1:FC Try.prog 77 [(1000,aV zss),(31,de [3,5])] [o1 (.esl 1000 i 0 m),o1 (.sl 31 0 2)] [] (vv (.bool (bA labs [3,5]))) []:=hE1
 rw [e1] at hE1
 have hE2:=(bt zss i m 3 labs [3,3,5] hi hlb hm rfl (by omega) (by omega)).nm [(1000,1000),(1001,36)] (by kernel_rfl)
 have hE2:FC Try.prog 77 [(1000,aV zss),(36,de [3,3,5])] [o1 (.esl 1000 i 0 m),o1 (.sl 36 0 3)] [] (vv (.bool (bA labs [3,3,5]))) []:=hE2
 rw [e2] at hE2
 have hE3:=(bt zss i m 3 labs [3,4,3] hi hlb hm rfl (by omega) (by omega)).nm [(1000,1000),(1001,41)] (by kernel_rfl)
 have hE3:FC Try.prog 77 [(1000,aV zss),(41,de [3,4,3])] [o1 (.esl 1000 i 0 m),o1 (.sl 41 0 3)] [] (vv (.bool (bA labs [3,4,3]))) []:=hE3
 rw [e3] at hE3
 refine bc (nt:=97) Try.func59 rfl rfl (by simp) fun w0 ω0=> ?_
 have hgl:(aJ labs)[0]? =some (I6 (aC labs 0)):=al (by omega)
 have hE:ends labs=labs.reverse:=by unfold ends;rw [if_neg hA]
 have hrl:labs.reverse.length=m:=by simpa using hm
 have hilr:m≤(aJ labs.reverse).length:=by rw [an,hrl];exact Nat.le_refl _
 have hTn:=ib 52 zss i hi (by rw [hlb];omega)
 rw [hlb,hm] at hTn
 have hw1:IntKind.i64.wrap ((m:Int) + 1)=(m:Int) + 1:=IntWalk.i64_in _ (by omega)
 (refine ah ?_;refine ab ?_;apply aa rfl;(exact ag rfl rfl);refine aj ?_;refine ai ?_;refine ah ?_;refine ab ?_;apply aa rfl;(exact ae rfl rfl);apply aa rfl;(exact a8 rfl rfl rfl (by as_aux_lemma=>kernel_rfl));apply aa rfl;(exact aR rfl rfl rfl hw1);apply aa rfl;(exact ag rfl rfl);refine aj ?_;refine ai ?_;refine ah ?_;refine aB ?_;refine ah ?_;refine ab ?_;apply aa rfl;(exact ae rfl rfl);apply aa rfl;(exact aD rfl rfl rfl rfl);apply aa rfl;(exact ag rfl rfl);refine aj ?_;refine ai ?_)
 refine au rfl (fun e=> ?_) (fun _=> ?_)
 ·exfalso;simp at e;omega
 (repeat (first | refine ah ?_ | refine ai ?_ | refine aI ?_ | refine aB ?_ | refine aK ?_ | refine a5 ?_ | refine aM ?_ | refine bZ rfl ?_ | refine ax ?_))
 refine cg (St.of [(0,o1 (.esl 1000 i 0 m)),(3,vv (I6 ((m:Int) + 1))),(16,vv (.bool false))] [(1000,aV zss)]) ?_ ?_
 ·refine ab ?_
  (apply aa rfl;(exact ae rfl rfl);apply aa rfl;(exact aD rfl rfl rfl rfl);apply aa rfl;(exact ae rfl rfl))
  refine bH 19 rfl (fun e1=> ?_) (fun e1=> ?_)
  ·have e1:m=1:=by simp at e1;omega
   have hg2:¬aC labs 0 > 0:=fun h=>hq ⟨e1,h⟩
   have hgl:(aJ labs)[0]? =some (I6 (aC labs 0)):=al (by omega)
   have hbf:dB .i64 .gtr (aC labs 0) 0=some (.bool false):=by simp [dB];omega
   (apply aH rfl rfl rfl;(exact ae rfl rfl);apply aH rfl rfl rfl;(first | exact aD rfl rfl rfl hbf | exact aS (j:=0) rfl rfl rfl rfl rfl (by as_aux_lemma=>kernel_rfl) hrow rfl (by omega) hilm | exact aN rfl (by as_aux_lemma=>kernel_rfl) rfl rfl rfl hrow hgl);apply aH rfl rfl rfl;(first | exact aD rfl rfl rfl hbf | exact aS (j:=0) rfl rfl rfl rfl rfl (by as_aux_lemma=>kernel_rfl) hrow rfl (by omega) hilm | exact aN rfl (by as_aux_lemma=>kernel_rfl) rfl rfl rfl hrow hgl);apply aH rfl rfl rfl;(first | exact aD rfl rfl rfl hbf | exact aS (j:=0) rfl rfl rfl rfl rfl (by as_aux_lemma=>kernel_rfl) hrow rfl (by omega) hilm | exact aN rfl (by as_aux_lemma=>kernel_rfl) rfl rfl rfl hrow hgl);apply aa rfl;(exact bf rfl rfl rfl);apply aa rfl;(exact ag rfl rfl);refine aj ?_)
   exact aL (Wk.of ⟨rfl,rfl,rfl,trivial⟩ ⟨rfl,trivial⟩ trivial)
  ·(apply aG rfl rfl rfl rfl rfl;apply aG rfl rfl rfl rfl rfl;apply aG rfl rfl rfl rfl rfl;apply aG rfl rfl rfl rfl rfl;apply aa rfl;(exact br rfl rfl rfl);apply aa rfl;(exact ag rfl rfl);refine aj ?_)
   exact aL (Wk.of ⟨rfl,rfl,rfl,trivial⟩ ⟨rfl,trivial⟩ trivial)
 (refine ai ?_)
 refine au rfl (fun e=>by cases e) (fun _=> ?_)
 (refine ah ?_;refine ab ?_;apply aa rfl;(exact ae rfl rfl);apply aa rfl;(exact cr (E:=2) rfl (by as_aux_lemma=>kernel_rfl) rfl rfl);apply aa rfl;(first | (apply ak 77;exact aq hE1 (by as_aux_lemma=>kernel_rfl) rfl rfl ⟨rfl,rfl,trivial⟩ ⟨⟨_,rfl, .inl rfl⟩,⟨_,rfl, .inr rfl⟩,trivial⟩ rfl rfl) | exact aO (E:=2) rfl (by as_aux_lemma=>kernel_rfl) rfl rfl rfl | exact aP (E:=2) rfl (by as_aux_lemma=>kernel_rfl) rfl rfl rfl rfl);apply aa rfl;(exact ag rfl rfl);refine aj ?_;refine ai ?_)
 refine au rfl (fun e=>by cases e) (fun _=> ?_)
 (refine ah ?_;refine ab ?_;apply aa rfl;(exact ae rfl rfl);apply aa rfl;(first | (apply ak 77;exact aq hE2 (by as_aux_lemma=>kernel_rfl) rfl rfl ⟨rfl,rfl,trivial⟩ ⟨⟨_,rfl, .inl rfl⟩,⟨_,rfl, .inr rfl⟩,trivial⟩ rfl rfl) | exact aO (E:=2) rfl (by as_aux_lemma=>kernel_rfl) rfl rfl rfl | exact aP (E:=2) rfl (by as_aux_lemma=>kernel_rfl) rfl rfl rfl rfl);apply aa rfl;(first | (apply ak 77;exact aq hE2 (by as_aux_lemma=>kernel_rfl) rfl rfl ⟨rfl,rfl,trivial⟩ ⟨⟨_,rfl, .inl rfl⟩,⟨_,rfl, .inr rfl⟩,trivial⟩ rfl rfl) | exact aO (E:=2) rfl (by as_aux_lemma=>kernel_rfl) rfl rfl rfl | exact aP (E:=2) rfl (by as_aux_lemma=>kernel_rfl) rfl rfl rfl rfl);apply aa rfl;(exact ag rfl rfl);refine aj ?_;refine ai ?_)
 refine au rfl (fun e=>by cases e) (fun _=> ?_)
 (refine ah ?_;refine ab ?_;apply aa rfl;(exact ae rfl rfl);apply aa rfl;(first | (apply ak 77;exact aq hE3 (by as_aux_lemma=>kernel_rfl) rfl rfl ⟨rfl,rfl,trivial⟩ ⟨⟨_,rfl, .inl rfl⟩,⟨_,rfl, .inr rfl⟩,trivial⟩ rfl rfl) | exact aO (E:=2) rfl (by as_aux_lemma=>kernel_rfl) rfl rfl rfl | exact aP (E:=2) rfl (by as_aux_lemma=>kernel_rfl) rfl rfl rfl rfl);apply aa rfl;(first | (apply ak 77;exact aq hE3 (by as_aux_lemma=>kernel_rfl) rfl rfl ⟨rfl,rfl,trivial⟩ ⟨⟨_,rfl, .inl rfl⟩,⟨_,rfl, .inr rfl⟩,trivial⟩ rfl rfl) | exact aO (E:=2) rfl (by as_aux_lemma=>kernel_rfl) rfl rfl rfl | exact aP (E:=2) rfl (by as_aux_lemma=>kernel_rfl) rfl rfl rfl rfl);apply aa rfl;(exact ag rfl rfl);refine aj ?_;refine ai ?_)
 refine au rfl (fun e=>by cases e) (fun _=> ?_)
 (refine aI ?_;refine aK ?_;refine ai ?_;refine ah ?_;refine ah ?_;refine ab ?_;apply aa rfl;(exact ae rfl rfl);apply aa rfl;(exact aD rfl rfl rfl rfl);refine aj ?_;refine ai ?_)
 refine au rfl (fun e=> ?_) (fun _=> ?_)
 ·exfalso;simp at e;omega
 (refine aI ?_;refine ai ?_;refine ah ?_;refine ab ?_;apply aa rfl;(exact ae rfl rfl);apply aa rfl;(exact ag rfl rfl);refine aj ?_;refine ai ?_;refine ah ?_;refine ah ?_;refine ab ?_;apply aa rfl;(exact ae rfl rfl);apply aa rfl;(first | exact aS (j:=0) rfl rfl rfl rfl rfl (by as_aux_lemma=>kernel_rfl) hrow rfl (by omega) hilm | exact aN rfl (by as_aux_lemma=>kernel_rfl) rfl rfl rfl hrow hgl);apply aa rfl;(first | exact aS (j:=0) rfl rfl rfl rfl rfl (by as_aux_lemma=>kernel_rfl) hrow rfl (by omega) hilm | exact aN rfl (by as_aux_lemma=>kernel_rfl) rfl rfl rfl hrow hgl);apply aa rfl;(exact aD rfl rfl rfl rfl);refine aj ?_;refine ai ?_)
 refine au rfl (fun e=> ?_) (fun e=> ?_)
 rotate_left
 ·exfalso;simp at e;exact hA e
 (refine ab ?_;apply aa rfl;(exact ae rfl rfl);apply aa rfl;(apply ak 78;exact bz hTn (by as_aux_lemma=>kernel_rfl) rfl rfl ⟨rfl,trivial⟩ ⟨⟨_,rfl, .inl rfl⟩,trivial⟩ rfl rfl rfl);apply aa rfl;(exact ag rfl rfl);refine aj ?_;refine ai ?_;refine ah ?_;refine ah ?_;refine ab ?_;apply aa rfl;(exact ag rfl rfl);refine aj ?_;refine ai ?_;refine aB ?_)
 refine bl (fun k:Nat=>St.of [(3,vv (I6 ((m:Int) + 1))),(4,o1 (.sl 52 0 m)),(5,vv (I6 k))] [(52,bw labs.reverse)]) (fun k=>k≤m - 1∧∀q,q < k→aC (ends labs) q=3) (fun k=>m - k) 0 ⟨Nat.zero_le _,fun q h=>absurd h (by omega)⟩ (Wk.of ⟨rfl,rfl,rfl,trivial⟩ ⟨rfl,trivial⟩ trivial) ?_
 rintro k ⟨hk,hq3⟩
 have hkm:k < m:=by omega
 have hgk:(aJ labs.reverse)[k]? =some (I6 (aC (ends labs) k)):=by rw [hE];exact al (by first | omega | (rw [List.length_reverse];omega))
 have hwk:IntKind.i64.wrap ((k:Int) + 1)=(k:Int) + 1:=IntWalk.i64_in _ (by omega)
 (refine ah ?_;refine ah ?_;refine ab ?_;apply aa rfl;(exact ae rfl rfl);apply aa rfl;(exact aR rfl rfl rfl hwk);apply aa rfl;(exact ae rfl rfl);apply aa rfl;(exact a8 rfl rfl rfl (by as_aux_lemma=>kernel_rfl));apply aa rfl;(exact aD rfl rfl rfl rfl);refine aj ?_;refine ai ?_)
 refine bF rfl (fun hlt=> ?_) (fun hlt=> ?_)
 ·(refine aI ?_;refine ai ?_;refine ah ?_;refine aB ?_;refine ah ?_;refine ab ?_;apply aa rfl;(exact ae rfl rfl);apply aa rfl;(exact ae rfl rfl);apply aa rfl;(first | exact aU (j:=k) rfl rfl rfl rfl rfl (by as_aux_lemma=>kernel_rfl) rfl hkm hilr | exact a7 rfl (by as_aux_lemma=>kernel_rfl) rfl rfl rfl hgk);apply aa rfl;(first | exact aU (j:=k) rfl rfl rfl rfl rfl (by as_aux_lemma=>kernel_rfl) rfl hkm hilr | exact a7 rfl (by as_aux_lemma=>kernel_rfl) rfl rfl rfl hgk);apply aa rfl;(exact aD rfl rfl rfl rfl);refine aj ?_;refine ai ?_)
  refine au rfl (fun e=> ?_) (fun e=> ?_)
  ·(refine ah ?_;refine ab ?_;apply aa rfl;(exact ag rfl rfl);refine aj ?_;refine ai ?_;refine aW ?_;refine bj ?_;refine aT ?_;refine aT ?_;refine bj ?_;refine aT ?_)
   exact bd (.inl rfl) rfl (.tmp rfl) trivial trivial
  ·have e:aC (ends labs) k=3:=by simpa using e
   (refine aI ?_;refine aK ?_;refine ai ?_;refine ab ?_;apply aa rfl;(exact ae rfl rfl);apply aa rfl;(exact aR rfl rfl rfl hwk);apply aa rfl;(exact ag rfl rfl);refine aj ?_)
   exact aX (k + 1) ⟨by omega,fun q h=>by
    by_cases e':q=k
    ·subst e';exact e
    ·exact hq3 q (by omega)⟩ (by omega) (Wk.of ⟨rfl,rfl,rfl,trivial⟩ ⟨rfl,trivial⟩ trivial)
 ·exfalso
  rw [qB (fun q h=>hq3 q (by omega))] at ht
  cases ht
set_option maxRecDepth 100000 in
set_option maxHeartbeats 2000000 in
theorem uA (zss:List (List Int)) (i m:Nat) (labs:List Int) (hi:i < zss.length) (hlb:bu zss i=labs) (hm:labs.length=m) (hm4:m≤4) (h0:0 < m) (hq:¬(m=1∧0 < aC labs 0)) (e1:bA labs [3,5]=false) (e2:bA labs [3,3,5]=false) (e3:bA labs [3,4,3]=false) (h2:2≤m) (hA:aC labs 0≠3) (ht:eE labs=true) (hlast:aC (ends labs) (labs.length - 1)=3):
  FC Try.prog 59 [(1000,aV zss)] [o1 (.esl 1000 i 0 m)] [(65,bw (eZ (m + 1) 1))] (o1 (.sl 65 0 (m + 1))) []:=by
 have hrow:(bK zss)[i]? =some (aJ labs):=by rw [←hlb];exact ar hi
 have hilm:m≤(aJ labs).length:=by rw [an,hm];exact Nat.le_refl _
 have hE1:=(bt zss i m 2 labs [3,5] hi hlb hm rfl (by omega) (by omega)).nm [(1000,1000),(1001,31)] (by kernel_rfl)
 have hE1:FC Try.prog 77 [(1000,aV zss),(31,de [3,5])] [o1 (.esl 1000 i 0 m),o1 (.sl 31 0 2)] [] (vv (.bool (bA labs [3,5]))) []:=hE1
 rw [e1] at hE1
 have hE2:=(bt zss i m 3 labs [3,3,5] hi hlb hm rfl (by omega) (by omega)).nm [(1000,1000),(1001,36)] (by kernel_rfl)
 have hE2:FC Try.prog 77 [(1000,aV zss),(36,de [3,3,5])] [o1 (.esl 1000 i 0 m),o1 (.sl 36 0 3)] [] (vv (.bool (bA labs [3,3,5]))) []:=hE2
 rw [e2] at hE2
 have hE3:=(bt zss i m 3 labs [3,4,3] hi hlb hm rfl (by omega) (by omega)).nm [(1000,1000),(1001,41)] (by kernel_rfl)
 have hE3:FC Try.prog 77 [(1000,aV zss),(41,de [3,4,3])] [o1 (.esl 1000 i 0 m),o1 (.sl 41 0 3)] [] (vv (.bool (bA labs [3,4,3]))) []:=hE3
 rw [e3] at hE3
 refine bc (nt:=97) Try.func59 rfl rfl (by simp) fun w0 ω0=> ?_
 have hgl:(aJ labs)[0]? =some (I6 (aC labs 0)):=al (by omega)
 have hE:ends labs=labs.reverse:=by unfold ends;rw [if_neg hA]
 have hrl:labs.reverse.length=m:=by simpa using hm
 have hilr:m≤(aJ labs.reverse).length:=by rw [an,hrl];exact Nat.le_refl _
 have hTn:=ib 52 zss i hi (by rw [hlb];omega)
 rw [hlb,hm] at hTn
 have hw1:IntKind.i64.wrap ((m:Int) + 1)=(m:Int) + 1:=IntWalk.i64_in _ (by omega)
 (refine ah ?_;refine ab ?_;apply aa rfl;(exact ag rfl rfl);refine aj ?_;refine ai ?_;refine ah ?_;refine ab ?_;apply aa rfl;(exact ae rfl rfl);apply aa rfl;(exact a8 rfl rfl rfl (by as_aux_lemma=>kernel_rfl));apply aa rfl;(exact aR rfl rfl rfl hw1);apply aa rfl;(exact ag rfl rfl);refine aj ?_;refine ai ?_;refine ah ?_;refine aB ?_;refine ah ?_;refine ab ?_;apply aa rfl;(exact ae rfl rfl);apply aa rfl;(exact aD rfl rfl rfl rfl);apply aa rfl;(exact ag rfl rfl);refine aj ?_;refine ai ?_)
 refine au rfl (fun e=> ?_) (fun _=> ?_)
 ·exfalso;simp at e;omega
 (repeat (first | refine ah ?_ | refine ai ?_ | refine aI ?_ | refine aB ?_ | refine aK ?_ | refine a5 ?_ | refine aM ?_ | refine bZ rfl ?_ | refine ax ?_))
 refine cg (St.of [(0,o1 (.esl 1000 i 0 m)),(3,vv (I6 ((m:Int) + 1))),(16,vv (.bool false))] [(1000,aV zss)]) ?_ ?_
 ·refine ab ?_
  (apply aa rfl;(exact ae rfl rfl);apply aa rfl;(exact aD rfl rfl rfl rfl);apply aa rfl;(exact ae rfl rfl))
  refine bH 19 rfl (fun e1=> ?_) (fun e1=> ?_)
  ·have e1:m=1:=by simp at e1;omega
   have hg2:¬aC labs 0 > 0:=fun h=>hq ⟨e1,h⟩
   have hgl:(aJ labs)[0]? =some (I6 (aC labs 0)):=al (by omega)
   have hbf:dB .i64 .gtr (aC labs 0) 0=some (.bool false):=by simp [dB];omega
   (apply aH rfl rfl rfl;(exact ae rfl rfl);apply aH rfl rfl rfl;(first | exact aD rfl rfl rfl hbf | exact aS (j:=0) rfl rfl rfl rfl rfl (by as_aux_lemma=>kernel_rfl) hrow rfl (by omega) hilm | exact aN rfl (by as_aux_lemma=>kernel_rfl) rfl rfl rfl hrow hgl);apply aH rfl rfl rfl;(first | exact aD rfl rfl rfl hbf | exact aS (j:=0) rfl rfl rfl rfl rfl (by as_aux_lemma=>kernel_rfl) hrow rfl (by omega) hilm | exact aN rfl (by as_aux_lemma=>kernel_rfl) rfl rfl rfl hrow hgl);apply aH rfl rfl rfl;(first | exact aD rfl rfl rfl hbf | exact aS (j:=0) rfl rfl rfl rfl rfl (by as_aux_lemma=>kernel_rfl) hrow rfl (by omega) hilm | exact aN rfl (by as_aux_lemma=>kernel_rfl) rfl rfl rfl hrow hgl);apply aa rfl;(exact bf rfl rfl rfl);apply aa rfl;(exact ag rfl rfl);refine aj ?_)
   exact aL (Wk.of ⟨rfl,rfl,rfl,trivial⟩ ⟨rfl,trivial⟩ trivial)
  ·(apply aG rfl rfl rfl rfl rfl;apply aG rfl rfl rfl rfl rfl;apply aG rfl rfl rfl rfl rfl;apply aG rfl rfl rfl rfl rfl;apply aa rfl;(exact br rfl rfl rfl);apply aa rfl;(exact ag rfl rfl);refine aj ?_)
   exact aL (Wk.of ⟨rfl,rfl,rfl,trivial⟩ ⟨rfl,trivial⟩ trivial)
 (refine ai ?_)
 refine au rfl (fun e=>by cases e) (fun _=> ?_)
 (refine ah ?_;refine ab ?_;apply aa rfl;(exact ae rfl rfl);apply aa rfl;(exact cr (E:=2) rfl (by as_aux_lemma=>kernel_rfl) rfl rfl);apply aa rfl;(first | (apply ak 77;exact aq hE1 (by as_aux_lemma=>kernel_rfl) rfl rfl ⟨rfl,rfl,trivial⟩ ⟨⟨_,rfl, .inl rfl⟩,⟨_,rfl, .inr rfl⟩,trivial⟩ rfl rfl) | exact aO (E:=2) rfl (by as_aux_lemma=>kernel_rfl) rfl rfl rfl | exact aP (E:=2) rfl (by as_aux_lemma=>kernel_rfl) rfl rfl rfl rfl);apply aa rfl;(exact ag rfl rfl);refine aj ?_;refine ai ?_)
 refine au rfl (fun e=>by cases e) (fun _=> ?_)
 (refine ah ?_;refine ab ?_;apply aa rfl;(exact ae rfl rfl);apply aa rfl;(first | (apply ak 77;exact aq hE2 (by as_aux_lemma=>kernel_rfl) rfl rfl ⟨rfl,rfl,trivial⟩ ⟨⟨_,rfl, .inl rfl⟩,⟨_,rfl, .inr rfl⟩,trivial⟩ rfl rfl) | exact aO (E:=2) rfl (by as_aux_lemma=>kernel_rfl) rfl rfl rfl | exact aP (E:=2) rfl (by as_aux_lemma=>kernel_rfl) rfl rfl rfl rfl);apply aa rfl;(first | (apply ak 77;exact aq hE2 (by as_aux_lemma=>kernel_rfl) rfl rfl ⟨rfl,rfl,trivial⟩ ⟨⟨_,rfl, .inl rfl⟩,⟨_,rfl, .inr rfl⟩,trivial⟩ rfl rfl) | exact aO (E:=2) rfl (by as_aux_lemma=>kernel_rfl) rfl rfl rfl | exact aP (E:=2) rfl (by as_aux_lemma=>kernel_rfl) rfl rfl rfl rfl);apply aa rfl;(exact ag rfl rfl);refine aj ?_;refine ai ?_)
 refine au rfl (fun e=>by cases e) (fun _=> ?_)
 (refine ah ?_;refine ab ?_;apply aa rfl;(exact ae rfl rfl);apply aa rfl;(first | (apply ak 77;exact aq hE3 (by as_aux_lemma=>kernel_rfl) rfl rfl ⟨rfl,rfl,trivial⟩ ⟨⟨_,rfl, .inl rfl⟩,⟨_,rfl, .inr rfl⟩,trivial⟩ rfl rfl) | exact aO (E:=2) rfl (by as_aux_lemma=>kernel_rfl) rfl rfl rfl | exact aP (E:=2) rfl (by as_aux_lemma=>kernel_rfl) rfl rfl rfl rfl);apply aa rfl;(first | (apply ak 77;exact aq hE3 (by as_aux_lemma=>kernel_rfl) rfl rfl ⟨rfl,rfl,trivial⟩ ⟨⟨_,rfl, .inl rfl⟩,⟨_,rfl, .inr rfl⟩,trivial⟩ rfl rfl) | exact aO (E:=2) rfl (by as_aux_lemma=>kernel_rfl) rfl rfl rfl | exact aP (E:=2) rfl (by as_aux_lemma=>kernel_rfl) rfl rfl rfl rfl);apply aa rfl;(exact ag rfl rfl);refine aj ?_;refine ai ?_)
 refine au rfl (fun e=>by cases e) (fun _=> ?_)
 (refine aI ?_;refine aK ?_;refine ai ?_;refine ah ?_;refine ah ?_;refine ab ?_;apply aa rfl;(exact ae rfl rfl);apply aa rfl;(exact aD rfl rfl rfl rfl);refine aj ?_;refine ai ?_)
 refine au rfl (fun e=> ?_) (fun _=> ?_)
 ·exfalso;simp at e;omega
 (refine aI ?_;refine ai ?_;refine ah ?_;refine ab ?_;apply aa rfl;(exact ae rfl rfl);apply aa rfl;(exact ag rfl rfl);refine aj ?_;refine ai ?_;refine ah ?_;refine ah ?_;refine ab ?_;apply aa rfl;(exact ae rfl rfl);apply aa rfl;(first | exact aS (j:=0) rfl rfl rfl rfl rfl (by as_aux_lemma=>kernel_rfl) hrow rfl (by omega) hilm | exact aN rfl (by as_aux_lemma=>kernel_rfl) rfl rfl rfl hrow hgl);apply aa rfl;(first | exact aS (j:=0) rfl rfl rfl rfl rfl (by as_aux_lemma=>kernel_rfl) hrow rfl (by omega) hilm | exact aN rfl (by as_aux_lemma=>kernel_rfl) rfl rfl rfl hrow hgl);apply aa rfl;(exact aD rfl rfl rfl rfl);refine aj ?_;refine ai ?_)
 refine au rfl (fun e=> ?_) (fun e=> ?_)
 rotate_left
 ·exfalso;simp at e;exact hA e
 (refine ab ?_;apply aa rfl;(exact ae rfl rfl);apply aa rfl;(apply ak 78;exact bz hTn (by as_aux_lemma=>kernel_rfl) rfl rfl ⟨rfl,trivial⟩ ⟨⟨_,rfl, .inl rfl⟩,trivial⟩ rfl rfl rfl);apply aa rfl;(exact ag rfl rfl);refine aj ?_;refine ai ?_;refine ah ?_;refine ah ?_;refine ab ?_;apply aa rfl;(exact ag rfl rfl);refine aj ?_;refine ai ?_;refine aB ?_)
 refine bl (fun k:Nat=>St.of [(3,vv (I6 ((m:Int) + 1))),(4,o1 (.sl 52 0 m)),(5,vv (I6 k))] [(52,bw labs.reverse)]) (fun k=>k≤m - 1∧∀q,q < k→aC (ends labs) q=3) (fun k=>m - k) 0 ⟨Nat.zero_le _,fun q h=>absurd h (by omega)⟩ (Wk.of ⟨rfl,rfl,rfl,trivial⟩ ⟨rfl,trivial⟩ trivial) ?_
 rintro k ⟨hk,hq3⟩
 have hkm:k < m:=by omega
 have hgk:(aJ labs.reverse)[k]? =some (I6 (aC (ends labs) k)):=by rw [hE];exact al (by first | omega | (rw [List.length_reverse];omega))
 have hwk:IntKind.i64.wrap ((k:Int) + 1)=(k:Int) + 1:=IntWalk.i64_in _ (by omega)
 (refine ah ?_;refine ah ?_;refine ab ?_;apply aa rfl;(exact ae rfl rfl);apply aa rfl;(exact aR rfl rfl rfl hwk);apply aa rfl;(exact ae rfl rfl);apply aa rfl;(exact a8 rfl rfl rfl (by as_aux_lemma=>kernel_rfl));apply aa rfl;(exact aD rfl rfl rfl rfl);refine aj ?_;refine ai ?_)
 refine bF rfl (fun hlt=> ?_) (fun hlt=> ?_)
 ·(refine aI ?_;refine ai ?_;refine ah ?_;refine aB ?_;refine ah ?_;refine ab ?_;apply aa rfl;(exact ae rfl rfl);apply aa rfl;(exact ae rfl rfl);apply aa rfl;(first | exact aU (j:=k) rfl rfl rfl rfl rfl (by as_aux_lemma=>kernel_rfl) rfl hkm hilr | exact a7 rfl (by as_aux_lemma=>kernel_rfl) rfl rfl rfl hgk);apply aa rfl;(first | exact aU (j:=k) rfl rfl rfl rfl rfl (by as_aux_lemma=>kernel_rfl) rfl hkm hilr | exact a7 rfl (by as_aux_lemma=>kernel_rfl) rfl rfl rfl hgk);apply aa rfl;(exact aD rfl rfl rfl rfl);refine aj ?_;refine ai ?_)
  refine au rfl (fun e=> ?_) (fun e=> ?_)
  ·exfalso
   have:=gR ht (k:=k) (by omega)
   simp at e
   exact e this
  ·have e:aC (ends labs) k=3:=by simpa using e
   (refine aI ?_;refine aK ?_;refine ai ?_;refine ab ?_;apply aa rfl;(exact ae rfl rfl);apply aa rfl;(exact aR rfl rfl rfl hwk);apply aa rfl;(exact ag rfl rfl);refine aj ?_)
   exact aX (k + 1) ⟨by omega,fun q h=>by
    by_cases e':q=k
    ·subst e';exact e
    ·exact hq3 q (by omega)⟩ (by omega) (Wk.of ⟨rfl,rfl,rfl,trivial⟩ ⟨rfl,trivial⟩ trivial)
 ·have hgm:(aJ labs.reverse)[m - 1]? =some (I6 (aC (ends labs) (m - 1))):=by rw [hE];exact al (by first | omega | (rw [List.length_reverse];omega))
  have hm1:(m:Int) - 1=((m - 1:Nat):Int):=by omega
  have hws:IntKind.i64.wrap ((m:Int) - 1)=(m:Int) - 1:=IntWalk.i64_in _ (by omega)
  rw [hm] at hlast
  (refine a5 ?_;refine ax ?_;refine ax ?_;refine aM ?_;refine ai ?_;refine ah ?_;refine ab ?_;apply aa rfl;(exact du (E:=2) (k:=1) rfl (by as_aux_lemma=>kernel_rfl));apply aa rfl;(exact ag rfl rfl);refine aj ?_;refine ai ?_;refine ah ?_;refine ah ?_;refine ab ?_;apply aa rfl;(exact ae rfl rfl);apply aa rfl;(exact ae rfl rfl);apply aa rfl;(exact a8 rfl rfl rfl (by as_aux_lemma=>kernel_rfl));apply aa rfl;(first | exact bJ rfl rfl rfl hws | exact aU (j:=m - 1) rfl rfl rfl rfl rfl (by as_aux_lemma=>kernel_rfl) hm1 (by omega) hilr | exact a7 rfl (by as_aux_lemma=>kernel_rfl) rfl rfl rfl hgm);apply aa rfl;(first | exact bJ rfl rfl rfl hws | exact aU (j:=m - 1) rfl rfl rfl rfl rfl (by as_aux_lemma=>kernel_rfl) hm1 (by omega) hilr | exact a7 rfl (by as_aux_lemma=>kernel_rfl) rfl rfl rfl hgm);apply aa rfl;(first | exact bJ rfl rfl rfl hws | exact aU (j:=m - 1) rfl rfl rfl rfl rfl (by as_aux_lemma=>kernel_rfl) hm1 (by omega) hilr | exact a7 rfl (by as_aux_lemma=>kernel_rfl) rfl rfl rfl hgm);refine aj ?_;refine ai ?_;refine aB ?_;refine ah ?_;refine ab ?_;apply aa rfl;(exact aD rfl rfl rfl rfl);apply aa rfl;(exact ag rfl rfl);refine aj ?_;refine ai ?_)
  refine au rfl (fun _=> ?_) (fun e=> ?_)
  rotate_left
  ·exfalso;simp at e;exact e hlast
  (refine ah ?_;refine ab ?_;apply aa rfl;(exact ag rfl rfl);refine aj ?_;refine ai ?_;refine aB ?_)
  have hw2:IntKind.i64.wrap ((m:Int) + 1 + 1)=(m:Int) + 1 + 1:=IntWalk.i64_in _ (by omega)
  refine bl (fun k:Nat=>St.of [(3,vv (I6 ((m:Int) + 1))),(6,o1 (.sl 65 0 k)),(7,vv (I6 (2 + 1 * (k:Int))))] [(65,bw (eZ k 1))]) (fun k=>k≤m + 1) (fun k=>m + 1 - k) 0 (Nat.zero_le _) (Wk.of ⟨rfl,rfl,rfl,trivial⟩ ⟨rfl,trivial⟩ trivial) ?_
  rintro k hk
  have hwa:IntKind.i64.wrap (2 + 1 * (k:Int) + 1)=2 + 1 * ((k + 1:Nat):Int):=(IntWalk.i64_in _ (by omega)).trans (by omega)
  (refine ah ?_;refine ah ?_;refine ab ?_;apply aa rfl;(exact ae rfl rfl);apply aa rfl;(exact ae rfl rfl);apply aa rfl;(exact aR rfl rfl rfl hw2);apply aa rfl;(exact aD rfl rfl rfl rfl);refine aj ?_;refine ai ?_)
  refine bF rfl (fun hlt=> ?_) (fun hlt=> ?_)
  ·(refine aI ?_;refine ai ?_;refine ah ?_;refine aB ?_;refine ab ?_;apply aa rfl;(exact ae rfl rfl);apply aa rfl;(exact ae rfl rfl);apply aa rfl;(exact bM (E:=2) rfl (by as_aux_lemma=>kernel_rfl) rfl);apply aa rfl;(first | exact aR rfl rfl rfl hwa | exact bg rfl (by as_aux_lemma=>kernel_rfl) rfl rfl rfl (cL _ _) rfl rfl (by omega));apply aa rfl;(exact ag rfl rfl);refine aj ?_;refine aK ?_;refine ai ?_;refine ab ?_;apply aa rfl;(exact ae rfl rfl);apply aa rfl;(first | exact aR rfl rfl rfl hwa | exact bg rfl (by as_aux_lemma=>kernel_rfl) rfl rfl rfl (cL _ _) rfl rfl (by omega));apply aa rfl;(exact ag rfl rfl);refine aj ?_)
   exact aX (k + 1) (by omega) (by omega) (Wk.of ⟨rfl,rfl,rfl,trivial⟩ ⟨by rw [gQ];rfl,trivial⟩ trivial)
  ·obtain rfl:k=m + 1:=by omega
   (refine a5 ?_;refine ax ?_;refine ax ?_;refine aM ?_;refine aK ?_;refine ai ?_;refine ah ?_;refine ab ?_;apply aa rfl;(exact ae rfl rfl);apply aa rfl;(exact ag rfl rfl);refine aj ?_;refine ai ?_;refine aW ?_)
   exact bd (.inl rfl) rfl (.tmp rfl) ⟨rfl,trivial⟩ trivial
set_option maxRecDepth 100000 in
set_option maxHeartbeats 2000000 in
theorem uM (zss:List (List Int)) (i m:Nat) (labs:List Int) (hi:i < zss.length) (hlb:bu zss i=labs) (hm:labs.length=m) (hm4:m≤4) (h0:0 < m) (hq:¬(m=1∧0 < aC labs 0)) (e1:bA labs [3,5]=false) (e2:bA labs [3,3,5]=false) (e3:bA labs [3,4,3]=false) (h2:2≤m) (hA:aC labs 0≠3) (ht:eE labs=true) (hlast:aC (ends labs) (labs.length - 1)=4):
  FC Try.prog 59 [(1000,aV zss)] [o1 (.esl 1000 i 0 m)] [(65,bw (eZ (m + 1) 2))] (o1 (.sl 65 0 (m + 1))) []:=by
 have hrow:(bK zss)[i]? =some (aJ labs):=by rw [←hlb];exact ar hi
 have hilm:m≤(aJ labs).length:=by rw [an,hm];exact Nat.le_refl _
 have hE1:=(bt zss i m 2 labs [3,5] hi hlb hm rfl (by omega) (by omega)).nm [(1000,1000),(1001,31)] (by kernel_rfl)
 have hE1:FC Try.prog 77 [(1000,aV zss),(31,de [3,5])] [o1 (.esl 1000 i 0 m),o1 (.sl 31 0 2)] [] (vv (.bool (bA labs [3,5]))) []:=hE1
 rw [e1] at hE1
 have hE2:=(bt zss i m 3 labs [3,3,5] hi hlb hm rfl (by omega) (by omega)).nm [(1000,1000),(1001,36)] (by kernel_rfl)
 have hE2:FC Try.prog 77 [(1000,aV zss),(36,de [3,3,5])] [o1 (.esl 1000 i 0 m),o1 (.sl 36 0 3)] [] (vv (.bool (bA labs [3,3,5]))) []:=hE2
 rw [e2] at hE2
 have hE3:=(bt zss i m 3 labs [3,4,3] hi hlb hm rfl (by omega) (by omega)).nm [(1000,1000),(1001,41)] (by kernel_rfl)
 have hE3:FC Try.prog 77 [(1000,aV zss),(41,de [3,4,3])] [o1 (.esl 1000 i 0 m),o1 (.sl 41 0 3)] [] (vv (.bool (bA labs [3,4,3]))) []:=hE3
 rw [e3] at hE3
 refine bc (nt:=97) Try.func59 rfl rfl (by simp) fun w0 ω0=> ?_
 have hgl:(aJ labs)[0]? =some (I6 (aC labs 0)):=al (by omega)
 have hE:ends labs=labs.reverse:=by unfold ends;rw [if_neg hA]
 have hrl:labs.reverse.length=m:=by simpa using hm
 have hilr:m≤(aJ labs.reverse).length:=by rw [an,hrl];exact Nat.le_refl _
 have hTn:=ib 52 zss i hi (by rw [hlb];omega)
 rw [hlb,hm] at hTn
 have hw1:IntKind.i64.wrap ((m:Int) + 1)=(m:Int) + 1:=IntWalk.i64_in _ (by omega)
 (refine ah ?_;refine ab ?_;apply aa rfl;(exact ag rfl rfl);refine aj ?_;refine ai ?_;refine ah ?_;refine ab ?_;apply aa rfl;(exact ae rfl rfl);apply aa rfl;(exact a8 rfl rfl rfl (by as_aux_lemma=>kernel_rfl));apply aa rfl;(exact aR rfl rfl rfl hw1);apply aa rfl;(exact ag rfl rfl);refine aj ?_;refine ai ?_;refine ah ?_;refine aB ?_;refine ah ?_;refine ab ?_;apply aa rfl;(exact ae rfl rfl);apply aa rfl;(exact aD rfl rfl rfl rfl);apply aa rfl;(exact ag rfl rfl);refine aj ?_;refine ai ?_)
 refine au rfl (fun e=> ?_) (fun _=> ?_)
 ·exfalso;simp at e;omega
 (repeat (first | refine ah ?_ | refine ai ?_ | refine aI ?_ | refine aB ?_ | refine aK ?_ | refine a5 ?_ | refine aM ?_ | refine bZ rfl ?_ | refine ax ?_))
 refine cg (St.of [(0,o1 (.esl 1000 i 0 m)),(3,vv (I6 ((m:Int) + 1))),(16,vv (.bool false))] [(1000,aV zss)]) ?_ ?_
 ·refine ab ?_
  (apply aa rfl;(exact ae rfl rfl);apply aa rfl;(exact aD rfl rfl rfl rfl);apply aa rfl;(exact ae rfl rfl))
  refine bH 19 rfl (fun e1=> ?_) (fun e1=> ?_)
  ·have e1:m=1:=by simp at e1;omega
   have hg2:¬aC labs 0 > 0:=fun h=>hq ⟨e1,h⟩
   have hgl:(aJ labs)[0]? =some (I6 (aC labs 0)):=al (by omega)
   have hbf:dB .i64 .gtr (aC labs 0) 0=some (.bool false):=by simp [dB];omega
   (apply aH rfl rfl rfl;(exact ae rfl rfl);apply aH rfl rfl rfl;(first | exact aD rfl rfl rfl hbf | exact aS (j:=0) rfl rfl rfl rfl rfl (by as_aux_lemma=>kernel_rfl) hrow rfl (by omega) hilm | exact aN rfl (by as_aux_lemma=>kernel_rfl) rfl rfl rfl hrow hgl);apply aH rfl rfl rfl;(first | exact aD rfl rfl rfl hbf | exact aS (j:=0) rfl rfl rfl rfl rfl (by as_aux_lemma=>kernel_rfl) hrow rfl (by omega) hilm | exact aN rfl (by as_aux_lemma=>kernel_rfl) rfl rfl rfl hrow hgl);apply aH rfl rfl rfl;(first | exact aD rfl rfl rfl hbf | exact aS (j:=0) rfl rfl rfl rfl rfl (by as_aux_lemma=>kernel_rfl) hrow rfl (by omega) hilm | exact aN rfl (by as_aux_lemma=>kernel_rfl) rfl rfl rfl hrow hgl);apply aa rfl;(exact bf rfl rfl rfl);apply aa rfl;(exact ag rfl rfl);refine aj ?_)
   exact aL (Wk.of ⟨rfl,rfl,rfl,trivial⟩ ⟨rfl,trivial⟩ trivial)
  ·(apply aG rfl rfl rfl rfl rfl;apply aG rfl rfl rfl rfl rfl;apply aG rfl rfl rfl rfl rfl;apply aG rfl rfl rfl rfl rfl;apply aa rfl;(exact br rfl rfl rfl);apply aa rfl;(exact ag rfl rfl);refine aj ?_)
   exact aL (Wk.of ⟨rfl,rfl,rfl,trivial⟩ ⟨rfl,trivial⟩ trivial)
 (refine ai ?_)
 refine au rfl (fun e=>by cases e) (fun _=> ?_)
 (refine ah ?_;refine ab ?_;apply aa rfl;(exact ae rfl rfl);apply aa rfl;(exact cr (E:=2) rfl (by as_aux_lemma=>kernel_rfl) rfl rfl);apply aa rfl;(first | (apply ak 77;exact aq hE1 (by as_aux_lemma=>kernel_rfl) rfl rfl ⟨rfl,rfl,trivial⟩ ⟨⟨_,rfl, .inl rfl⟩,⟨_,rfl, .inr rfl⟩,trivial⟩ rfl rfl) | exact aO (E:=2) rfl (by as_aux_lemma=>kernel_rfl) rfl rfl rfl | exact aP (E:=2) rfl (by as_aux_lemma=>kernel_rfl) rfl rfl rfl rfl);apply aa rfl;(exact ag rfl rfl);refine aj ?_;refine ai ?_)
 refine au rfl (fun e=>by cases e) (fun _=> ?_)
 (refine ah ?_;refine ab ?_;apply aa rfl;(exact ae rfl rfl);apply aa rfl;(first | (apply ak 77;exact aq hE2 (by as_aux_lemma=>kernel_rfl) rfl rfl ⟨rfl,rfl,trivial⟩ ⟨⟨_,rfl, .inl rfl⟩,⟨_,rfl, .inr rfl⟩,trivial⟩ rfl rfl) | exact aO (E:=2) rfl (by as_aux_lemma=>kernel_rfl) rfl rfl rfl | exact aP (E:=2) rfl (by as_aux_lemma=>kernel_rfl) rfl rfl rfl rfl);apply aa rfl;(first | (apply ak 77;exact aq hE2 (by as_aux_lemma=>kernel_rfl) rfl rfl ⟨rfl,rfl,trivial⟩ ⟨⟨_,rfl, .inl rfl⟩,⟨_,rfl, .inr rfl⟩,trivial⟩ rfl rfl) | exact aO (E:=2) rfl (by as_aux_lemma=>kernel_rfl) rfl rfl rfl | exact aP (E:=2) rfl (by as_aux_lemma=>kernel_rfl) rfl rfl rfl rfl);apply aa rfl;(exact ag rfl rfl);refine aj ?_;refine ai ?_)
 refine au rfl (fun e=>by cases e) (fun _=> ?_)
 (refine ah ?_;refine ab ?_;apply aa rfl;(exact ae rfl rfl);apply aa rfl;(first | (apply ak 77;exact aq hE3 (by as_aux_lemma=>kernel_rfl) rfl rfl ⟨rfl,rfl,trivial⟩ ⟨⟨_,rfl, .inl rfl⟩,⟨_,rfl, .inr rfl⟩,trivial⟩ rfl rfl) | exact aO (E:=2) rfl (by as_aux_lemma=>kernel_rfl) rfl rfl rfl | exact aP (E:=2) rfl (by as_aux_lemma=>kernel_rfl) rfl rfl rfl rfl);apply aa rfl;(first | (apply ak 77;exact aq hE3 (by as_aux_lemma=>kernel_rfl) rfl rfl ⟨rfl,rfl,trivial⟩ ⟨⟨_,rfl, .inl rfl⟩,⟨_,rfl, .inr rfl⟩,trivial⟩ rfl rfl) | exact aO (E:=2) rfl (by as_aux_lemma=>kernel_rfl) rfl rfl rfl | exact aP (E:=2) rfl (by as_aux_lemma=>kernel_rfl) rfl rfl rfl rfl);apply aa rfl;(exact ag rfl rfl);refine aj ?_;refine ai ?_)
 refine au rfl (fun e=>by cases e) (fun _=> ?_)
 (refine aI ?_;refine aK ?_;refine ai ?_;refine ah ?_;refine ah ?_;refine ab ?_;apply aa rfl;(exact ae rfl rfl);apply aa rfl;(exact aD rfl rfl rfl rfl);refine aj ?_;refine ai ?_)
 refine au rfl (fun e=> ?_) (fun _=> ?_)
 ·exfalso;simp at e;omega
 (refine aI ?_;refine ai ?_;refine ah ?_;refine ab ?_;apply aa rfl;(exact ae rfl rfl);apply aa rfl;(exact ag rfl rfl);refine aj ?_;refine ai ?_;refine ah ?_;refine ah ?_;refine ab ?_;apply aa rfl;(exact ae rfl rfl);apply aa rfl;(first | exact aS (j:=0) rfl rfl rfl rfl rfl (by as_aux_lemma=>kernel_rfl) hrow rfl (by omega) hilm | exact aN rfl (by as_aux_lemma=>kernel_rfl) rfl rfl rfl hrow hgl);apply aa rfl;(first | exact aS (j:=0) rfl rfl rfl rfl rfl (by as_aux_lemma=>kernel_rfl) hrow rfl (by omega) hilm | exact aN rfl (by as_aux_lemma=>kernel_rfl) rfl rfl rfl hrow hgl);apply aa rfl;(exact aD rfl rfl rfl rfl);refine aj ?_;refine ai ?_)
 refine au rfl (fun e=> ?_) (fun e=> ?_)
 rotate_left
 ·exfalso;simp at e;exact hA e
 (refine ab ?_;apply aa rfl;(exact ae rfl rfl);apply aa rfl;(apply ak 78;exact bz hTn (by as_aux_lemma=>kernel_rfl) rfl rfl ⟨rfl,trivial⟩ ⟨⟨_,rfl, .inl rfl⟩,trivial⟩ rfl rfl rfl);apply aa rfl;(exact ag rfl rfl);refine aj ?_;refine ai ?_;refine ah ?_;refine ah ?_;refine ab ?_;apply aa rfl;(exact ag rfl rfl);refine aj ?_;refine ai ?_;refine aB ?_)
 refine bl (fun k:Nat=>St.of [(3,vv (I6 ((m:Int) + 1))),(4,o1 (.sl 52 0 m)),(5,vv (I6 k))] [(52,bw labs.reverse)]) (fun k=>k≤m - 1∧∀q,q < k→aC (ends labs) q=3) (fun k=>m - k) 0 ⟨Nat.zero_le _,fun q h=>absurd h (by omega)⟩ (Wk.of ⟨rfl,rfl,rfl,trivial⟩ ⟨rfl,trivial⟩ trivial) ?_
 rintro k ⟨hk,hq3⟩
 have hkm:k < m:=by omega
 have hgk:(aJ labs.reverse)[k]? =some (I6 (aC (ends labs) k)):=by rw [hE];exact al (by first | omega | (rw [List.length_reverse];omega))
 have hwk:IntKind.i64.wrap ((k:Int) + 1)=(k:Int) + 1:=IntWalk.i64_in _ (by omega)
 (refine ah ?_;refine ah ?_;refine ab ?_;apply aa rfl;(exact ae rfl rfl);apply aa rfl;(exact aR rfl rfl rfl hwk);apply aa rfl;(exact ae rfl rfl);apply aa rfl;(exact a8 rfl rfl rfl (by as_aux_lemma=>kernel_rfl));apply aa rfl;(exact aD rfl rfl rfl rfl);refine aj ?_;refine ai ?_)
 refine bF rfl (fun hlt=> ?_) (fun hlt=> ?_)
 ·(refine aI ?_;refine ai ?_;refine ah ?_;refine aB ?_;refine ah ?_;refine ab ?_;apply aa rfl;(exact ae rfl rfl);apply aa rfl;(exact ae rfl rfl);apply aa rfl;(first | exact aU (j:=k) rfl rfl rfl rfl rfl (by as_aux_lemma=>kernel_rfl) rfl hkm hilr | exact a7 rfl (by as_aux_lemma=>kernel_rfl) rfl rfl rfl hgk);apply aa rfl;(first | exact aU (j:=k) rfl rfl rfl rfl rfl (by as_aux_lemma=>kernel_rfl) rfl hkm hilr | exact a7 rfl (by as_aux_lemma=>kernel_rfl) rfl rfl rfl hgk);apply aa rfl;(exact aD rfl rfl rfl rfl);refine aj ?_;refine ai ?_)
  refine au rfl (fun e=> ?_) (fun e=> ?_)
  ·exfalso
   have:=gR ht (k:=k) (by omega)
   simp at e
   exact e this
  ·have e:aC (ends labs) k=3:=by simpa using e
   (refine aI ?_;refine aK ?_;refine ai ?_;refine ab ?_;apply aa rfl;(exact ae rfl rfl);apply aa rfl;(exact aR rfl rfl rfl hwk);apply aa rfl;(exact ag rfl rfl);refine aj ?_)
   exact aX (k + 1) ⟨by omega,fun q h=>by
    by_cases e':q=k
    ·subst e';exact e
    ·exact hq3 q (by omega)⟩ (by omega) (Wk.of ⟨rfl,rfl,rfl,trivial⟩ ⟨rfl,trivial⟩ trivial)
 ·have hgm:(aJ labs.reverse)[m - 1]? =some (I6 (aC (ends labs) (m - 1))):=by rw [hE];exact al (by first | omega | (rw [List.length_reverse];omega))
  have hm1:(m:Int) - 1=((m - 1:Nat):Int):=by omega
  have hws:IntKind.i64.wrap ((m:Int) - 1)=(m:Int) - 1:=IntWalk.i64_in _ (by omega)
  rw [hm] at hlast
  (refine a5 ?_;refine ax ?_;refine ax ?_;refine aM ?_;refine ai ?_;refine ah ?_;refine ab ?_;apply aa rfl;(exact du (E:=2) (k:=1) rfl (by as_aux_lemma=>kernel_rfl));apply aa rfl;(exact ag rfl rfl);refine aj ?_;refine ai ?_;refine ah ?_;refine ah ?_;refine ab ?_;apply aa rfl;(exact ae rfl rfl);apply aa rfl;(exact ae rfl rfl);apply aa rfl;(exact a8 rfl rfl rfl (by as_aux_lemma=>kernel_rfl));apply aa rfl;(first | exact bJ rfl rfl rfl hws | exact aU (j:=m - 1) rfl rfl rfl rfl rfl (by as_aux_lemma=>kernel_rfl) hm1 (by omega) hilr | exact a7 rfl (by as_aux_lemma=>kernel_rfl) rfl rfl rfl hgm);apply aa rfl;(first | exact bJ rfl rfl rfl hws | exact aU (j:=m - 1) rfl rfl rfl rfl rfl (by as_aux_lemma=>kernel_rfl) hm1 (by omega) hilr | exact a7 rfl (by as_aux_lemma=>kernel_rfl) rfl rfl rfl hgm);apply aa rfl;(first | exact bJ rfl rfl rfl hws | exact aU (j:=m - 1) rfl rfl rfl rfl rfl (by as_aux_lemma=>kernel_rfl) hm1 (by omega) hilr | exact a7 rfl (by as_aux_lemma=>kernel_rfl) rfl rfl rfl hgm);refine aj ?_;refine ai ?_;refine aB ?_;refine ah ?_;refine ab ?_;apply aa rfl;(exact aD rfl rfl rfl rfl);apply aa rfl;(exact ag rfl rfl);refine aj ?_;refine ai ?_)
  refine au rfl (fun e=> ?_) (fun _=> ?_)
  ·exfalso;simp at e;omega
  (refine ah ?_;refine ab ?_;apply aa rfl;(exact aD rfl rfl rfl rfl);apply aa rfl;(exact ag rfl rfl);refine aj ?_;refine ai ?_)
  refine au rfl (fun _=> ?_) (fun e=> ?_)
  rotate_left
  ·exfalso;simp at e;exact e hlast
  (refine ah ?_;refine ab ?_;apply aa rfl;(exact ag rfl rfl);refine aj ?_;refine ai ?_;refine aB ?_)
  have hw2:IntKind.i64.wrap (2 * ((m:Int) + 1))=2 * ((m:Int) + 1):=IntWalk.i64_in _ (by omega)
  refine bl (fun k:Nat=>St.of [(3,vv (I6 ((m:Int) + 1))),(6,o1 (.sl 65 0 k)),(8,vv (I6 (2 + 2 * (k:Int))))] [(65,bw (eZ k 2))]) (fun k=>k≤m + 1) (fun k=>m + 1 - k) 0 (Nat.zero_le _) (Wk.of ⟨rfl,rfl,rfl,trivial⟩ ⟨rfl,trivial⟩ trivial) ?_
  rintro k hk
  have hwa:IntKind.i64.wrap (2 + 2 * (k:Int) + 2)=2 + 2 * ((k + 1:Nat):Int):=(IntWalk.i64_in _ (by omega)).trans (by omega)
  (refine ah ?_;refine ah ?_;refine ab ?_;apply aa rfl;(exact ae rfl rfl);apply aa rfl;(exact ae rfl rfl);apply aa rfl;(exact c9 rfl rfl rfl hw2);apply aa rfl;(exact aD rfl rfl rfl rfl);refine aj ?_;refine ai ?_)
  refine bF rfl (fun hlt=> ?_) (fun hlt=> ?_)
  ·(refine aI ?_;refine ai ?_;refine ah ?_;refine aB ?_;refine ab ?_;apply aa rfl;(exact ae rfl rfl);apply aa rfl;(exact ae rfl rfl);apply aa rfl;(exact bM (E:=2) rfl (by as_aux_lemma=>kernel_rfl) rfl);apply aa rfl;(first | exact aR rfl rfl rfl hwa | exact bg rfl (by as_aux_lemma=>kernel_rfl) rfl rfl rfl (cL _ _) rfl rfl (by omega));apply aa rfl;(exact ag rfl rfl);refine aj ?_;refine aK ?_;refine ai ?_;refine ab ?_;apply aa rfl;(exact ae rfl rfl);apply aa rfl;(first | exact aR rfl rfl rfl hwa | exact bg rfl (by as_aux_lemma=>kernel_rfl) rfl rfl rfl (cL _ _) rfl rfl (by omega));apply aa rfl;(exact ag rfl rfl);refine aj ?_)
   exact aX (k + 1) (by omega) (by omega) (Wk.of ⟨rfl,rfl,rfl,trivial⟩ ⟨by rw [gQ];rfl,trivial⟩ trivial)
  ·obtain rfl:k=m + 1:=by omega
   (refine a5 ?_;refine ax ?_;refine ax ?_;refine aM ?_;refine aK ?_;refine ai ?_;refine ah ?_;refine ab ?_;apply aa rfl;(exact ae rfl rfl);apply aa rfl;(exact ag rfl rfl);refine aj ?_;refine ai ?_;refine aW ?_)
   exact bd (.inl rfl) rfl (.tmp rfl) ⟨rfl,trivial⟩ trivial
set_option maxRecDepth 100000 in
set_option maxHeartbeats 2000000 in
theorem vc (zss:List (List Int)) (i m:Nat) (labs:List Int) (hi:i < zss.length) (hlb:bu zss i=labs) (hm:labs.length=m) (hm4:m≤4) (h0:0 < m) (hq:¬(m=1∧0 < aC labs 0)) (e1:bA labs [3,5]=false) (e2:bA labs [3,3,5]=false) (e3:bA labs [3,4,3]=false) (h2:2≤m) (hA:aC labs 0≠3) (ht:eE labs=true) (hlast:aC (ends labs) (labs.length - 1)≠3∧aC (ends labs) (labs.length - 1)≠4):
  FC Try.prog 59 [(1000,aV zss)] [o1 (.esl 1000 i 0 m)] [(65,bw [])] (o1 (.sl 65 0 0)) []:=by
 have hrow:(bK zss)[i]? =some (aJ labs):=by rw [←hlb];exact ar hi
 have hilm:m≤(aJ labs).length:=by rw [an,hm];exact Nat.le_refl _
 have hE1:=(bt zss i m 2 labs [3,5] hi hlb hm rfl (by omega) (by omega)).nm [(1000,1000),(1001,31)] (by kernel_rfl)
 have hE1:FC Try.prog 77 [(1000,aV zss),(31,de [3,5])] [o1 (.esl 1000 i 0 m),o1 (.sl 31 0 2)] [] (vv (.bool (bA labs [3,5]))) []:=hE1
 rw [e1] at hE1
 have hE2:=(bt zss i m 3 labs [3,3,5] hi hlb hm rfl (by omega) (by omega)).nm [(1000,1000),(1001,36)] (by kernel_rfl)
 have hE2:FC Try.prog 77 [(1000,aV zss),(36,de [3,3,5])] [o1 (.esl 1000 i 0 m),o1 (.sl 36 0 3)] [] (vv (.bool (bA labs [3,3,5]))) []:=hE2
 rw [e2] at hE2
 have hE3:=(bt zss i m 3 labs [3,4,3] hi hlb hm rfl (by omega) (by omega)).nm [(1000,1000),(1001,41)] (by kernel_rfl)
 have hE3:FC Try.prog 77 [(1000,aV zss),(41,de [3,4,3])] [o1 (.esl 1000 i 0 m),o1 (.sl 41 0 3)] [] (vv (.bool (bA labs [3,4,3]))) []:=hE3
 rw [e3] at hE3
 refine bc (nt:=97) Try.func59 rfl rfl (by simp) fun w0 ω0=> ?_
 have hgl:(aJ labs)[0]? =some (I6 (aC labs 0)):=al (by omega)
 have hE:ends labs=labs.reverse:=by unfold ends;rw [if_neg hA]
 have hrl:labs.reverse.length=m:=by simpa using hm
 have hilr:m≤(aJ labs.reverse).length:=by rw [an,hrl];exact Nat.le_refl _
 have hTn:=ib 52 zss i hi (by rw [hlb];omega)
 rw [hlb,hm] at hTn
 have hw1:IntKind.i64.wrap ((m:Int) + 1)=(m:Int) + 1:=IntWalk.i64_in _ (by omega)
 (refine ah ?_;refine ab ?_;apply aa rfl;(exact ag rfl rfl);refine aj ?_;refine ai ?_;refine ah ?_;refine ab ?_;apply aa rfl;(exact ae rfl rfl);apply aa rfl;(exact a8 rfl rfl rfl (by as_aux_lemma=>kernel_rfl));apply aa rfl;(exact aR rfl rfl rfl hw1);apply aa rfl;(exact ag rfl rfl);refine aj ?_;refine ai ?_;refine ah ?_;refine aB ?_;refine ah ?_;refine ab ?_;apply aa rfl;(exact ae rfl rfl);apply aa rfl;(exact aD rfl rfl rfl rfl);apply aa rfl;(exact ag rfl rfl);refine aj ?_;refine ai ?_)
 refine au rfl (fun e=> ?_) (fun _=> ?_)
 ·exfalso;simp at e;omega
 (repeat (first | refine ah ?_ | refine ai ?_ | refine aI ?_ | refine aB ?_ | refine aK ?_ | refine a5 ?_ | refine aM ?_ | refine bZ rfl ?_ | refine ax ?_))
 refine cg (St.of [(0,o1 (.esl 1000 i 0 m)),(3,vv (I6 ((m:Int) + 1))),(16,vv (.bool false))] [(1000,aV zss)]) ?_ ?_
 ·refine ab ?_
  (apply aa rfl;(exact ae rfl rfl);apply aa rfl;(exact aD rfl rfl rfl rfl);apply aa rfl;(exact ae rfl rfl))
  refine bH 19 rfl (fun e1=> ?_) (fun e1=> ?_)
  ·have e1:m=1:=by simp at e1;omega
   have hg2:¬aC labs 0 > 0:=fun h=>hq ⟨e1,h⟩
   have hgl:(aJ labs)[0]? =some (I6 (aC labs 0)):=al (by omega)
   have hbf:dB .i64 .gtr (aC labs 0) 0=some (.bool false):=by simp [dB];omega
   (apply aH rfl rfl rfl;(exact ae rfl rfl);apply aH rfl rfl rfl;(first | exact aD rfl rfl rfl hbf | exact aS (j:=0) rfl rfl rfl rfl rfl (by as_aux_lemma=>kernel_rfl) hrow rfl (by omega) hilm | exact aN rfl (by as_aux_lemma=>kernel_rfl) rfl rfl rfl hrow hgl);apply aH rfl rfl rfl;(first | exact aD rfl rfl rfl hbf | exact aS (j:=0) rfl rfl rfl rfl rfl (by as_aux_lemma=>kernel_rfl) hrow rfl (by omega) hilm | exact aN rfl (by as_aux_lemma=>kernel_rfl) rfl rfl rfl hrow hgl);apply aH rfl rfl rfl;(first | exact aD rfl rfl rfl hbf | exact aS (j:=0) rfl rfl rfl rfl rfl (by as_aux_lemma=>kernel_rfl) hrow rfl (by omega) hilm | exact aN rfl (by as_aux_lemma=>kernel_rfl) rfl rfl rfl hrow hgl);apply aa rfl;(exact bf rfl rfl rfl);apply aa rfl;(exact ag rfl rfl);refine aj ?_)
   exact aL (Wk.of ⟨rfl,rfl,rfl,trivial⟩ ⟨rfl,trivial⟩ trivial)
  ·(apply aG rfl rfl rfl rfl rfl;apply aG rfl rfl rfl rfl rfl;apply aG rfl rfl rfl rfl rfl;apply aG rfl rfl rfl rfl rfl;apply aa rfl;(exact br rfl rfl rfl);apply aa rfl;(exact ag rfl rfl);refine aj ?_)
   exact aL (Wk.of ⟨rfl,rfl,rfl,trivial⟩ ⟨rfl,trivial⟩ trivial)
 (refine ai ?_)
 refine au rfl (fun e=>by cases e) (fun _=> ?_)
 (refine ah ?_;refine ab ?_;apply aa rfl;(exact ae rfl rfl);apply aa rfl;(exact cr (E:=2) rfl (by as_aux_lemma=>kernel_rfl) rfl rfl);apply aa rfl;(first | (apply ak 77;exact aq hE1 (by as_aux_lemma=>kernel_rfl) rfl rfl ⟨rfl,rfl,trivial⟩ ⟨⟨_,rfl, .inl rfl⟩,⟨_,rfl, .inr rfl⟩,trivial⟩ rfl rfl) | exact aO (E:=2) rfl (by as_aux_lemma=>kernel_rfl) rfl rfl rfl | exact aP (E:=2) rfl (by as_aux_lemma=>kernel_rfl) rfl rfl rfl rfl);apply aa rfl;(exact ag rfl rfl);refine aj ?_;refine ai ?_)
 refine au rfl (fun e=>by cases e) (fun _=> ?_)
 (refine ah ?_;refine ab ?_;apply aa rfl;(exact ae rfl rfl);apply aa rfl;(first | (apply ak 77;exact aq hE2 (by as_aux_lemma=>kernel_rfl) rfl rfl ⟨rfl,rfl,trivial⟩ ⟨⟨_,rfl, .inl rfl⟩,⟨_,rfl, .inr rfl⟩,trivial⟩ rfl rfl) | exact aO (E:=2) rfl (by as_aux_lemma=>kernel_rfl) rfl rfl rfl | exact aP (E:=2) rfl (by as_aux_lemma=>kernel_rfl) rfl rfl rfl rfl);apply aa rfl;(first | (apply ak 77;exact aq hE2 (by as_aux_lemma=>kernel_rfl) rfl rfl ⟨rfl,rfl,trivial⟩ ⟨⟨_,rfl, .inl rfl⟩,⟨_,rfl, .inr rfl⟩,trivial⟩ rfl rfl) | exact aO (E:=2) rfl (by as_aux_lemma=>kernel_rfl) rfl rfl rfl | exact aP (E:=2) rfl (by as_aux_lemma=>kernel_rfl) rfl rfl rfl rfl);apply aa rfl;(exact ag rfl rfl);refine aj ?_;refine ai ?_)
 refine au rfl (fun e=>by cases e) (fun _=> ?_)
 (refine ah ?_;refine ab ?_;apply aa rfl;(exact ae rfl rfl);apply aa rfl;(first | (apply ak 77;exact aq hE3 (by as_aux_lemma=>kernel_rfl) rfl rfl ⟨rfl,rfl,trivial⟩ ⟨⟨_,rfl, .inl rfl⟩,⟨_,rfl, .inr rfl⟩,trivial⟩ rfl rfl) | exact aO (E:=2) rfl (by as_aux_lemma=>kernel_rfl) rfl rfl rfl | exact aP (E:=2) rfl (by as_aux_lemma=>kernel_rfl) rfl rfl rfl rfl);apply aa rfl;(first | (apply ak 77;exact aq hE3 (by as_aux_lemma=>kernel_rfl) rfl rfl ⟨rfl,rfl,trivial⟩ ⟨⟨_,rfl, .inl rfl⟩,⟨_,rfl, .inr rfl⟩,trivial⟩ rfl rfl) | exact aO (E:=2) rfl (by as_aux_lemma=>kernel_rfl) rfl rfl rfl | exact aP (E:=2) rfl (by as_aux_lemma=>kernel_rfl) rfl rfl rfl rfl);apply aa rfl;(exact ag rfl rfl);refine aj ?_;refine ai ?_)
 refine au rfl (fun e=>by cases e) (fun _=> ?_)
 (refine aI ?_;refine aK ?_;refine ai ?_;refine ah ?_;refine ah ?_;refine ab ?_;apply aa rfl;(exact ae rfl rfl);apply aa rfl;(exact aD rfl rfl rfl rfl);refine aj ?_;refine ai ?_)
 refine au rfl (fun e=> ?_) (fun _=> ?_)
 ·exfalso;simp at e;omega
 (refine aI ?_;refine ai ?_;refine ah ?_;refine ab ?_;apply aa rfl;(exact ae rfl rfl);apply aa rfl;(exact ag rfl rfl);refine aj ?_;refine ai ?_;refine ah ?_;refine ah ?_;refine ab ?_;apply aa rfl;(exact ae rfl rfl);apply aa rfl;(first | exact aS (j:=0) rfl rfl rfl rfl rfl (by as_aux_lemma=>kernel_rfl) hrow rfl (by omega) hilm | exact aN rfl (by as_aux_lemma=>kernel_rfl) rfl rfl rfl hrow hgl);apply aa rfl;(first | exact aS (j:=0) rfl rfl rfl rfl rfl (by as_aux_lemma=>kernel_rfl) hrow rfl (by omega) hilm | exact aN rfl (by as_aux_lemma=>kernel_rfl) rfl rfl rfl hrow hgl);apply aa rfl;(exact aD rfl rfl rfl rfl);refine aj ?_;refine ai ?_)
 refine au rfl (fun e=> ?_) (fun e=> ?_)
 rotate_left
 ·exfalso;simp at e;exact hA e
 (refine ab ?_;apply aa rfl;(exact ae rfl rfl);apply aa rfl;(apply ak 78;exact bz hTn (by as_aux_lemma=>kernel_rfl) rfl rfl ⟨rfl,trivial⟩ ⟨⟨_,rfl, .inl rfl⟩,trivial⟩ rfl rfl rfl);apply aa rfl;(exact ag rfl rfl);refine aj ?_;refine ai ?_;refine ah ?_;refine ah ?_;refine ab ?_;apply aa rfl;(exact ag rfl rfl);refine aj ?_;refine ai ?_;refine aB ?_)
 refine bl (fun k:Nat=>St.of [(3,vv (I6 ((m:Int) + 1))),(4,o1 (.sl 52 0 m)),(5,vv (I6 k))] [(52,bw labs.reverse)]) (fun k=>k≤m - 1∧∀q,q < k→aC (ends labs) q=3) (fun k=>m - k) 0 ⟨Nat.zero_le _,fun q h=>absurd h (by omega)⟩ (Wk.of ⟨rfl,rfl,rfl,trivial⟩ ⟨rfl,trivial⟩ trivial) ?_
 rintro k ⟨hk,hq3⟩
 have hkm:k < m:=by omega
 have hgk:(aJ labs.reverse)[k]? =some (I6 (aC (ends labs) k)):=by rw [hE];exact al (by first | omega | (rw [List.length_reverse];omega))
 have hwk:IntKind.i64.wrap ((k:Int) + 1)=(k:Int) + 1:=IntWalk.i64_in _ (by omega)
 (refine ah ?_;refine ah ?_;refine ab ?_;apply aa rfl;(exact ae rfl rfl);apply aa rfl;(exact aR rfl rfl rfl hwk);apply aa rfl;(exact ae rfl rfl);apply aa rfl;(exact a8 rfl rfl rfl (by as_aux_lemma=>kernel_rfl));apply aa rfl;(exact aD rfl rfl rfl rfl);refine aj ?_;refine ai ?_)
 refine bF rfl (fun hlt=> ?_) (fun hlt=> ?_)
 ·(refine aI ?_;refine ai ?_;refine ah ?_;refine aB ?_;refine ah ?_;refine ab ?_;apply aa rfl;(exact ae rfl rfl);apply aa rfl;(exact ae rfl rfl);apply aa rfl;(first | exact aU (j:=k) rfl rfl rfl rfl rfl (by as_aux_lemma=>kernel_rfl) rfl hkm hilr | exact a7 rfl (by as_aux_lemma=>kernel_rfl) rfl rfl rfl hgk);apply aa rfl;(first | exact aU (j:=k) rfl rfl rfl rfl rfl (by as_aux_lemma=>kernel_rfl) rfl hkm hilr | exact a7 rfl (by as_aux_lemma=>kernel_rfl) rfl rfl rfl hgk);apply aa rfl;(exact aD rfl rfl rfl rfl);refine aj ?_;refine ai ?_)
  refine au rfl (fun e=> ?_) (fun e=> ?_)
  ·exfalso
   have:=gR ht (k:=k) (by omega)
   simp at e
   exact e this
  ·have e:aC (ends labs) k=3:=by simpa using e
   (refine aI ?_;refine aK ?_;refine ai ?_;refine ab ?_;apply aa rfl;(exact ae rfl rfl);apply aa rfl;(exact aR rfl rfl rfl hwk);apply aa rfl;(exact ag rfl rfl);refine aj ?_)
   exact aX (k + 1) ⟨by omega,fun q h=>by
    by_cases e':q=k
    ·subst e';exact e
    ·exact hq3 q (by omega)⟩ (by omega) (Wk.of ⟨rfl,rfl,rfl,trivial⟩ ⟨rfl,trivial⟩ trivial)
 ·have hgm:(aJ labs.reverse)[m - 1]? =some (I6 (aC (ends labs) (m - 1))):=by rw [hE];exact al (by first | omega | (rw [List.length_reverse];omega))
  have hm1:(m:Int) - 1=((m - 1:Nat):Int):=by omega
  have hws:IntKind.i64.wrap ((m:Int) - 1)=(m:Int) - 1:=IntWalk.i64_in _ (by omega)
  rw [hm] at hlast
  (refine a5 ?_;refine ax ?_;refine ax ?_;refine aM ?_;refine ai ?_;refine ah ?_;refine ab ?_;apply aa rfl;(exact du (E:=2) (k:=1) rfl (by as_aux_lemma=>kernel_rfl));apply aa rfl;(exact ag rfl rfl);refine aj ?_;refine ai ?_;refine ah ?_;refine ah ?_;refine ab ?_;apply aa rfl;(exact ae rfl rfl);apply aa rfl;(exact ae rfl rfl);apply aa rfl;(exact a8 rfl rfl rfl (by as_aux_lemma=>kernel_rfl));apply aa rfl;(first | exact bJ rfl rfl rfl hws | exact aU (j:=m - 1) rfl rfl rfl rfl rfl (by as_aux_lemma=>kernel_rfl) hm1 (by omega) hilr | exact a7 rfl (by as_aux_lemma=>kernel_rfl) rfl rfl rfl hgm);apply aa rfl;(first | exact bJ rfl rfl rfl hws | exact aU (j:=m - 1) rfl rfl rfl rfl rfl (by as_aux_lemma=>kernel_rfl) hm1 (by omega) hilr | exact a7 rfl (by as_aux_lemma=>kernel_rfl) rfl rfl rfl hgm);apply aa rfl;(first | exact bJ rfl rfl rfl hws | exact aU (j:=m - 1) rfl rfl rfl rfl rfl (by as_aux_lemma=>kernel_rfl) hm1 (by omega) hilr | exact a7 rfl (by as_aux_lemma=>kernel_rfl) rfl rfl rfl hgm);refine aj ?_;refine ai ?_;refine aB ?_;refine ah ?_;refine ab ?_;apply aa rfl;(exact aD rfl rfl rfl rfl);apply aa rfl;(exact ag rfl rfl);refine aj ?_;refine ai ?_)
  refine au rfl (fun e=> ?_) (fun _=> ?_)
  ·exfalso;simp at e;exact hlast.1 e
  (refine ah ?_;refine ab ?_;apply aa rfl;(exact aD rfl rfl rfl rfl);apply aa rfl;(exact ag rfl rfl);refine aj ?_;refine ai ?_)
  refine au rfl (fun e=> ?_) (fun _=> ?_)
  ·exfalso;simp at e;exact hlast.2 e
  (refine aI ?_;refine aK ?_;refine ai ?_;refine ah ?_;refine ab ?_;apply aa rfl;(exact ae rfl rfl);apply aa rfl;(exact ag rfl rfl);refine aj ?_;refine ai ?_;refine aW ?_)
  exact bd (.inl rfl) rfl (.tmp rfl) ⟨rfl,trivial⟩ trivial
theorem vU (zss:List (List Int)) (i m:Nat) (labs:List Int) (hi:i < zss.length) (hlb:bu zss i=labs) (hm:labs.length=m) (hm4:m≤4):
  (cX labs= []∧FC Try.prog 59 [(1000,aV zss)] [o1 (.esl 1000 i 0 m)] [] (vv (.slice none 0 0)) [])∨FC Try.prog 59 [(1000,aV zss)] [o1 (.esl 1000 i 0 m)] [(2100,bw (cX labs))] (o1 (.sl 2100 0 (cX labs).length)) []:=by
 unfold cX
 rw [hm]
 by_cases h0:m=0
 ·rw [if_pos h0]
  subst h0
  exact .inr ((zS zss i 0 labs hi hlb hm hm4 rfl).nm [(1000,1000),(15,2100)] (by kernel_rfl))
 rw [if_neg h0]
 by_cases hq:m=1∧0 < aC labs 0
 ·rw [if_pos hq]
  obtain ⟨rfl,hp⟩:=hq
  exact .inr ((ze zss i 1 labs hi hlb hm hm4 rfl hp).nm [(1000,1000),(28,2100)] (by kernel_rfl))
 rw [if_neg hq]
 have h0':0 < m:=by omega
 cases e1:bA labs [3,5] with
 | true=>
  obtain rfl:m=2:=by rcases eU.1 e1 with rfl | rfl<;>exact hm.symm
  exact .inr ((zk zss i 2 labs hi hlb hm hm4 h0' hq e1).nm [(1000,1000),(33,2100)] (by kernel_rfl))
 | false=>
 cases e2:bA labs [3,3,5] with
 | true=>
  obtain rfl:m=3:=by rcases eU.1 e2 with rfl | rfl<;>exact hm.symm
  exact .inr ((yq zss i 3 labs hi hlb hm hm4 h0' hq e1 e2).nm [(1000,1000),(38,2100)] (by kernel_rfl))
 | false=>
 cases e3:bA labs [3,4,3] with
 | true=>
  obtain rfl:m=3:=by rcases eU.1 e3 with rfl | rfl<;>exact hm.symm
  exact .inr ((z7 zss i 3 labs hi hlb hm hm4 h0' hq e1 e2 e3).nm [(1000,1000),(43,2100)] (by kernel_rfl))
 | false=>
 by_cases h1:m=1
 ·have hl:labs= [aC labs 0]:=by
   match labs,hm,h1 with
   | [a],_,_=>rfl
  have hz:¬0 < aC labs 0:=fun h=>hq ⟨h1,h⟩
  have e4:labs≠List.replicate m 3:=by
   rw [hl,h1];intro e;simp at e;omega
  have e5:bA labs ((List.replicate m (3:Int)).set 0 4)=false:=by
   rw [hl,h1]
   cases h:bA [aC labs 0] ((List.replicate 1 (3:Int)).set 0 4) with
   | false=>rfl
   | true=>
    rcases eU.1 h with h | h<;>(simp at h;omega)
  simp only [Bool.false_eq_true,if_false]
  rw [if_neg e4,e5]
  exact .inl ⟨rfl,yG zss i m labs hi hlb hm hm4 h0' hq e1 e2 e3 h1⟩
 have h2:2≤m:=by omega
 have hte:=zn (part:=labs) (by omega) (by omega)
 rw [hm] at hte
 simp only [Bool.false_eq_true,if_false]
 rw [←hte]
 unfold tA
 rw [hm]
 cases ht:eE labs with
 | false=>
  rw [if_neg (by simp)]
  refine .inl ⟨rfl, ?_⟩
  by_cases hA:aC labs 0=3
  ·exact uL zss i m labs hi hlb hm hm4 h0' hq e1 e2 e3 h2 hA ht
  ·exact uH zss i m labs hi hlb hm hm4 h0' hq e1 e2 e3 h2 hA ht
 | true=>
  rw [if_pos rfl]
  refine .inr ?_
  by_cases l3:aC (ends labs) (m - 1)=3
  ·rw [if_pos l3,cL]
   have l3':aC (ends labs) (labs.length - 1)=3:=by rw [hm];exact l3
   by_cases hA:aC labs 0=3
   ·exact (vk zss i m labs hi hlb hm hm4 h0' hq e1 e2 e3 h2 hA ht l3').nm [(1000,1000),(65,2100)] (by kernel_rfl)
   ·exact (uA zss i m labs hi hlb hm hm4 h0' hq e1 e2 e3 h2 hA ht l3').nm [(1000,1000),(65,2100)] (by kernel_rfl)
  rw [if_neg l3]
  by_cases l4:aC (ends labs) (m - 1)=4
  ·rw [if_pos l4,cL]
   have l4':aC (ends labs) (labs.length - 1)=4:=by rw [hm];exact l4
   by_cases hA:aC labs 0=3
   ·exact (uI zss i m labs hi hlb hm hm4 h0' hq e1 e2 e3 h2 hA ht l4').nm [(1000,1000),(65,2100)] (by kernel_rfl)
   ·exact (uM zss i m labs hi hlb hm hm4 h0' hq e1 e2 e3 h2 hA ht l4').nm [(1000,1000),(65,2100)] (by kernel_rfl)
  rw [if_neg l4]
  have l':aC (ends labs) (labs.length - 1)≠3∧aC (ends labs) (labs.length - 1)≠4:=by rw [hm];exact ⟨l3,l4⟩
  by_cases hA:aC labs 0=3
  ·exact (vq zss i m labs hi hlb hm hm4 h0' hq e1 e2 e3 h2 hA ht l').nm [(1000,1000),(65,2100)] (by kernel_rfl)
  ·exact (vc zss i m labs hi hlb hm hm4 h0' hq e1 e2 e3 h2 hA ht l').nm [(1000,1000),(65,2100)] (by kernel_rfl)
set_option maxRecDepth 100000 in
set_option maxHeartbeats 2000000 in
theorem uq (zss:List (List Int)) (i m:Nat) (labs:List Int) (hi:i < zss.length) (hlb:bu zss i=labs) (hm:labs.length=m) (hm4:m≤4):
  FC Try.prog 60 [(1000,aV zss)] [o1 (.esl 1000 i 0 m)] [] (vv (.bool (As labs))) []:=by
 have hE0:=(bt zss i m 1 labs [0] hi hlb hm rfl (by omega) (by omega)).nm [(1000,1000),(1001,4)] (by kernel_rfl)
 have hE0:FC Try.prog 77 [(1000,aV zss),(4,de [0])] [o1 (.esl 1000 i 0 m),o1 (.sl 4 0 1)] [] (vv (.bool (bA labs [0]))) []:=hE0
 have hE1:=(bt zss i m 2 labs [4,4] hi hlb hm rfl (by omega) (by omega)).nm [(1000,1000),(1001,8)] (by kernel_rfl)
 have hE1:FC Try.prog 77 [(1000,aV zss),(8,de [4,4])] [o1 (.esl 1000 i 0 m),o1 (.sl 8 0 2)] [] (vv (.bool (bA labs [4,4]))) []:=hE1
 have hE2:=(bt zss i m 2 labs [3,6] hi hlb hm rfl (by omega) (by omega)).nm [(1000,1000),(1001,13)] (by kernel_rfl)
 have hE2:FC Try.prog 77 [(1000,aV zss),(13,de [3,6])] [o1 (.esl 1000 i 0 m),o1 (.sl 13 0 2)] [] (vv (.bool (bA labs [3,6]))) []:=hE2
 have hE3:=(bt zss i m 3 labs [4,3,4] hi hlb hm rfl (by omega) (by omega)).nm [(1000,1000),(1001,18)] (by kernel_rfl)
 have hE3:FC Try.prog 77 [(1000,aV zss),(18,de [4,3,4])] [o1 (.esl 1000 i 0 m),o1 (.sl 18 0 3)] [] (vv (.bool (bA labs [4,3,4]))) []:=hE3
 have hE4:=(bt zss i m 4 labs [3,4,3,3] hi hlb hm rfl (by omega) (by omega)).nm [(1000,1000),(1001,23)] (by kernel_rfl)
 have hE4:FC Try.prog 77 [(1000,aV zss),(23,de [3,4,3,3])] [o1 (.esl 1000 i 0 m),o1 (.sl 23 0 4)] [] (vv (.bool (bA labs [3,4,3,3]))) []:=hE4
 have hE5:=(bt zss i m 4 labs [4,3,3,4] hi hlb hm rfl (by omega) (by omega)).nm [(1000,1000),(1001,28)] (by kernel_rfl)
 have hE5:FC Try.prog 77 [(1000,aV zss),(28,de [4,3,3,4])] [o1 (.esl 1000 i 0 m),o1 (.sl 28 0 4)] [] (vv (.bool (bA labs [4,3,3,4]))) []:=hE5
 refine bc (nt:=31) Try.func60 rfl rfl (by simp) fun w0 ω0=> ?_
 unfold As
 (refine ah ?_;refine ab ?_;apply aa rfl;(exact ag rfl rfl);refine aj ?_;refine ai ?_;refine ah ?_;refine ab ?_;apply aa rfl;(exact ae rfl rfl);apply aa rfl;(exact bM (E:=2) rfl (by as_aux_lemma=>kernel_rfl) rfl);apply aa rfl;(first | (apply ak 77;exact aq hE0 (by as_aux_lemma=>kernel_rfl) rfl rfl ⟨rfl,rfl,trivial⟩ ⟨⟨_,rfl, .inl rfl⟩,⟨_,rfl, .inr rfl⟩,trivial⟩ rfl rfl) | (apply ak 77;exact aq hE1 (by as_aux_lemma=>kernel_rfl) rfl rfl ⟨rfl,rfl,trivial⟩ ⟨⟨_,rfl, .inl rfl⟩,⟨_,rfl, .inr rfl⟩,trivial⟩ rfl rfl) | (apply ak 77;exact aq hE2 (by as_aux_lemma=>kernel_rfl) rfl rfl ⟨rfl,rfl,trivial⟩ ⟨⟨_,rfl, .inl rfl⟩,⟨_,rfl, .inr rfl⟩,trivial⟩ rfl rfl) | (apply ak 77;exact aq hE3 (by as_aux_lemma=>kernel_rfl) rfl rfl ⟨rfl,rfl,trivial⟩ ⟨⟨_,rfl, .inl rfl⟩,⟨_,rfl, .inr rfl⟩,trivial⟩ rfl rfl) | (apply ak 77;exact aq hE4 (by as_aux_lemma=>kernel_rfl) rfl rfl ⟨rfl,rfl,trivial⟩ ⟨⟨_,rfl, .inl rfl⟩,⟨_,rfl, .inr rfl⟩,trivial⟩ rfl rfl) | (apply ak 77;exact aq hE5 (by as_aux_lemma=>kernel_rfl) rfl rfl ⟨rfl,rfl,trivial⟩ ⟨⟨_,rfl, .inl rfl⟩,⟨_,rfl, .inr rfl⟩,trivial⟩ rfl rfl) | exact aO (E:=2) rfl (by as_aux_lemma=>kernel_rfl) rfl rfl rfl | exact aP (E:=2) rfl (by as_aux_lemma=>kernel_rfl) rfl rfl rfl rfl);apply aa rfl;(exact ae rfl rfl))
 refine bH 6 rfl (fun h=> ?_) (fun h=> ?_)
 ·rw [h]
  simp only [Bool.true_or]
  (apply aG rfl rfl rfl rfl rfl;apply aG rfl rfl rfl rfl rfl;apply aG rfl rfl rfl rfl rfl;apply aa rfl;(exact bf rfl rfl rfl);apply aa rfl;(exact ae rfl rfl);apply aG rfl rfl rfl rfl rfl;apply aG rfl rfl rfl rfl rfl;apply aG rfl rfl rfl rfl rfl;apply aa rfl;(exact bf rfl rfl rfl);apply aa rfl;(exact ae rfl rfl);apply aG rfl rfl rfl rfl rfl;apply aG rfl rfl rfl rfl rfl;apply aG rfl rfl rfl rfl rfl;apply aa rfl;(exact bf rfl rfl rfl);apply aa rfl;(exact ae rfl rfl);apply aG rfl rfl rfl rfl rfl;apply aG rfl rfl rfl rfl rfl;apply aG rfl rfl rfl rfl rfl;apply aa rfl;(exact bf rfl rfl rfl);apply aa rfl;(exact ae rfl rfl);apply aG rfl rfl rfl rfl rfl;apply aG rfl rfl rfl rfl rfl;apply aG rfl rfl rfl rfl rfl;apply aa rfl;(exact bf rfl rfl rfl);apply aa rfl;(exact ag rfl rfl);refine aj ?_;refine ai ?_;refine aW ?_)
  exact bd (.inl rfl) rfl (.tmp rfl) trivial trivial
 rw [h,Bool.false_or]
 (apply aH rfl rfl rfl;(exact ae rfl rfl);apply aH rfl rfl rfl;(exact cr (E:=2) rfl (by as_aux_lemma=>kernel_rfl) rfl rfl);apply aH rfl rfl rfl;(first | (apply ak 77;exact aq hE0 (by as_aux_lemma=>kernel_rfl) rfl rfl ⟨rfl,rfl,trivial⟩ ⟨⟨_,rfl, .inl rfl⟩,⟨_,rfl, .inr rfl⟩,trivial⟩ rfl rfl) | (apply ak 77;exact aq hE1 (by as_aux_lemma=>kernel_rfl) rfl rfl ⟨rfl,rfl,trivial⟩ ⟨⟨_,rfl, .inl rfl⟩,⟨_,rfl, .inr rfl⟩,trivial⟩ rfl rfl) | (apply ak 77;exact aq hE2 (by as_aux_lemma=>kernel_rfl) rfl rfl ⟨rfl,rfl,trivial⟩ ⟨⟨_,rfl, .inl rfl⟩,⟨_,rfl, .inr rfl⟩,trivial⟩ rfl rfl) | (apply ak 77;exact aq hE3 (by as_aux_lemma=>kernel_rfl) rfl rfl ⟨rfl,rfl,trivial⟩ ⟨⟨_,rfl, .inl rfl⟩,⟨_,rfl, .inr rfl⟩,trivial⟩ rfl rfl) | (apply ak 77;exact aq hE4 (by as_aux_lemma=>kernel_rfl) rfl rfl ⟨rfl,rfl,trivial⟩ ⟨⟨_,rfl, .inl rfl⟩,⟨_,rfl, .inr rfl⟩,trivial⟩ rfl rfl) | (apply ak 77;exact aq hE5 (by as_aux_lemma=>kernel_rfl) rfl rfl ⟨rfl,rfl,trivial⟩ ⟨⟨_,rfl, .inl rfl⟩,⟨_,rfl, .inr rfl⟩,trivial⟩ rfl rfl) | exact aO (E:=2) rfl (by as_aux_lemma=>kernel_rfl) rfl rfl rfl | exact aP (E:=2) rfl (by as_aux_lemma=>kernel_rfl) rfl rfl rfl rfl);apply aa rfl;(exact br rfl rfl rfl);apply aa rfl;(exact ae rfl rfl))
 refine bH 11 rfl (fun h=> ?_) (fun h=> ?_)
 ·rw [h]
  simp only [Bool.true_or]
  (apply aG rfl rfl rfl rfl rfl;apply aG rfl rfl rfl rfl rfl;apply aG rfl rfl rfl rfl rfl;apply aa rfl;(exact bf rfl rfl rfl);apply aa rfl;(exact ae rfl rfl);apply aG rfl rfl rfl rfl rfl;apply aG rfl rfl rfl rfl rfl;apply aG rfl rfl rfl rfl rfl;apply aa rfl;(exact bf rfl rfl rfl);apply aa rfl;(exact ae rfl rfl);apply aG rfl rfl rfl rfl rfl;apply aG rfl rfl rfl rfl rfl;apply aG rfl rfl rfl rfl rfl;apply aa rfl;(exact bf rfl rfl rfl);apply aa rfl;(exact ae rfl rfl);apply aG rfl rfl rfl rfl rfl;apply aG rfl rfl rfl rfl rfl;apply aG rfl rfl rfl rfl rfl;apply aa rfl;(exact bf rfl rfl rfl);apply aa rfl;(exact ag rfl rfl);refine aj ?_;refine ai ?_;refine aW ?_)
  exact bd (.inl rfl) rfl (.tmp rfl) trivial trivial
 rw [h,Bool.false_or]
 (apply aH rfl rfl rfl;(exact ae rfl rfl);apply aH rfl rfl rfl;(exact cr (E:=2) rfl (by as_aux_lemma=>kernel_rfl) rfl rfl);apply aH rfl rfl rfl;(first | (apply ak 77;exact aq hE0 (by as_aux_lemma=>kernel_rfl) rfl rfl ⟨rfl,rfl,trivial⟩ ⟨⟨_,rfl, .inl rfl⟩,⟨_,rfl, .inr rfl⟩,trivial⟩ rfl rfl) | (apply ak 77;exact aq hE1 (by as_aux_lemma=>kernel_rfl) rfl rfl ⟨rfl,rfl,trivial⟩ ⟨⟨_,rfl, .inl rfl⟩,⟨_,rfl, .inr rfl⟩,trivial⟩ rfl rfl) | (apply ak 77;exact aq hE2 (by as_aux_lemma=>kernel_rfl) rfl rfl ⟨rfl,rfl,trivial⟩ ⟨⟨_,rfl, .inl rfl⟩,⟨_,rfl, .inr rfl⟩,trivial⟩ rfl rfl) | (apply ak 77;exact aq hE3 (by as_aux_lemma=>kernel_rfl) rfl rfl ⟨rfl,rfl,trivial⟩ ⟨⟨_,rfl, .inl rfl⟩,⟨_,rfl, .inr rfl⟩,trivial⟩ rfl rfl) | (apply ak 77;exact aq hE4 (by as_aux_lemma=>kernel_rfl) rfl rfl ⟨rfl,rfl,trivial⟩ ⟨⟨_,rfl, .inl rfl⟩,⟨_,rfl, .inr rfl⟩,trivial⟩ rfl rfl) | (apply ak 77;exact aq hE5 (by as_aux_lemma=>kernel_rfl) rfl rfl ⟨rfl,rfl,trivial⟩ ⟨⟨_,rfl, .inl rfl⟩,⟨_,rfl, .inr rfl⟩,trivial⟩ rfl rfl) | exact aO (E:=2) rfl (by as_aux_lemma=>kernel_rfl) rfl rfl rfl | exact aP (E:=2) rfl (by as_aux_lemma=>kernel_rfl) rfl rfl rfl rfl);apply aa rfl;(exact br rfl rfl rfl);apply aa rfl;(exact ae rfl rfl))
 refine bH 16 rfl (fun h=> ?_) (fun h=> ?_)
 ·rw [h]
  simp only [Bool.true_or]
  (apply aG rfl rfl rfl rfl rfl;apply aG rfl rfl rfl rfl rfl;apply aG rfl rfl rfl rfl rfl;apply aa rfl;(exact bf rfl rfl rfl);apply aa rfl;(exact ae rfl rfl);apply aG rfl rfl rfl rfl rfl;apply aG rfl rfl rfl rfl rfl;apply aG rfl rfl rfl rfl rfl;apply aa rfl;(exact bf rfl rfl rfl);apply aa rfl;(exact ae rfl rfl);apply aG rfl rfl rfl rfl rfl;apply aG rfl rfl rfl rfl rfl;apply aG rfl rfl rfl rfl rfl;apply aa rfl;(exact bf rfl rfl rfl);apply aa rfl;(exact ag rfl rfl);refine aj ?_;refine ai ?_;refine aW ?_)
  exact bd (.inl rfl) rfl (.tmp rfl) trivial trivial
 rw [h,Bool.false_or]
 (apply aH rfl rfl rfl;(exact ae rfl rfl);apply aH rfl rfl rfl;(first | (apply ak 77;exact aq hE0 (by as_aux_lemma=>kernel_rfl) rfl rfl ⟨rfl,rfl,trivial⟩ ⟨⟨_,rfl, .inl rfl⟩,⟨_,rfl, .inr rfl⟩,trivial⟩ rfl rfl) | (apply ak 77;exact aq hE1 (by as_aux_lemma=>kernel_rfl) rfl rfl ⟨rfl,rfl,trivial⟩ ⟨⟨_,rfl, .inl rfl⟩,⟨_,rfl, .inr rfl⟩,trivial⟩ rfl rfl) | (apply ak 77;exact aq hE2 (by as_aux_lemma=>kernel_rfl) rfl rfl ⟨rfl,rfl,trivial⟩ ⟨⟨_,rfl, .inl rfl⟩,⟨_,rfl, .inr rfl⟩,trivial⟩ rfl rfl) | (apply ak 77;exact aq hE3 (by as_aux_lemma=>kernel_rfl) rfl rfl ⟨rfl,rfl,trivial⟩ ⟨⟨_,rfl, .inl rfl⟩,⟨_,rfl, .inr rfl⟩,trivial⟩ rfl rfl) | (apply ak 77;exact aq hE4 (by as_aux_lemma=>kernel_rfl) rfl rfl ⟨rfl,rfl,trivial⟩ ⟨⟨_,rfl, .inl rfl⟩,⟨_,rfl, .inr rfl⟩,trivial⟩ rfl rfl) | (apply ak 77;exact aq hE5 (by as_aux_lemma=>kernel_rfl) rfl rfl ⟨rfl,rfl,trivial⟩ ⟨⟨_,rfl, .inl rfl⟩,⟨_,rfl, .inr rfl⟩,trivial⟩ rfl rfl) | exact aO (E:=2) rfl (by as_aux_lemma=>kernel_rfl) rfl rfl rfl | exact aP (E:=2) rfl (by as_aux_lemma=>kernel_rfl) rfl rfl rfl rfl);apply aH rfl rfl rfl;(first | (apply ak 77;exact aq hE0 (by as_aux_lemma=>kernel_rfl) rfl rfl ⟨rfl,rfl,trivial⟩ ⟨⟨_,rfl, .inl rfl⟩,⟨_,rfl, .inr rfl⟩,trivial⟩ rfl rfl) | (apply ak 77;exact aq hE1 (by as_aux_lemma=>kernel_rfl) rfl rfl ⟨rfl,rfl,trivial⟩ ⟨⟨_,rfl, .inl rfl⟩,⟨_,rfl, .inr rfl⟩,trivial⟩ rfl rfl) | (apply ak 77;exact aq hE2 (by as_aux_lemma=>kernel_rfl) rfl rfl ⟨rfl,rfl,trivial⟩ ⟨⟨_,rfl, .inl rfl⟩,⟨_,rfl, .inr rfl⟩,trivial⟩ rfl rfl) | (apply ak 77;exact aq hE3 (by as_aux_lemma=>kernel_rfl) rfl rfl ⟨rfl,rfl,trivial⟩ ⟨⟨_,rfl, .inl rfl⟩,⟨_,rfl, .inr rfl⟩,trivial⟩ rfl rfl) | (apply ak 77;exact aq hE4 (by as_aux_lemma=>kernel_rfl) rfl rfl ⟨rfl,rfl,trivial⟩ ⟨⟨_,rfl, .inl rfl⟩,⟨_,rfl, .inr rfl⟩,trivial⟩ rfl rfl) | (apply ak 77;exact aq hE5 (by as_aux_lemma=>kernel_rfl) rfl rfl ⟨rfl,rfl,trivial⟩ ⟨⟨_,rfl, .inl rfl⟩,⟨_,rfl, .inr rfl⟩,trivial⟩ rfl rfl) | exact aO (E:=2) rfl (by as_aux_lemma=>kernel_rfl) rfl rfl rfl | exact aP (E:=2) rfl (by as_aux_lemma=>kernel_rfl) rfl rfl rfl rfl);apply aa rfl;(exact br rfl rfl rfl);apply aa rfl;(exact ae rfl rfl))
 refine bH 21 rfl (fun h=> ?_) (fun h=> ?_)
 ·rw [h]
  simp only [Bool.true_or]
  (apply aG rfl rfl rfl rfl rfl;apply aG rfl rfl rfl rfl rfl;apply aG rfl rfl rfl rfl rfl;apply aa rfl;(exact bf rfl rfl rfl);apply aa rfl;(exact ae rfl rfl);apply aG rfl rfl rfl rfl rfl;apply aG rfl rfl rfl rfl rfl;apply aG rfl rfl rfl rfl rfl;apply aa rfl;(exact bf rfl rfl rfl);apply aa rfl;(exact ag rfl rfl);refine aj ?_;refine ai ?_;refine aW ?_)
  exact bd (.inl rfl) rfl (.tmp rfl) trivial trivial
 rw [h,Bool.false_or]
 (apply aH rfl rfl rfl;(exact ae rfl rfl);apply aH rfl rfl rfl;(first | (apply ak 77;exact aq hE0 (by as_aux_lemma=>kernel_rfl) rfl rfl ⟨rfl,rfl,trivial⟩ ⟨⟨_,rfl, .inl rfl⟩,⟨_,rfl, .inr rfl⟩,trivial⟩ rfl rfl) | (apply ak 77;exact aq hE1 (by as_aux_lemma=>kernel_rfl) rfl rfl ⟨rfl,rfl,trivial⟩ ⟨⟨_,rfl, .inl rfl⟩,⟨_,rfl, .inr rfl⟩,trivial⟩ rfl rfl) | (apply ak 77;exact aq hE2 (by as_aux_lemma=>kernel_rfl) rfl rfl ⟨rfl,rfl,trivial⟩ ⟨⟨_,rfl, .inl rfl⟩,⟨_,rfl, .inr rfl⟩,trivial⟩ rfl rfl) | (apply ak 77;exact aq hE3 (by as_aux_lemma=>kernel_rfl) rfl rfl ⟨rfl,rfl,trivial⟩ ⟨⟨_,rfl, .inl rfl⟩,⟨_,rfl, .inr rfl⟩,trivial⟩ rfl rfl) | (apply ak 77;exact aq hE4 (by as_aux_lemma=>kernel_rfl) rfl rfl ⟨rfl,rfl,trivial⟩ ⟨⟨_,rfl, .inl rfl⟩,⟨_,rfl, .inr rfl⟩,trivial⟩ rfl rfl) | (apply ak 77;exact aq hE5 (by as_aux_lemma=>kernel_rfl) rfl rfl ⟨rfl,rfl,trivial⟩ ⟨⟨_,rfl, .inl rfl⟩,⟨_,rfl, .inr rfl⟩,trivial⟩ rfl rfl) | exact aO (E:=2) rfl (by as_aux_lemma=>kernel_rfl) rfl rfl rfl | exact aP (E:=2) rfl (by as_aux_lemma=>kernel_rfl) rfl rfl rfl rfl);apply aH rfl rfl rfl;(first | (apply ak 77;exact aq hE0 (by as_aux_lemma=>kernel_rfl) rfl rfl ⟨rfl,rfl,trivial⟩ ⟨⟨_,rfl, .inl rfl⟩,⟨_,rfl, .inr rfl⟩,trivial⟩ rfl rfl) | (apply ak 77;exact aq hE1 (by as_aux_lemma=>kernel_rfl) rfl rfl ⟨rfl,rfl,trivial⟩ ⟨⟨_,rfl, .inl rfl⟩,⟨_,rfl, .inr rfl⟩,trivial⟩ rfl rfl) | (apply ak 77;exact aq hE2 (by as_aux_lemma=>kernel_rfl) rfl rfl ⟨rfl,rfl,trivial⟩ ⟨⟨_,rfl, .inl rfl⟩,⟨_,rfl, .inr rfl⟩,trivial⟩ rfl rfl) | (apply ak 77;exact aq hE3 (by as_aux_lemma=>kernel_rfl) rfl rfl ⟨rfl,rfl,trivial⟩ ⟨⟨_,rfl, .inl rfl⟩,⟨_,rfl, .inr rfl⟩,trivial⟩ rfl rfl) | (apply ak 77;exact aq hE4 (by as_aux_lemma=>kernel_rfl) rfl rfl ⟨rfl,rfl,trivial⟩ ⟨⟨_,rfl, .inl rfl⟩,⟨_,rfl, .inr rfl⟩,trivial⟩ rfl rfl) | (apply ak 77;exact aq hE5 (by as_aux_lemma=>kernel_rfl) rfl rfl ⟨rfl,rfl,trivial⟩ ⟨⟨_,rfl, .inl rfl⟩,⟨_,rfl, .inr rfl⟩,trivial⟩ rfl rfl) | exact aO (E:=2) rfl (by as_aux_lemma=>kernel_rfl) rfl rfl rfl | exact aP (E:=2) rfl (by as_aux_lemma=>kernel_rfl) rfl rfl rfl rfl);apply aa rfl;(exact br rfl rfl rfl);apply aa rfl;(exact ae rfl rfl))
 refine bH 26 rfl (fun h=> ?_) (fun h=> ?_)
 ·rw [h]
  simp only [Bool.true_or]
  (apply aG rfl rfl rfl rfl rfl;apply aG rfl rfl rfl rfl rfl;apply aG rfl rfl rfl rfl rfl;apply aa rfl;(exact bf rfl rfl rfl);apply aa rfl;(exact ag rfl rfl);refine aj ?_;refine ai ?_;refine aW ?_)
  exact bd (.inl rfl) rfl (.tmp rfl) trivial trivial
 rw [h,Bool.false_or]
 (apply aH rfl rfl rfl;(exact ae rfl rfl);apply aH rfl rfl rfl;(first | (apply ak 77;exact aq hE0 (by as_aux_lemma=>kernel_rfl) rfl rfl ⟨rfl,rfl,trivial⟩ ⟨⟨_,rfl, .inl rfl⟩,⟨_,rfl, .inr rfl⟩,trivial⟩ rfl rfl) | (apply ak 77;exact aq hE1 (by as_aux_lemma=>kernel_rfl) rfl rfl ⟨rfl,rfl,trivial⟩ ⟨⟨_,rfl, .inl rfl⟩,⟨_,rfl, .inr rfl⟩,trivial⟩ rfl rfl) | (apply ak 77;exact aq hE2 (by as_aux_lemma=>kernel_rfl) rfl rfl ⟨rfl,rfl,trivial⟩ ⟨⟨_,rfl, .inl rfl⟩,⟨_,rfl, .inr rfl⟩,trivial⟩ rfl rfl) | (apply ak 77;exact aq hE3 (by as_aux_lemma=>kernel_rfl) rfl rfl ⟨rfl,rfl,trivial⟩ ⟨⟨_,rfl, .inl rfl⟩,⟨_,rfl, .inr rfl⟩,trivial⟩ rfl rfl) | (apply ak 77;exact aq hE4 (by as_aux_lemma=>kernel_rfl) rfl rfl ⟨rfl,rfl,trivial⟩ ⟨⟨_,rfl, .inl rfl⟩,⟨_,rfl, .inr rfl⟩,trivial⟩ rfl rfl) | (apply ak 77;exact aq hE5 (by as_aux_lemma=>kernel_rfl) rfl rfl ⟨rfl,rfl,trivial⟩ ⟨⟨_,rfl, .inl rfl⟩,⟨_,rfl, .inr rfl⟩,trivial⟩ rfl rfl) | exact aO (E:=2) rfl (by as_aux_lemma=>kernel_rfl) rfl rfl rfl | exact aP (E:=2) rfl (by as_aux_lemma=>kernel_rfl) rfl rfl rfl rfl);apply aH rfl rfl rfl;(first | (apply ak 77;exact aq hE0 (by as_aux_lemma=>kernel_rfl) rfl rfl ⟨rfl,rfl,trivial⟩ ⟨⟨_,rfl, .inl rfl⟩,⟨_,rfl, .inr rfl⟩,trivial⟩ rfl rfl) | (apply ak 77;exact aq hE1 (by as_aux_lemma=>kernel_rfl) rfl rfl ⟨rfl,rfl,trivial⟩ ⟨⟨_,rfl, .inl rfl⟩,⟨_,rfl, .inr rfl⟩,trivial⟩ rfl rfl) | (apply ak 77;exact aq hE2 (by as_aux_lemma=>kernel_rfl) rfl rfl ⟨rfl,rfl,trivial⟩ ⟨⟨_,rfl, .inl rfl⟩,⟨_,rfl, .inr rfl⟩,trivial⟩ rfl rfl) | (apply ak 77;exact aq hE3 (by as_aux_lemma=>kernel_rfl) rfl rfl ⟨rfl,rfl,trivial⟩ ⟨⟨_,rfl, .inl rfl⟩,⟨_,rfl, .inr rfl⟩,trivial⟩ rfl rfl) | (apply ak 77;exact aq hE4 (by as_aux_lemma=>kernel_rfl) rfl rfl ⟨rfl,rfl,trivial⟩ ⟨⟨_,rfl, .inl rfl⟩,⟨_,rfl, .inr rfl⟩,trivial⟩ rfl rfl) | (apply ak 77;exact aq hE5 (by as_aux_lemma=>kernel_rfl) rfl rfl ⟨rfl,rfl,trivial⟩ ⟨⟨_,rfl, .inl rfl⟩,⟨_,rfl, .inr rfl⟩,trivial⟩ rfl rfl) | exact aO (E:=2) rfl (by as_aux_lemma=>kernel_rfl) rfl rfl rfl | exact aP (E:=2) rfl (by as_aux_lemma=>kernel_rfl) rfl rfl rfl rfl);apply aa rfl;(exact br rfl rfl rfl);apply aa rfl;(exact ag rfl rfl);refine aj ?_;refine ai ?_;refine aW ?_)
 exact bd (.inl rfl) rfl (.tmp rfl) trivial trivial
end Go.Proofs.Ytekbhbcgoadciaa
