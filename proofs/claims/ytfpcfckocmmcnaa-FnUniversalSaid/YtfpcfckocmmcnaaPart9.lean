/- What a maniplex is, the program's: isManiplex. guards: -/
import Derived.Test.YtfpcfckocmmcnaaPart8
import Derived.Test.YtfpcfckocmmcnaaPart4
import Derived.Test.YtfpcfckocmmcnaaPart7
import Derived.Test.YtfpcfckocmmcnaaPart1
import Derived.Shelf.RegionOpenPlain
import Derived.Deep.RegionLaw
import Derived.Lib.SliceRun
import Derived.Laws.IdiomCopy
import Derived.Lib.EndianMore
import Derived.Deep.DeepCutAuto
import Derived.Test.YtfpcfckocmmcnaaPart3
import Derived.Deep.QuietTactic
import Derived.Test.YtfpcfckocmmcnaaPart2
set_option maxRecDepth 100000
set_option maxHeartbeats 6400000
namespace Go.Proofs.Ytfpcfckocmmcnaa
open Go.RowKit
abbrev Jd (R:Nat):Ch:=⟨false,29,1, .flat [.sl 1003 0 R]⟩
theorem E9 (R:Nat):FC Try.prog 42 [(1,Jd R)] [o1 (.ptr 1 0)] [] (vv (I6 R)) []:=by
 have hS:=nN 1003 R
 refine cu (nt:=8) Try.func42 rfl rfl (by simp) fun w0 ω0=> ?_
 (refine au (ah (aa rfl (ay rfl rfl) (aA (ax (au (ah (aa rfl (an rfl rfl) (aa rfl (bH rfl rfl rfl) ?_))))))));apply aa rfl;(exact aB (d:=0) rfl rfl rfl ae);apply aa rfl;exact aN rfl ae rfl rfl rfl rfl;apply aa rfl;(apply aI 73;exact aL hS ae rfl rfl ⟨rfl,aq⟩ trivial rfl rfl);refine aa rfl (ay rfl rfl) (aA (ax (bw ?_))))
 exact bQ (.inl rfl) rfl (.tmp rfl) trivial trivial
theorem By (zss:List (List Int)) (n:Nat) (hpos:0 < zss.length) (hn:(aT zss 0).length=n):FC Try.prog 58 [(1,Jd zss.length),(1003,bh zss)] [o1 (.ptr 1 0)] [] (vv (I6 n)) []:=by
 have hlen:(bU zss).length=zss.length:=cB _
 have hrow0:(bU zss)[0]? =some (aV (aT zss 0)):=bV hpos
 have hil:(aV (aT zss 0)).length=n:=by rw [bD];exact hn
 have hSz:=qG 1003 0 n
 refine cu (nt:=10) Try.func58 rfl rfl (by simp) fun w0 ω0=> ?_
 (refine au (ah (aa rfl (ay rfl rfl) (aA (ax (au (ah (aa rfl (an rfl rfl) (aa rfl (bH rfl rfl rfl) ?_))))))));apply aa rfl;(exact aB (d:=0) rfl rfl rfl ae);apply aa rfl;exact aN rfl ae rfl rfl rfl rfl;apply aa rfl;(first | exact aP (j:=0) rfl rfl rfl rfl rfl ae rfl hpos (Nat.le_of_eq hlen.symm) | exact aM rfl ae rfl rfl rfl hrow0 hil | (apply aI 39;exact aL hSz ae rfl rfl ⟨rfl,aq⟩ trivial rfl rfl));apply aa rfl;(first | exact aP (j:=0) rfl rfl rfl rfl rfl ae rfl hpos (Nat.le_of_eq hlen.symm) | exact aM rfl ae rfl rfl rfl hrow0 hil | (apply aI 39;exact aL hSz ae rfl rfl ⟨rfl,aq⟩ trivial rfl rfl));apply aa rfl;(first | exact aP (j:=0) rfl rfl rfl rfl rfl ae rfl hpos (Nat.le_of_eq hlen.symm) | exact aM rfl ae rfl rfl rfl hrow0 hil | (apply aI 39;exact aL hSz ae rfl rfl ⟨rfl,aq⟩ trivial rfl rfl));refine aa rfl (ay rfl rfl) (aA (ax (bw ?_))))
 exact bQ (.inl rfl) rfl (.tmp rfl) trivial trivial
theorem Ak (zss:List (List Int)) (hR:zss.length≤1048576) (hl:∀i,i < zss.length→(aT zss i).length≤1048576):
  FC Try.prog 30 [(1003,bh zss)] [mA zss.length] [] (vv (.bool (iY zss))) []:=by
 have hRk:=E9 zss.length
 have hW1:=tU (zss.length:Int) 1 5
 refine cu (nt:=101) Try.func30 rfl rfl (by simp) fun w0 ω0=> ?_
 have hlen:(bU zss).length=zss.length:=cB _
 cases c1:kB (zss.length:Int) 1 5 with
 | false=>
  rw [eO (fun h=>by have h1:=h.n1;have h2:=h.n5;rw [dY.2 ⟨ab,ab⟩] at c1;cases c1)]
  rw [c1] at hW1
  (refine au (ah (aa rfl (du rfl rfl rfl rfl) (aa rfl (ay rfl rfl) (aA (ax (au (au (ah ?_))))))));apply aa rfl;(first | (apply aI 42;exact aL hRk ae rfl rfl ⟨rfl,aq⟩ ⟨⟨_,rfl, .inr rfl⟩,aq⟩ rfl rfl) | (apply aI 52;exact aL hW1 ae rfl rfl ⟨rfl,rfl,rfl,aq⟩ trivial rfl rfl));apply aa rfl;(first | (apply aI 42;exact aL hRk ae rfl rfl ⟨rfl,aq⟩ ⟨⟨_,rfl, .inr rfl⟩,aq⟩ rfl rfl) | (apply aI 52;exact aL hW1 ae rfl rfl ⟨rfl,rfl,rfl,aq⟩ trivial rfl rfl));refine aa rfl (cP rfl rfl) (aa rfl (an rfl rfl) ?_);apply aR rfl rfl rfl rfl rfl;apply aR rfl rfl rfl rfl rfl;apply aR rfl rfl rfl rfl rfl;refine aa rfl (cF rfl rfl rfl) (aA (ax ?_)))
  refine bf rfl (fun _=> ?_) (fun e=>by cases e)
  (refine au (ah (aa rfl (ay rfl rfl) (aA (ax (bw (aJ ?_)))))))
  exact bQ (.inl rfl) rfl (.tmp rfl) trivial trivial
 | true=>
 rw [c1] at hW1
 have c1:=dY.1 c1
 have hpos:0 < zss.length:=by omega
 have hrow0:(bU zss)[0]? =some (aV (aT zss 0)):=bV hpos
 obtain ⟨n,hn⟩:∃n,(aT zss 0).length=n:=⟨_,rfl⟩
 have hil:(aV (aT zss 0)).length=n:=by rw [bD];exact hn
 have hG:=By zss n hpos hn
 have hW2:=tU (n:Int) 2 400
 cases c2:kB (n:Int) 2 400 with
 | false=>
  rw [eO (fun h=>by have h1:=h.f2;have h2:=h.f4;rw [dY.2 ⟨ab,ab⟩] at c2;cases c2)]
  rw [c2] at hW2
  (refine au (ah (aa rfl (du rfl rfl rfl rfl) (aa rfl (ay rfl rfl) (aA (ax (au (au (ah ?_))))))));apply aa rfl;(first | (apply aI 42;exact aL hRk ae rfl rfl ⟨rfl,aq⟩ ⟨⟨_,rfl, .inr rfl⟩,aq⟩ rfl rfl) | (apply aI 52;exact aL hW1 ae rfl rfl ⟨rfl,rfl,rfl,aq⟩ trivial rfl rfl) | (apply aI 52;exact aL hW2 ae rfl rfl ⟨rfl,rfl,rfl,aq⟩ trivial rfl rfl) | (apply aI 58;exact aL hG ae rfl rfl ⟨rfl,aq⟩ ⟨⟨_,rfl, .inr rfl⟩,⟨_,rfl, .inl rfl⟩,aq⟩ rfl rfl));apply aa rfl;(first | (apply aI 42;exact aL hRk ae rfl rfl ⟨rfl,aq⟩ ⟨⟨_,rfl, .inr rfl⟩,aq⟩ rfl rfl) | (apply aI 52;exact aL hW1 ae rfl rfl ⟨rfl,rfl,rfl,aq⟩ trivial rfl rfl) | (apply aI 52;exact aL hW2 ae rfl rfl ⟨rfl,rfl,rfl,aq⟩ trivial rfl rfl) | (apply aI 58;exact aL hG ae rfl rfl ⟨rfl,aq⟩ ⟨⟨_,rfl, .inr rfl⟩,⟨_,rfl, .inl rfl⟩,aq⟩ rfl rfl));refine aa rfl (cP rfl rfl) (aa rfl (an rfl rfl) ?_);apply aO rfl rfl rfl;(first | (apply aI 42;exact aL hRk ae rfl rfl ⟨rfl,aq⟩ ⟨⟨_,rfl, .inr rfl⟩,aq⟩ rfl rfl) | (apply aI 52;exact aL hW1 ae rfl rfl ⟨rfl,rfl,rfl,aq⟩ trivial rfl rfl) | (apply aI 52;exact aL hW2 ae rfl rfl ⟨rfl,rfl,rfl,aq⟩ trivial rfl rfl) | (apply aI 58;exact aL hG ae rfl rfl ⟨rfl,aq⟩ ⟨⟨_,rfl, .inr rfl⟩,⟨_,rfl, .inl rfl⟩,aq⟩ rfl rfl));apply aO rfl rfl rfl;(first | (apply aI 42;exact aL hRk ae rfl rfl ⟨rfl,aq⟩ ⟨⟨_,rfl, .inr rfl⟩,aq⟩ rfl rfl) | (apply aI 52;exact aL hW1 ae rfl rfl ⟨rfl,rfl,rfl,aq⟩ trivial rfl rfl) | (apply aI 52;exact aL hW2 ae rfl rfl ⟨rfl,rfl,rfl,aq⟩ trivial rfl rfl) | (apply aI 58;exact aL hG ae rfl rfl ⟨rfl,aq⟩ ⟨⟨_,rfl, .inr rfl⟩,⟨_,rfl, .inl rfl⟩,aq⟩ rfl rfl));apply aO rfl rfl rfl;exact cP rfl rfl;refine aa rfl (cj rfl rfl rfl) (aA (ax ?_)))
  refine bf rfl (fun _=> ?_) (fun e=>by cases e)
  (refine au (ah (aa rfl (ay rfl rfl) (aA (ax (bw (aJ ?_)))))))
  exact bQ (.inl rfl) rfl (.tmp rfl) trivial trivial
 | true=>
 rw [c2] at hW2
 have c2:=dY.1 c2
 (refine au (ah (aa rfl (du rfl rfl rfl rfl) (aa rfl (ay rfl rfl) (aA (ax (au (au (ah ?_))))))));apply aa rfl;(first | (apply aI 42;exact aL hRk ae rfl rfl ⟨rfl,aq⟩ ⟨⟨_,rfl, .inr rfl⟩,aq⟩ rfl rfl) | (apply aI 52;exact aL hW1 ae rfl rfl ⟨rfl,rfl,rfl,aq⟩ trivial rfl rfl) | (apply aI 52;exact aL hW2 ae rfl rfl ⟨rfl,rfl,rfl,aq⟩ trivial rfl rfl) | (apply aI 58;exact aL hG ae rfl rfl ⟨rfl,aq⟩ ⟨⟨_,rfl, .inr rfl⟩,⟨_,rfl, .inl rfl⟩,aq⟩ rfl rfl));apply aa rfl;(first | (apply aI 42;exact aL hRk ae rfl rfl ⟨rfl,aq⟩ ⟨⟨_,rfl, .inr rfl⟩,aq⟩ rfl rfl) | (apply aI 52;exact aL hW1 ae rfl rfl ⟨rfl,rfl,rfl,aq⟩ trivial rfl rfl) | (apply aI 52;exact aL hW2 ae rfl rfl ⟨rfl,rfl,rfl,aq⟩ trivial rfl rfl) | (apply aI 58;exact aL hG ae rfl rfl ⟨rfl,aq⟩ ⟨⟨_,rfl, .inr rfl⟩,⟨_,rfl, .inl rfl⟩,aq⟩ rfl rfl));refine aa rfl (cP rfl rfl) (aa rfl (an rfl rfl) ?_);apply aO rfl rfl rfl;(first | (apply aI 42;exact aL hRk ae rfl rfl ⟨rfl,aq⟩ ⟨⟨_,rfl, .inr rfl⟩,aq⟩ rfl rfl) | (apply aI 52;exact aL hW1 ae rfl rfl ⟨rfl,rfl,rfl,aq⟩ trivial rfl rfl) | (apply aI 52;exact aL hW2 ae rfl rfl ⟨rfl,rfl,rfl,aq⟩ trivial rfl rfl) | (apply aI 58;exact aL hG ae rfl rfl ⟨rfl,aq⟩ ⟨⟨_,rfl, .inr rfl⟩,⟨_,rfl, .inl rfl⟩,aq⟩ rfl rfl));apply aO rfl rfl rfl;(first | (apply aI 42;exact aL hRk ae rfl rfl ⟨rfl,aq⟩ ⟨⟨_,rfl, .inr rfl⟩,aq⟩ rfl rfl) | (apply aI 52;exact aL hW1 ae rfl rfl ⟨rfl,rfl,rfl,aq⟩ trivial rfl rfl) | (apply aI 52;exact aL hW2 ae rfl rfl ⟨rfl,rfl,rfl,aq⟩ trivial rfl rfl) | (apply aI 58;exact aL hG ae rfl rfl ⟨rfl,aq⟩ ⟨⟨_,rfl, .inr rfl⟩,⟨_,rfl, .inl rfl⟩,aq⟩ rfl rfl));apply aO rfl rfl rfl;exact cP rfl rfl;refine aa rfl (cj rfl rfl rfl) (aA (ax ?_)))
 refine bf rfl (fun e=>by cases e) (fun _=> ?_)
 (refine aU (ax (au (au (ah ?_))));apply aa rfl;(exact aB (d:=0) rfl rfl rfl ae);apply aa rfl;exact aN rfl ae rfl rfl rfl rfl;apply aa rfl;exact bF rfl rfl rfl ae;refine aa rfl (an rfl rfl) (aA (ax (aQ ?_))))
 refine bR (fun i:Nat=>St.of [(1,o1 (.ptr 1 0)),(21,o1 (.sl 1003 0 zss.length)),(22,vv (I6 zss.length)),(23,vv (I6 i))] [(1003,bh zss),(1,Fq zss.length)]) (fun i=>i≤zss.length∧Rows zss n i) (fun i=>zss.length - i) 0 ⟨Nat.zero_le _,fun j hj=>absurd hj ab⟩ (Wk.of ⟨rfl,rfl,rfl,rfl,aq⟩ ⟨rfl,rfl,aq⟩ trivial) ?_
 rintro i ⟨hi,hrows⟩
 (refine au (ah (aa rfl (bd rfl rfl rfl rfl) (aA (ax (au ?_))))))
 refine bY rfl (fun hlt=> ?_) (fun hlt=> ?_)
 ·have hiz:i < zss.length:=by omega
  have hrowi:(bU zss)[i]? =some (aV (aT zss i)):=bV hiz
  have hP:=Dc zss i hiz (hl i hiz)
  obtain ⟨m,hm⟩:∃m,(aT zss i).length=m:=⟨_,rfl⟩
  have hilm:(aV (aT zss i)).length=m:=by rw [bD];exact hm
  rw [hm] at hP
  have hSz:=qG 1003 i m
  cases hf:nM (aT zss i) with
  | false=>
   rw [hf] at hP
   (refine aU (ax (au (aQ (au (ah ?_)))));apply aa rfl;(first | exact aP (j:=i) rfl rfl rfl rfl rfl ae rfl hiz (Nat.le_of_eq hlen.symm) | exact aM rfl ae rfl rfl rfl hrowi hilm | (apply aI 59;exact aL hP ae rfl rfl ⟨rfl,aq⟩ ⟨⟨_,rfl, .inl rfl⟩,aq⟩ rfl rfl));apply aa rfl;(first | exact aP (j:=i) rfl rfl rfl rfl rfl ae rfl hiz (Nat.le_of_eq hlen.symm) | exact aM rfl ae rfl rfl rfl hrowi hilm | (apply aI 59;exact aL hP ae rfl rfl ⟨rfl,aq⟩ ⟨⟨_,rfl, .inl rfl⟩,aq⟩ rfl rfl));refine aa rfl (ay rfl rfl) (aA (ax (au (ah (aa rfl (an rfl rfl) ?_)))));apply aa rfl;(first | exact aP (j:=i) rfl rfl rfl rfl rfl ae rfl hiz (Nat.le_of_eq hlen.symm) | exact aM rfl ae rfl rfl rfl hrowi hilm | (apply aI 59;exact aL hP ae rfl rfl ⟨rfl,aq⟩ ⟨⟨_,rfl, .inl rfl⟩,aq⟩ rfl rfl));refine aa rfl (cP rfl rfl) (aa rfl (an rfl rfl) ?_);apply aR rfl rfl rfl rfl rfl;apply aR rfl rfl rfl rfl rfl;apply aR rfl rfl rfl rfl rfl;apply aR rfl rfl rfl rfl rfl;refine aa rfl (cF rfl rfl rfl) (aA (ax ?_)))
   refine bf rfl (fun _=> ?_) (fun e=>by cases e)
   rw [eO (fun h=>by have h1:=h.perm i hiz;have h2:=h.free i hiz;unfold nM at hf;rw [h1,h2] at hf;cases hf)]
   (refine au (ah (aa rfl (ay rfl rfl) (aA (ax (bw (aX (aJ (aJ (aX (aJ ?_)))))))))))
   exact bQ (.inl rfl) rfl (.tmp rfl) trivial trivial
  | true=>
   rw [hf] at hP
   unfold nM at hf
   rw [Bool.and_eq_true] at hf
   (refine aU (ax (au (aQ (au (ah ?_)))));apply aa rfl;(first | exact aP (j:=i) rfl rfl rfl rfl rfl ae rfl hiz (Nat.le_of_eq hlen.symm) | exact aM rfl ae rfl rfl rfl hrowi hilm | (apply aI 59;exact aL hP ae rfl rfl ⟨rfl,aq⟩ ⟨⟨_,rfl, .inl rfl⟩,aq⟩ rfl rfl) | (apply aI 39;exact aL hSz ae rfl rfl ⟨rfl,aq⟩ trivial rfl rfl) | (apply aI 58;exact aL hG ae rfl rfl ⟨rfl,aq⟩ ⟨⟨_,rfl, .inr rfl⟩,⟨_,rfl, .inl rfl⟩,aq⟩ rfl rfl));apply aa rfl;(first | exact aP (j:=i) rfl rfl rfl rfl rfl ae rfl hiz (Nat.le_of_eq hlen.symm) | exact aM rfl ae rfl rfl rfl hrowi hilm | (apply aI 59;exact aL hP ae rfl rfl ⟨rfl,aq⟩ ⟨⟨_,rfl, .inl rfl⟩,aq⟩ rfl rfl) | (apply aI 39;exact aL hSz ae rfl rfl ⟨rfl,aq⟩ trivial rfl rfl) | (apply aI 58;exact aL hG ae rfl rfl ⟨rfl,aq⟩ ⟨⟨_,rfl, .inr rfl⟩,⟨_,rfl, .inl rfl⟩,aq⟩ rfl rfl));refine aa rfl (ay rfl rfl) (aA (ax (au (ah (aa rfl (an rfl rfl) ?_)))));apply aa rfl;(first | exact aP (j:=i) rfl rfl rfl rfl rfl ae rfl hiz (Nat.le_of_eq hlen.symm) | exact aM rfl ae rfl rfl rfl hrowi hilm | (apply aI 59;exact aL hP ae rfl rfl ⟨rfl,aq⟩ ⟨⟨_,rfl, .inl rfl⟩,aq⟩ rfl rfl) | (apply aI 39;exact aL hSz ae rfl rfl ⟨rfl,aq⟩ trivial rfl rfl) | (apply aI 58;exact aL hG ae rfl rfl ⟨rfl,aq⟩ ⟨⟨_,rfl, .inr rfl⟩,⟨_,rfl, .inl rfl⟩,aq⟩ rfl rfl));refine aa rfl (cP rfl rfl) (aa rfl (an rfl rfl) ?_);apply aO rfl rfl rfl;exact an rfl rfl;apply aO rfl rfl rfl;(first | exact aP (j:=i) rfl rfl rfl rfl rfl ae rfl hiz (Nat.le_of_eq hlen.symm) | exact aM rfl ae rfl rfl rfl hrowi hilm | (apply aI 59;exact aL hP ae rfl rfl ⟨rfl,aq⟩ ⟨⟨_,rfl, .inl rfl⟩,aq⟩ rfl rfl) | (apply aI 39;exact aL hSz ae rfl rfl ⟨rfl,aq⟩ trivial rfl rfl) | (apply aI 58;exact aL hG ae rfl rfl ⟨rfl,aq⟩ ⟨⟨_,rfl, .inr rfl⟩,⟨_,rfl, .inl rfl⟩,aq⟩ rfl rfl));apply aO rfl rfl rfl;(first | exact aP (j:=i) rfl rfl rfl rfl rfl ae rfl hiz (Nat.le_of_eq hlen.symm) | exact aM rfl ae rfl rfl rfl hrowi hilm | (apply aI 59;exact aL hP ae rfl rfl ⟨rfl,aq⟩ ⟨⟨_,rfl, .inl rfl⟩,aq⟩ rfl rfl) | (apply aI 39;exact aL hSz ae rfl rfl ⟨rfl,aq⟩ trivial rfl rfl) | (apply aI 58;exact aL hG ae rfl rfl ⟨rfl,aq⟩ ⟨⟨_,rfl, .inr rfl⟩,⟨_,rfl, .inl rfl⟩,aq⟩ rfl rfl));apply aO rfl rfl rfl;exact bd rfl rfl rfl rfl;refine aa rfl (cj rfl rfl rfl) (aA (ax ?_)))
   refine bf rfl (fun e1=> ?_) (fun e1=> ?_)
   ·have e1:(m:Int)≠n:=by simpa using e1
    rw [eO (fun h=>by have:=h.len i hiz;omega)]
    (refine au (ah (aa rfl (ay rfl rfl) (aA (ax (bw (aX (aJ (aJ (aX (aJ ?_)))))))))))
    exact bQ (.inl rfl) rfl (.tmp rfl) trivial trivial
   ·have e1:(m:Int)=n:=by simpa using e1
    (refine aU (bp (ax (ah ?_)));apply aa rfl;exact bG rfl rfl rfl bL;refine aa rfl (an rfl rfl) (aA ?_))
    exact bu (i + 1) ⟨hiz,fun j hj=>by
     by_cases e:j=i
     ·subst e;exact ⟨ab,hf.1,hf.2⟩
     ·exact hrows j ab⟩ ab (Wk.of ⟨rfl,rfl,rfl,rfl,aq⟩ ⟨rfl,rfl,aq⟩ trivial)
 obtain rfl:i=zss.length:=by omega
 have hrn:Rows zss n zss.length:=hrows
 have hT:=m5 hrn
 have hB:=oS hrn
 (refine bI (aF (aF (bt (ax (au (au (ah ?_)))))));apply aa rfl;(exact aB (d:=0) rfl rfl rfl ae);apply aa rfl;exact aN rfl ae rfl rfl rfl rfl;apply aa rfl;exact bF rfl rfl rfl ae;refine aa rfl (an rfl rfl) (aA (ax (aQ ?_))))
 refine bR (fun i:Nat=>St.of [(1,o1 (.ptr 1 0)),(38,o1 (.sl 1003 0 zss.length)),(39,vv (I6 zss.length)),(40,vv (I6 i))] [(1003,bh zss),(1,Fq zss.length)]) (fun i=>i≤zss.length∧∀i' k,i' < i→i' + 2≤k→k < zss.length→∀f,f < n→fu zss i' k f) (fun i=>zss.length - i) 0 ⟨Nat.zero_le _,fun j k hj=>absurd hj ab⟩ (Wk.of ⟨rfl,rfl,rfl,rfl,aq⟩ ⟨rfl,rfl,aq⟩ trivial) ?_
 clear hi hrows hlt
 rintro i ⟨hi,hci⟩
 (refine au (ah (aa rfl (bd rfl rfl rfl rfl) (aA (ax (au ?_))))))
 refine bY rfl (fun hlt=> ?_) (fun hlt=> ?_)
 ·have hiz:i < zss.length:=by omega
  have hrowi:(bU zss)[i]? =some (aV (aT zss i)):=bV hiz
  have hilm:(aV (aT zss i)).length=n:=by rw [bD];exact (hrn i hiz).1
  obtain ⟨mm,hmm⟩:∃mm,min (i + 2) zss.length=mm:=⟨_,rfl⟩
  have hmR:mm≤zss.length:=by omega
  have hi2:IntKind.i64.wrap ((i:Int) + 2)=((i + 2:Nat):Int):=IntWalk.i64_in _ ab
  (refine aU (ax (au (aQ (au (ah (aa rfl (an rfl rfl) ?_))))));apply aa rfl;(first | exact aP (j:=i) rfl rfl rfl rfl rfl ae rfl hiz (Nat.le_of_eq hlen.symm) | exact aM rfl ae rfl rfl rfl hrowi hilm | exact bG rfl rfl rfl hi2 | exact jr rfl rfl rfl | exact eU (k:=1) (l:=min (i + 2) zss.length) (h:=zss.length) rfl rfl rfl rfl ae ab (fC rfl rfl) fG ab (Nat.le_refl _) (by rw [Nat.mul_one,Nat.zero_add];exact Nat.le_of_eq hlen.symm));apply aa rfl;(first | exact aP (j:=i) rfl rfl rfl rfl rfl ae rfl hiz (Nat.le_of_eq hlen.symm) | exact aM rfl ae rfl rfl rfl hrowi hilm | exact bG rfl rfl rfl hi2 | exact jr rfl rfl rfl | exact eU (k:=1) (l:=min (i + 2) zss.length) (h:=zss.length) rfl rfl rfl rfl ae ab (fC rfl rfl) fG ab (Nat.le_refl _) (by rw [Nat.mul_one,Nat.zero_add];exact Nat.le_of_eq hlen.symm));refine aa rfl (ay rfl rfl) (aa rfl (ay rfl rfl) (aA (ax (au (ah ?_)))));apply aa rfl;(exact aB (d:=0) rfl rfl rfl ae);apply aa rfl;exact aN rfl ae rfl rfl rfl rfl;apply aa rfl;exact an rfl rfl;apply aa rfl;(first | exact aP (j:=i) rfl rfl rfl rfl rfl ae rfl hiz (Nat.le_of_eq hlen.symm) | exact aM rfl ae rfl rfl rfl hrowi hilm | exact bG rfl rfl rfl hi2 | exact jr rfl rfl rfl | exact eU (k:=1) (l:=min (i + 2) zss.length) (h:=zss.length) rfl rfl rfl rfl ae ab (fC rfl rfl) fG ab (Nat.le_refl _) (by rw [Nat.mul_one,Nat.zero_add];exact Nat.le_of_eq hlen.symm));apply aa rfl;(exact aB (d:=0) rfl rfl rfl ae);apply aa rfl;exact aN rfl ae rfl rfl rfl rfl;apply aa rfl;exact bF rfl rfl rfl ae;apply aa rfl;(first | exact aP (j:=i) rfl rfl rfl rfl rfl ae rfl hiz (Nat.le_of_eq hlen.symm) | exact aM rfl ae rfl rfl rfl hrowi hilm | exact bG rfl rfl rfl hi2 | exact jr rfl rfl rfl | exact eU (k:=1) (l:=min (i + 2) zss.length) (h:=zss.length) rfl rfl rfl rfl ae ab (fC rfl rfl) fG ab (Nat.le_refl _) (by rw [Nat.mul_one,Nat.zero_add];exact Nat.le_of_eq hlen.symm));apply aa rfl;(first | exact aP (j:=i) rfl rfl rfl rfl rfl ae rfl hiz (Nat.le_of_eq hlen.symm) | exact aM rfl ae rfl rfl rfl hrowi hilm | exact bG rfl rfl rfl hi2 | exact jr rfl rfl rfl | exact eU (k:=1) (l:=min (i + 2) zss.length) (h:=zss.length) rfl rfl rfl rfl ae ab (fC rfl rfl) fG ab (Nat.le_refl _) (by rw [Nat.mul_one,Nat.zero_add];exact Nat.le_of_eq hlen.symm));apply aa rfl;exact bF rfl rfl rfl ae;refine aa rfl (an rfl rfl) (aA (ax (aQ ?_))))
  rw [hmm]
  refine bR (fun j:Nat=>St.of [(1,o1 (.ptr 1 0)),(6,o1 (.esl 1003 i 0 n)),(38,o1 (.sl 1003 0 zss.length)),(39,vv (I6 zss.length)),(40,vv (I6 i)),(53,o1 (.sl 1003 mm (zss.length - mm))),(54,vv (I6 (zss.length - mm:Nat))),(55,vv (I6 j))] [(1003,bh zss),(1,Fq zss.length)]) (fun j=>j≤zss.length - mm∧∀k',i + 2≤k'→k' < mm + j→∀f,f < n→fu zss i k' f) (fun j=>zss.length - mm - j) 0 ⟨Nat.zero_le _,fun k' h1 h2=>absurd h1 ab⟩ (Wk.of ⟨rfl,rfl,rfl,rfl,rfl,congrArg (fun z=>some (o1 (.sl 1003 z (zss.length - mm)))) (Nat.zero_add mm),rfl,rfl,aq⟩ ⟨rfl,rfl,aq⟩ trivial) ?_
  rintro j ⟨hj,hck⟩
  (refine au (ah (aa rfl (bd rfl rfl rfl rfl) (aA (ax (au ?_))))))
  refine bY rfl (fun hlj=> ?_) (fun hlj=> ?_)
  ·obtain ⟨k,hk⟩:∃k,mm + j=k:=⟨_,rfl⟩
   have hkz:k < zss.length:=by omega
   have hki:i + 2≤k:=by omega
   have hjl:j < zss.length - mm:=by omega
   have hml:mm + (zss.length - mm)≤(bU zss).length:=by rw [hlen];omega
   have hrowk:(bU zss)[k]? =some (aV (aT zss k)):=bV hkz
   have hilk:(aV (aT zss k)).length=n:=by rw [bD];exact (hrn k hkz).1
   (refine aU (ax (au (aQ (au (ah ?_)))));apply aa rfl;(first | exact vb (j:=j) rfl rfl rfl rfl rfl ae rfl hjl hml hk | exact aM rfl ae rfl rfl rfl hrowk hilk | (apply aI 58;exact aL hG ae rfl rfl ⟨rfl,aq⟩ ⟨⟨_,rfl, .inr rfl⟩,⟨_,rfl, .inl rfl⟩,aq⟩ rfl rfl));apply aa rfl;(first | exact vb (j:=j) rfl rfl rfl rfl rfl ae rfl hjl hml hk | exact aM rfl ae rfl rfl rfl hrowk hilk | (apply aI 58;exact aL hG ae rfl rfl ⟨rfl,aq⟩ ⟨⟨_,rfl, .inr rfl⟩,⟨_,rfl, .inl rfl⟩,aq⟩ rfl rfl));refine aa rfl (ay rfl rfl) (aA (ax (au (ah ?_))));apply aa rfl;(first | exact vb (j:=j) rfl rfl rfl rfl rfl ae rfl hjl hml hk | exact aM rfl ae rfl rfl rfl hrowk hilk | (apply aI 58;exact aL hG ae rfl rfl ⟨rfl,aq⟩ ⟨⟨_,rfl, .inr rfl⟩,⟨_,rfl, .inl rfl⟩,aq⟩ rfl rfl));refine aa rfl (an rfl rfl) (aA (ax (aQ ?_))))
   refine bR (fun f:Nat=>St.of [(1,o1 (.ptr 1 0)),(6,o1 (.esl 1003 i 0 n)),(8,o1 (.esl 1003 k 0 n)),(38,o1 (.sl 1003 0 zss.length)),(39,vv (I6 zss.length)),(40,vv (I6 i)),(53,o1 (.sl 1003 mm (zss.length - mm))),(54,vv (I6 (zss.length - mm:Nat))),(55,vv (I6 j)),(59,vv (I6 n)),(60,vv (I6 f))] [(1003,bh zss),(1,Fq zss.length)]) (fun f=>f≤n∧∀f',f' < f→fu zss i k f') (fun f=>n - f) 0 ⟨Nat.zero_le _,fun f' h1=>absurd h1 ab⟩ (Wk.of ⟨rfl,rfl,rfl,rfl,rfl,rfl,rfl,rfl,rfl,rfl,rfl,aq⟩ ⟨rfl,rfl,aq⟩ trivial) ?_
   rintro f ⟨hf,hcf⟩
   (refine au (ah (aa rfl (bd rfl rfl rfl rfl) (aA (ax (au ?_))))))
   refine bY rfl (fun hlf=> ?_) (fun hlf=> ?_)
   ·have hfn:f < n:=by omega
    have hd1:=dj hT hfn (g:=i) hiz
    have hd2:=dj hT hfn (g:=k) hkz
    have hx1:=dj hT hd1.1 (g:=k) hkz
    have hx2:=dj hT hd2.1 (g:=i) hiz
    have hcm:fu zss i k f↔dy zss (dy zss f i) k=dy zss (dy zss f k) i∧dy zss f i≠dy zss f k:=Iff.rfl
    generalize dy zss (dy zss f i) k=x1 at *
    generalize dy zss (dy zss f k) i=x2 at *
    generalize dy zss f i=d1 at *
    generalize dy zss f k=d2 at *
    have g1:(aV (aT zss i))[f]? =some (I6 (d1:Int)):=by rw [ck (by rw [(hrn i hiz).1];exact hfn),hd1.2]
    have g2:(aV (aT zss k))[f]? =some (I6 (d2:Int)):=by rw [ck (by rw [(hrn k hkz).1];exact hfn),hd2.2]
    have g3:(aV (aT zss k))[d1]? =some (I6 (x1:Int)):=by rw [ck (by rw [(hrn k hkz).1];exact hd1.1),hx1.2]
    have g4:(aV (aT zss i))[d2]? =some (I6 (x2:Int)):=by rw [ck (by rw [(hrn i hiz).1];exact hd2.1),hx2.2]
    have hni:n≤(aV (aT zss i)).length:=Nat.le_of_eq hilm.symm
    have hnk:n≤(aV (aT zss k)).length:=Nat.le_of_eq hilk.symm
    (refine aU (ax (au (aQ (au (ah (aa rfl (an rfl rfl) (aa rfl (ay rfl rfl) (aA (ax (au ?_)))))))))))
    by_cases e1:(d1:Int)=d2
    ·apply gA 26 [] [[], [], [0,1], [0,1,2], [], [], [4,5], [4,5,6], [0,1,2,3,4,5,6,7], [0,1,2,3,4,5,6,7,8], [0,1,2,3,4,5,6,7,8,9], [0,1,2,3,4,5,6,7,8,9], [0,1,2,3,4,5,6,7,8,9], [0,1,2,3,4,5,6,7,8,9,11,12], [0,1,2,3,4,5,6,7,8,9,11,12,13], [0,1,2,3,4,5,6,7,8,9,10,11,12,13,14], [0,1,2,3,4,5,6,7,8,9,10,11,12,13,14,15], [0,1,2,3,4,5,6,7,8,9], [0,1,2,3,4,5,6,7,8,9], [0,1,2,3,4,5,6,7,8,9], [0,1,2,3,4,5,6,7,8,9,18,19], [0,1,2,3,4,5,6,7,8,9,18,19,20], [0,1,2,3,4,5,6,7,8,9,17,18,19,20,21], [0,1,2,3,4,5,6,7,8,9,17,18,19,20,21,22], [0,1,2,3,4,5,6,7,8,9,10,11,12,13,14,15,16,17,18,19,20,21,22,23], [0,1,2,3,4,5,6,7,8,9,10,11,12,13,14,15,16,17,18,19,20,21,22,23,24]] [63,64,65,66,67,68,69,70,71,72,73,74,75,76,77,78,79,80,81,82,83,84,85,86,87,88] [] (by kernel_rfl) (by kernel_rfl)
     ·(apply aH rfl;(intro S1 hS;exact an rfl (hS.op rfl)))
      (apply aH rfl;(intro S1 hS;exact an rfl (hS.op rfl)))
      (apply aH rfl;(intro S1 hS;exact bn (j:=f) rfl (hS.op rfl) (hS.op rfl) (hS.ch _ _ rfl) rfl ae hrowi rfl hfn hni))
      (apply aH rfl;(intro S1 hS;exact br rfl ae (hS.op rfl) (hS.ch _ _ rfl) rfl hrowi g1))
      (apply aH rfl;(intro S1 hS;exact an rfl (hS.op rfl)))
      (apply aH rfl;(intro S1 hS;exact an rfl (hS.op rfl)))
      (apply aH rfl;(intro S1 hS;exact bn (j:=f) rfl (hS.op rfl) (hS.op rfl) (hS.ch _ _ rfl) rfl ae hrowk rfl hfn hnk))
      (apply aH rfl;(intro S1 hS;exact br rfl ae (hS.op rfl) (hS.ch _ _ rfl) rfl hrowk g2))
      (apply aH rfl;(intro S1 hS;exact bd rfl (hS.op rfl) (hS.op rfl) (Gj e1)))
      (apply aH rfl;(intro S1 hS;exact an rfl (hS.op rfl)))
      apply bK rfl rfl rfl rfl rfl
      apply bK rfl rfl rfl rfl rfl
      apply bK rfl rfl rfl rfl rfl
      apply bK rfl rfl rfl rfl rfl
      apply bK rfl rfl rfl rfl rfl
      apply bK rfl rfl rfl rfl rfl
      apply bK rfl rfl rfl rfl rfl
      apply bK rfl rfl rfl rfl rfl
      apply bK rfl rfl rfl rfl rfl
      apply bK rfl rfl rfl rfl rfl
      apply bK rfl rfl rfl rfl rfl
      apply bK rfl rfl rfl rfl rfl
      apply bK rfl rfl rfl rfl rfl
      apply bK rfl rfl rfl rfl rfl
      apply bK rfl rfl rfl rfl rfl
      (apply aH rfl;(intro S1 hS;exact cF rfl (hS.op rfl) (hS.op rfl)))
      exact fR.nil
     ·rfl
     ((refine bl ae ?_;skip))
     (refine ax ?_)
     refine bf rfl (fun _=> ?_) (fun e=>by cases e)
     rw [eO (fun h=>by have:=(hcm.1 (h.comm i k hki hkz f ab)).2;omega)]
     (refine au (ah (aa rfl (ay rfl rfl) (aA (ax (bw (aX (aJ (aJ (aX (aX (aJ ?_)))))))))));refine aJ (aX (aX (aJ (aJ (aX (aJ ?_)))))))
     exact bQ (.inl rfl) rfl (.tmp rfl) trivial trivial
    ·apply gA 26 [] [[], [], [0,1], [0,1,2], [], [], [4,5], [4,5,6], [0,1,2,3,4,5,6,7], [0,1,2,3,4,5,6,7,8], [0,1,2,3,4,5,6,7,8,9], [0,1,2,3,4,5,6,7,8,9], [0,1,2,3,4,5,6,7,8,9], [0,1,2,3,4,5,6,7,8,9,11,12], [0,1,2,3,4,5,6,7,8,9,11,12,13], [0,1,2,3,4,5,6,7,8,9,10,11,12,13,14], [0,1,2,3,4,5,6,7,8,9,10,11,12,13,14,15], [0,1,2,3,4,5,6,7,8,9], [0,1,2,3,4,5,6,7,8,9], [0,1,2,3,4,5,6,7,8,9], [0,1,2,3,4,5,6,7,8,9,18,19], [0,1,2,3,4,5,6,7,8,9,18,19,20], [0,1,2,3,4,5,6,7,8,9,17,18,19,20,21], [0,1,2,3,4,5,6,7,8,9,17,18,19,20,21,22], [0,1,2,3,4,5,6,7,8,9,10,11,12,13,14,15,16,17,18,19,20,21,22,23], [0,1,2,3,4,5,6,7,8,9,10,11,12,13,14,15,16,17,18,19,20,21,22,23,24]] [63,64,65,66,67,68,69,70,71,72,73,74,75,76,77,78,79,80,81,82,83,84,85,86,87,88] [] (by kernel_rfl) (by kernel_rfl)
     ·(apply aH rfl;(intro S1 hS;exact an rfl (hS.op rfl)))
      (apply aH rfl;(intro S1 hS;exact an rfl (hS.op rfl)))
      (apply aH rfl;(intro S1 hS;exact bn (j:=f) rfl (hS.op rfl) (hS.op rfl) (hS.ch _ _ rfl) rfl ae hrowi rfl hfn hni))
      (apply aH rfl;(intro S1 hS;exact br rfl ae (hS.op rfl) (hS.ch _ _ rfl) rfl hrowi g1))
      (apply aH rfl;(intro S1 hS;exact an rfl (hS.op rfl)))
      (apply aH rfl;(intro S1 hS;exact an rfl (hS.op rfl)))
      (apply aH rfl;(intro S1 hS;exact bn (j:=f) rfl (hS.op rfl) (hS.op rfl) (hS.ch _ _ rfl) rfl ae hrowk rfl hfn hnk))
      (apply aH rfl;(intro S1 hS;exact br rfl ae (hS.op rfl) (hS.ch _ _ rfl) rfl hrowk g2))
      (apply aH rfl;(intro S1 hS;exact bd rfl (hS.op rfl) (hS.op rfl) (En e1)))
      (apply aH rfl;(intro S1 hS;exact an rfl (hS.op rfl)))
      (apply bC rfl rfl rfl;(intro S1 hS;exact an rfl (hS.op rfl)))
      (apply bC rfl rfl rfl;(intro S1 hS;exact an rfl (hS.op rfl)))
      (apply bC rfl rfl rfl;(intro S1 hS;exact an rfl (hS.op rfl)))
      (apply bC rfl rfl rfl;(intro S1 hS;exact bn (j:=f) rfl (hS.op rfl) (hS.op rfl) (hS.ch _ _ rfl) rfl ae hrowi rfl hfn hni))
      (apply bC rfl rfl rfl;(intro S1 hS;exact br rfl ae (hS.op rfl) (hS.ch _ _ rfl) rfl hrowi g1))
      (apply bC rfl rfl rfl;(intro S1 hS;exact bn (j:=d1) rfl (hS.op rfl) (hS.op rfl) (hS.ch _ _ rfl) rfl ae hrowk rfl hd1.1 hnk))
      (apply bC rfl rfl rfl;(intro S1 hS;exact br rfl ae (hS.op rfl) (hS.ch _ _ rfl) rfl hrowk g3))
      (apply bC rfl rfl rfl;(intro S1 hS;exact an rfl (hS.op rfl)))
      (apply bC rfl rfl rfl;(intro S1 hS;exact an rfl (hS.op rfl)))
      (apply bC rfl rfl rfl;(intro S1 hS;exact an rfl (hS.op rfl)))
      (apply bC rfl rfl rfl;(intro S1 hS;exact bn (j:=f) rfl (hS.op rfl) (hS.op rfl) (hS.ch _ _ rfl) rfl ae hrowk rfl hfn hnk))
      (apply bC rfl rfl rfl;(intro S1 hS;exact br rfl ae (hS.op rfl) (hS.ch _ _ rfl) rfl hrowk g2))
      (apply bC rfl rfl rfl;(intro S1 hS;exact bn (j:=d2) rfl (hS.op rfl) (hS.op rfl) (hS.ch _ _ rfl) rfl ae hrowi rfl hd2.1 hni))
      (apply bC rfl rfl rfl;(intro S1 hS;exact br rfl ae (hS.op rfl) (hS.ch _ _ rfl) rfl hrowi g4))
      (apply bC rfl rfl rfl;(intro S1 hS;exact bd rfl (hS.op rfl) (hS.op rfl) rfl))
      (apply aH rfl;(intro S1 hS;exact cj rfl (hS.op rfl) (hS.op rfl)))
      exact fR.nil
     ·rfl
     ((refine bl ae ?_;skip))
     (refine ax ?_)
     refine bf rfl (fun e2=> ?_) (fun e2=> ?_)
     ·have e2:(x1:Int)≠x2:=by simpa using e2
      rw [eO (fun h=>by have:=(hcm.1 (h.comm i k hki hkz f ab)).1;omega)]
      (refine au (ah (aa rfl (ay rfl rfl) (aA (ax (bw (aX (aJ (aJ (aX (aX (aJ ?_)))))))))));refine aJ (aX (aX (aJ (aJ (aX (aJ ?_)))))))
      exact bQ (.inl rfl) rfl (.tmp rfl) trivial trivial
     ·have e2:(x1:Int)=x2:=by simpa using e2
      (refine aU (bp (ax (ah ?_)));apply aa rfl;exact bG rfl rfl rfl bL;refine aa rfl (an rfl rfl) (aA ?_))
      exact bu (f + 1) ⟨hfn,fun f' hf'=>by
       by_cases e:f'=f
       ·subst e;exact hcm.2 ⟨ab,ab⟩
       ·exact hcf f' ab⟩ ab (Wk.of ⟨rfl,rfl,rfl,rfl,rfl,rfl,rfl,rfl,rfl,rfl,rfl,aq⟩ ⟨rfl,rfl,aq⟩ trivial)
   ·(refine bI (aF (aF (bt (bp (ax (ah ?_))))));apply aa rfl;exact bG rfl rfl rfl bL;refine aa rfl (an rfl rfl) (aA ?_))
    exact bu (j + 1) ⟨ab,fun k' h1 h2 f' hf'=>by
     by_cases e:k'=k
     ·subst e;exact hcf f' ab
     ·exact hck k' h1 ab f' hf'⟩ ab (Wk.of ⟨rfl,rfl,rfl,rfl,rfl,rfl,rfl,rfl,aq⟩ ⟨rfl,rfl,aq⟩ trivial)
  ·(refine bI (aF (aF (bt (bp (ax (ah ?_))))));apply aa rfl;exact bG rfl rfl rfl bL;refine aa rfl (an rfl rfl) (aA ?_))
   exact bu (i + 1) ⟨hiz,fun i' k' h1 h2 h3=>by
    by_cases e:i'=i
    ·subst e;exact hck k' h2 ab
    ·exact hci i' k' ab h2 h3⟩ ab (Wk.of ⟨rfl,rfl,rfl,rfl,aq⟩ ⟨rfl,rfl,aq⟩ trivial)
 obtain rfl:i=zss.length:=by omega
 have hM:EV zss:=⟨ab,ab,ab,ab,by rw [hn];exact hrn,fun i k h1 h2 f hf=>hci i k ab h1 h2 f ab⟩
 have hO:=(Ed zss n zss.length rfl hT hB ab ab ab).nm [(1003,1003),(16,96)] (by kernel_rfl)
 have hO:FC Try.prog 60 [(1003,bh zss)] [vv (I6 n),o1 (.sl 1003 0 zss.length)] [(96,cD (gV zss n).1)] (.tup [.one (.sl 96 0 n), .one (.val (I6 (gV zss n).2))]) []:=hO
 have hv:iY zss=(((gV zss n).2:Int) == 1):=by
  rw [hM.IS,hn]
  have:=CL hT hB (n:=n) ab
  by_cases hc:(lx zss n 0).2.length=n
  ·rw [hc,this.2 hc];simp
  ·have h1:(gV zss n).2≠1:=fun h=>hc (this.1 h)
   have h2:((gV zss n).2:Int)≠1:=by omega
   have h3:((lx zss n 0).2.length:Int)≠n:=by omega
   rw [beq_eq_false_iff_ne.2 h2,beq_eq_false_iff_ne.2 h3]
 rw [hv]
 (refine bI ?_;refine aF ?_;refine aF ?_;refine bt ?_;refine ax ?_;refine au ?_)
 apply eC 5 [] [[], [], [1], [0,1,2], [0,1,2,3], [0,1,2,3,4], [0,1,2,3,4], [0,1,2,3,4,5], [0,1,2,3,4,5,6,7]] [93,94,95,96,92] [96] (by kernel_rfl) (by kernel_rfl)
 ·(apply aE rfl;(intro S1 hS;apply aI 58;exact aL hG ae rfl (dG hS rfl) ⟨rfl,aq⟩ (cL hS ⟨⟨_,rfl, .inr rfl⟩,⟨_,rfl, .inl rfl⟩,aq⟩) rfl rfl))
  (apply aE rfl;(intro S1 hS;exact aB (d:=0) rfl (hS.op rfl) (hS.ch _ _ rfl) ae))
  (apply aE rfl;(intro S1 hS;exact aN rfl ae (hS.op rfl) (hS.ch _ _ rfl) rfl rfl))
  (apply ju rfl;(intro S1 hS;apply aI 60;exact dK hO ae rfl (dG hS rfl) ⟨rfl,rfl,aq⟩ (cL hS ⟨⟨_,rfl, .inl rfl⟩,aq⟩) rfl rfl rfl))
  (apply aE rfl;(intro S1 hS;exact an rfl (hS.op rfl)))
  exact fJ.nil
 ·rfl
 refine j8 (St.of [(11,vv (I6 (gV zss n).2))] []) ?_ ?_
 ·((apply cG 5 6 rfl ae rfl rfl rfl rfl;exact aW rfl rfl rfl;exact aW rfl rfl rfl;(focus ((apply cG 6 7 rfl ae rfl rfl rfl rfl;exact aW rfl rfl rfl;exact ay rfl rfl;(focus ((apply aG 7 rfl ae rfl rfl;exact ay rfl rfl);(apply aG 8 rfl ae rfl rfl;exact ay rfl rfl);(refine bl ae ?_;exact bB (Wk.of ⟨rfl,aq⟩ trivial trivial))));(focus ((apply aG 6 rfl ae rfl rfl;exact aW rfl rfl rfl);(apply aG 8 rfl ae rfl rfl;exact ay rfl rfl);(refine bl ae ?_;exact bB (Wk.of ⟨rfl,aq⟩ trivial trivial)))))));(focus ((apply aG 5 rfl ae rfl rfl;exact aW rfl rfl rfl);(apply aG 7 rfl ae rfl rfl;exact ay rfl rfl);(apply aG 8 rfl ae rfl rfl;exact ay rfl rfl);(refine bl ae ?_;exact bB (Wk.of ⟨rfl,aq⟩ trivial trivial))))))
 (refine ax (au (ah (aa rfl (an rfl rfl) (aa rfl (bd rfl rfl rfl rfl) (aa rfl (ay rfl rfl) (aA (ax (bw ?_)))))))))
 exact bQ (.inl rfl) rfl (.tmp rfl) trivial trivial
end Go.Proofs.Ytfpcfckocmmcnaa
namespace Go.Proofs.Ytfpcfckocmmcnaa
open Go.RowKit
end Go.Proofs.Ytfpcfckocmmcnaa
namespace Go.Proofs.Ytfpcfckocmmcnaa
open Go.RowKit
section
variable {P:Program} {nt:Nat} {S:St} {t:Nat} {ty:TypeId} {ps:String} {af:Array Edge} {gd:Option (Nat×Bool)} {x y:Operand}
end
end Go.Proofs.Ytfpcfckocmmcnaa
namespace Go.Proofs.Ytfpcfckocmmcnaa
open Go.RowKit
section
variable {P:Program} {nt:Nat} {S:St} {t:Nat} {ty:TypeId} {ps:String} {af:Array Edge} {gd:Option (Nat×Bool)} {x y:Operand}
end
end Go.Proofs.Ytfpcfckocmmcnaa
namespace Go.Proofs.Ytfpcfckocmmcnaa
open Go.RowKit
end Go.Proofs.Ytfpcfckocmmcnaa
namespace Go.Proofs.Ytfpcfckocmmcnaa
open Go.RowKit
section
variable {P:Program} {nt:Nat} {S:St} {t:Nat} {ty:TypeId} {ps:String} {af:Array Edge} {gd:Option (Nat×Bool)}
end
end Go.Proofs.Ytfpcfckocmmcnaa
namespace Go.Proofs.Ytfpcfckocmmcnaa
open Go.RowKit
section
variable {P:Program} {nt:Nat} {S:St} {t:Nat} {ty:TypeId} {ps:String} {af:Array Edge} {gd:Option (Nat×Bool)} {x:Operand}
end
end Go.Proofs.Ytfpcfckocmmcnaa
namespace Go.Proofs.Ytfpcfckocmmcnaa
open Go.RowKit
def ln (N:Nat) (g:Nat→Nat) (v:Nat→Int) (m:Nat):List Int:=(List.range m).foldl (fun l i=>l.set (g i) (v i)) (List.replicate N 0)
theorem oL (N:Nat) (g:Nat→Nat) (v:Nat→Int):ln N g v 0=List.replicate N 0:=rfl
theorem mn (N:Nat) (g:Nat→Nat) (v:Nat→Int) (m:Nat):ln N g v (m + 1)=(ln N g v m).set (g m) (v m):=by unfold ln;rw [List.range_succ,List.foldl_append];rfl
theorem nX (N:Nat) (g:Nat→Nat) (v:Nat→Int):∀m,(ln N g v m).length=N
 | 0=>by simp [oL]
 | m + 1=>by rw [mn,List.length_set];exact nX N g v m
theorem rA {N:Nat} {g:Nat→Nat} {v:Nat→Int} {M:Nat} (hg:∀i,i < M→g i < N) (hi:∀i j,i < M→j < M→g i=g j→i=j):∀m,m≤M→∀i,i < m→aD (ln N g v m) (g i)=v i
 | 0,_,i,h=>by omega
 | m + 1,hm,i,h=>by
  rw [mn]
  have hl:=nX N g v m
  by_cases e:i=m
  ·subst e
   simp [aD,hl,hg i ab]
  ·have hne:g m≠g i:=fun h'=>e (hi m i ab ab h').symm
   have:=rA (v:=v) hg hi m ab i ab
   rw [←this]
   simp [aD,List.getElem?_set,hne]
end Go.Proofs.Ytfpcfckocmmcnaa
namespace Go.Proofs.Ytfpcfckocmmcnaa
open Go.RowKit
def cM (w:World) (v:Value) (zss:List (List Int)):Prop:=∃ao c,v= .slice ao zss.length c∧zss.length≤17592186044416∧(0 < zss.length→zss.length≤c∧∃b off,ao=some ⟨b,off,none⟩∧b < w.heap.size∧
 ∀j,j < zss.length→∃a' c',w.cell? ⟨b,off + j,none⟩=some (.slice a' (aT zss j).length c')∧(aT zss j).length≤c'∧cW w a' (aT zss j).length (aT zss j))
theorem cM.rd {w:World} {v:Value} {zss:List (List Int)} (h:cM w v zss):mN w v zss:=by
 obtain ⟨ao,c,rfl,hn,hc⟩:=h
 refine ⟨ao,_,c,rfl,rfl,hn,fun h0=> ?_⟩
 obtain ⟨_,b,off,e,_,h1⟩:=hc h0
 refine ⟨b,off,e,fun j hj=> ?_⟩
 obtain ⟨a',c',h2,_,h3⟩:=h1 j hj
 exact ⟨_,h2,a',_,c',rfl,h3⟩
theorem cM.below {w w':World} {v:Value} {zss:List (List Int)} (h:cM w v zss) (hb:Below w.heap.size w w'):cM w' v zss:=by
 obtain ⟨ao,c,rfl,hn,hc⟩:=h
 refine ⟨ao,c,rfl,hn,fun h0=> ?_⟩
 obtain ⟨h1,b,off,e,hlt,h2⟩:=hc h0
 refine ⟨h1,b,off,e,Nat.lt_of_lt_of_le hlt hb.size,fun j hj=> ?_⟩
 obtain ⟨a',c',h3,h4,h5⟩:=h2 j hj
 exact ⟨a',c',(hb.cell (p:=⟨b,off + j,none⟩) hlt).trans h3,h4,h5.below hb⟩
theorem cM.drewN {w:World} {v:Value} {zss:List (List Int)} (h:cM w v zss) (m:Nat):cM (w.drewN m) v zss:=h
theorem pP.II {E1 E:Nat} {w:World} {lo hi:Nat} {v:Value} {zss:List (List Int)} (h:pP E1 E w lo hi v zss):cM w v zss:=by
 obtain ⟨ao,n,c,us,rfl,ho⟩:=h
 have hl:=ho.len
 subst hl
 refine ⟨ao,c,rfl,by have:=ho.own.2;omega,fun h0=> ?_⟩
 obtain ⟨g,rfl,_,hlt,hc,hcell,_⟩:=ho.own.form h0
 refine ⟨hc,g,0,rfl,hlt,fun j hj=> ?_⟩
 obtain ⟨u,d,hu,hd,⟨a',n',c',rfl,h1⟩,_⟩:=ho.get hj
 have hd':aT zss j=d:=hU hd
 rw [hd']
 have hl:=h1.len
 rw [List.length_map] at hl
 subst hl
 refine ⟨a',c',by rw [Nat.zero_add,hcell j hj,hu], ?_,h1.ints⟩
 rcases Nat.eq_zero_or_pos d.length with h2 | h2
 ·omega
 ·obtain ⟨_,_,_,_,h3,_⟩:=h1.form h2;exact h3
theorem Ai {w:World} {v:Value} {zss:List (List Int)} (x E' E1':Nat) (h:cM w v zss):∃hd r,v= .slice hd.ao zss.length hd.c∧Hv w x ⟨false,E',1, .rows E1' (bU zss) []⟩ hd r:=by
 obtain ⟨ao,c,rfl,hn,hc⟩:=h
 rcases Nat.eq_zero_or_pos zss.length with h0 | h0
 ·refine ⟨⟨ao,c,1⟩,fun _=>⟨none,0,1⟩,rfl,fun η he=>⟨rfl, ?_,fun j hj=> ?_⟩⟩
  ·show (bU zss).length≤c * 1
   rw [cB];omega
  ·have hj:j < (bU zss).length:=hj
   rw [cB] at hj;omega
 ·obtain ⟨h1,b,off,rfl,hlt,h2⟩:=hc h0
  have hr:∀j,∃q:Hd,q.k=1∧(j < zss.length→w.cell? ⟨b,off + j,none⟩=some (.slice q.ao (aT zss j).length q.c)∧DB ur w q (aV (aT zss j)).length fun i u=>(aV (aT zss j))[i]? =some u):=fun j=>by
   by_cases hj:j < zss.length
   ·obtain ⟨a',c',h3,h4,h5⟩:=h2 j hj
    refine ⟨⟨a',c',1⟩,rfl,fun _=>⟨h3,by rw [bD];show _≤c' * 1;omega,fun i hi=> ?_⟩⟩
    rw [bD] at hi
    obtain ⟨b',o',e',hb',hcell⟩:=h5.GK ab
    exact ⟨b',o',I6 (aD (aT zss j) i),e',rfl,hb',hcell i hi,ck hi⟩
   ·exact ⟨⟨none,0,1⟩,rfl,fun h=>absurd h hj⟩
  refine ⟨⟨some ⟨b,off,none⟩,c,1⟩,fun j=>Classical.choose (hr j),rfl,fun η he=>⟨rfl, ?_,fun j hj=> ?_⟩⟩
  ·show (bU zss).length≤c * 1
   rw [cB];omega
  ·have hj:j < zss.length:=by have:j < (bU zss).length:=hj;rwa [cB] at this
   obtain ⟨k1,k2⟩:=Classical.choose_spec (hr j)
   obtain ⟨k3,k4⟩:=k2 hj
   refine ⟨b,off, .slice (Classical.choose (hr j)).ao (aT zss j).length (Classical.choose (hr j)).c,rfl,rfl,hlt,k3,rfl,fun _ vs hvs=> ?_⟩
   have hvd:vs=aV (aT zss j):=by
    rw [bV hj] at hvs;exact (Option.some.inj hvs).symm
   subst hvd
   rw [he j]
   exact ⟨congrArg (fun m=>Value.slice (Classical.choose (hr j)).ao m (Classical.choose (hr j)).c) (bD _).symm,k1,k4⟩
theorem Ga {f:FuncId} {outs:List (Nm×Ch)} {res:AV} {d:List (List Int)} {n:Int} (hf:FC Try.prog f [(1003,bh d)] [vv (I6 n),o1 (.sl 1003 0 d.length)] outs res []) {w:World} {v:Value} (h:cM w v d):
  Calls Try.prog f #[.int .i64 n,v] w fun e w'=>∃v η ω,e= .returned v∧Den η res v∧Mem η ω w' (fun x=>lk x outs)∧Below w.heap.size w w'∧∀b,b < w.heap.size→ω b=none:=by
 obtain ⟨hd,r,rfl,hv⟩:=Ai 1003 24 2 h
 exact hf.call (l:= [(1003,(bh d,hd,r))]) (us:= [_,_]) (fun p hp=>by simp at hp;subst hp;exact hv) rfl (Az rfl (nc (q:=(bh d,hd,r)) rfl))
end Go.Proofs.Ytfpcfckocmmcnaa
namespace Go.Proofs.Ytfpcfckocmmcnaa
def cn (d:List (List Int)):Nat:=(aT d 0).length
structure po (d e:List (List Int)) (p:List Int):Prop where
 len:p.length=cn d
 val:∀i,i < cn d→∃x:Nat,aD p i=(x:Int)∧x < cn e
 mov:∀g i,g < d.length→i < cn d→aD p (dy d i g)=aD (aT e g) (aD p i).toNat
open Classical in
noncomputable def ll (d e:List (List Int)) (f:Nat):Option (List Int):=if h:d.length=e.length∧∃p,po d e p∧aD p 0=(f:Int) then some (Classical.choose h.2) else none
theorem bM {d:List (List Int)} (h:dW d):dh d (cn d):=m5 h.rows
theorem ke {d:List (List Int)} (h:dW d):mC d (cn d):=oS h.rows
theorem iW {d:List (List Int)} (h:dW d):∀i,i < cn d→mW d (cn d) 0 i=true:=(lW (bM h) (by have:=h.f2;unfold cn;omega)).1 h.conn
theorem vj {d:List (List Int)} (h:dW d) {p:Nat→Prop} (h0:p 0) (hp:∀i,i < cn d→p i→∀g,g < d.length→p (dy d i g)):∀i,i < cn d→p i:=fun i hi=>
 m6 (bM h) ab h0 hp i hi (iW h i hi)
theorem DW {d e:List (List Int)} (hd:dW d) {p q:List Int} (hp:po d e p) (hq:po d e q) (h0:aD p 0=aD q 0):p=q:=
 j7 (by rw [hp.len,hq.len]) fun k hk=>vj hd (p:=fun i=>aD p i=aD q i) h0 (fun i hi h g hg=>by rw [hp.mov g i hg hi,hq.mov g i hg hi,h]) k (by rw [←hp.len];exact hk)
theorem tB {d e:List (List Int)} {f:Nat} {p:List Int} (h:ll d e f=some p):d.length=e.length∧po d e p∧aD p 0=(f:Int):=by
 unfold ll at h
 split at h
 ·rename_i hh
  injection h with h
  subst h
  exact ⟨hh.1,Classical.choose_spec hh.2⟩
 ·cases h
theorem zI {d e:List (List Int)} (hd:dW d) (hl:d.length=e.length) {f:Nat} {p:List Int} (hp:po d e p) (h0:aD p 0=(f:Int)):ll d e f=some p:=by
 have h:d.length=e.length∧∃p,po d e p∧aD p 0=(f:Int):=⟨hl,p,hp,h0⟩
 unfold ll
 rw [dif_pos h]
 have hs:=Classical.choose_spec h.2
 rw [DW hd hs.1 hp (hs.2.trans h0.symm)]
theorem Bw {d e:List (List Int)} {f:Nat} (h:∀p,po d e p→aD p 0=(f:Int)→False):ll d e f=none:=by
 unfold ll
 rw [dif_neg]
 rintro ⟨_,p,hp,h0⟩
 exact h p hp h0
theorem Bs {d e:List (List Int)} {f:Nat} (h:d.length≠e.length):ll d e f=none:=by
 unfold ll;rw [dif_neg (fun q=>h q.1)]
def yl (L:List Int):Nat:=(L.filter fun z=>decide (z < 0)).length
theorem ve:∀ {L:List Int} {y:Nat} {x:Int},y < L.length→aD L y < 0→0≤x→yl (L.set y x) + 1=yl L
 | [],y,x,h,_,_=>by simp at h
 | z :: r,0,x,_,h1,h2=>by
  have h1:z < 0:=by simpa [aD] using h1
  simp [yl,h1,show ¬x < 0 by omega]
 | z :: r,y + 1,x,h,h1,h2=>by
  have ih:=ve (L:=r) (y:=y) (x:=x) (by simpa using h) (by simpa [aD] using h1) h2
  unfold yl at ih ⊢
  simp only [List.set_cons_succ,List.filter_cons]
  split
  ·simp only [List.length_cons];omega
  ·exact ih
theorem ue {p:List Int} {i k:Nat} {x:Int} (hi:i < p.length):aD (p.set i x) k=if k=i then x else aD p k:=by
 unfold aD
 rw [List.getD_eq_getElem?_getD,List.getD_eq_getElem?_getD,List.getElem?_set]
 by_cases h:i=k
 ·subst h;simp [hi]
 ·rw [if_neg h,if_neg (fun e=>h e.symm)]
structure Bz (d e:List (List Int)) (f:Nat) (L O:List Int):Prop where
 len:L.length=cn d
 val:∀i,i < cn d→aD L i= -1∨∃x:Nat,aD L i=(x:Int)∧x < cn e
 zero:aD L 0=(f:Int)
 G9:∀z,z∈O→∃i:Nat,z=(i:Int)∧i < cn d∧aD L i≠ -1
 done:∀i,i < cn d→aD L i≠ -1→(i:Int) ∉ O→∀g,g < d.length→aD L (dy d i g)=aD (aT e g) (aD L i).toNat
 just:∀p,po d e p→aD p 0=(f:Int)→∀i,i < cn d→aD L i≠ -1→aD p i=aD L i
section
variable {d e:List (List Int)} {f:Nat} {L O:List Int}
theorem Bz.nn (h:Bz d e f L O) {i:Nat} (hi:i < cn d) (hl:aD L i≠ -1):∃x:Nat,aD L i=(x:Int)∧x < cn e:=(h.val i hi).resolve_left hl
theorem Bz.start (hd:dW d) (hf:f < cn e):Bz d e f ((List.replicate (cn d) (-1)).set 0 (f:Int)) [0]:=by
 have h2:2≤cn d:=hd.f2
 have hg:∀i,i < cn d→aD ((List.replicate (cn d) (-1)).set 0 (f:Int)) i=if i=0 then (f:Int) else -1:=fun i hi=>by
  rw [ue (by simp;omega)]
  split
  ·rfl
  ·exact fl hi
 refine ⟨by simp,fun i hi=> ?_,by rw [hg 0 ab];rfl,fun z hz=> ?_,fun i hi hl hn=> ?_,fun p hp h0 i hi hl=> ?_⟩
 ·rw [hg i hi]
  split
  ·exact .inr ⟨f,rfl,hf⟩
  ·exact .inl rfl
 ·simp at hz;subst hz
  exact ⟨0,rfl,ab,by rw [hg 0 ab,if_pos rfl];omega⟩
 ·rw [hg i hi] at hl
  split at hl
  ·rename_i h;subst h;exact absurd (by simp) hn
  ·exact absurd rfl hl
 ·rw [hg i hi] at hl ⊢
  split at hl
  ·rename_i h;subst h;rw [if_pos rfl];exact h0
  ·exact absurd rfl hl
structure zt (d e:List (List Int)) (f:Nat) (L O:List Int) (x k:Nat):Prop where
 st:Bz d e f L O
 xs:x < cn d
 nn:aD L x≠ -1
 seen:∀g,g < k→aD L (dy d x g)=aD (aT e g) (aD L x).toNat
variable {x k:Nat}
theorem Bz.front (h:Bz d e f L O) (hx:(x:Int)∈O):zt d e f L O x 0:=by
 obtain ⟨i,e1,e2,e3⟩:=h.G9 _ hx
 obtain rfl:x=i:=by omega
 exact ⟨h,e2,e3,fun g hg=>absurd hg ab⟩
theorem zt.cz (h:zt d e f L O x k) (hd:dW d) (he:dW e) (hl:d.length=e.length) (hk:k < d.length):∃y t:Nat,aD (aT d k) x=(y:Int)∧y < cn d∧dy d x k=y∧(∃u:Nat,aD L x=(u:Int)∧u < cn e∧aD (aT e k) u=(t:Int))∧t < cn e:=by
 obtain ⟨u,e1,e2⟩:=h.st.nn h.xs h.nn
 have h1:=dj (bM hd) h.xs hk
 have h2:=dj (bM he) e2 (by omega:k < e.length)
 exact ⟨dy d x k,dy e u k,h1.2,h1.1,rfl,⟨u,e1,e2,h2.2⟩,h2.1⟩
theorem zt.same (h:zt d e f L O x k) {y t u:Nat} (hy:dy d x k=y) (hu:aD L x=(u:Int)) (ht:aD (aT e k) u=(t:Int)) (hl:aD L y=(t:Int)):zt d e f L O x (k + 1):=
 ⟨h.st,h.xs,h.nn,fun g hg=>by
  by_cases e1:g=k
  ·subst e1;rw [hy,hl,hu,Int.toNat_natCast,ht]
  ·exact h.seen g ab⟩
theorem zt.new (h:zt d e f L O x k) (hd:dW d) (he:dW e) (hl:d.length=e.length) (hk:k < d.length) {y t u:Nat} (hy:dy d x k=y) (hu:aD L x=(u:Int)) (hue:u < cn e) (ht:aD (aT e k) u=(t:Int)) (hte:t < cn e) (hn:aD L y < 0):zt d e f (L.set y (t:Int)) (O ++ [(y:Int)]) x (k + 1):=by
 have hyl:y < cn d:=by rw [←hy];exact (dj (bM hd) h.xs hk).1
 have hg:∀i,aD (L.set y (t:Int)) i=if i=y then (t:Int) else aD L i:=fun i=>ue (by rw [h.st.len];exact hyl)
 have hny:aD L y= -1:=by
  rcases h.st.val y hyl with e1 | ⟨z,e1,_⟩
  ·exact e1
  ·omega
 have hxy:x≠y:=fun e1=>h.nn (e1 ▸ hny)
 have old:∀i,i < cn d→aD L i≠ -1→∀g,g < d.length→aD L (dy d i g)=aD (aT e g) (aD L i).toNat→aD (L.set y (t:Int)) (dy d i g)=aD (aT e g) (aD (L.set y (t:Int)) i).toNat:=fun i hi hli g hgl hq=>by
  have h1:i≠y:=fun e1=>hli (e1 ▸ hny)
  obtain ⟨z,e1,e2⟩:=h.st.nn hi hli
  have h2:=dj (bM he) e2 (by omega:g < e.length)
  have h3:dy d i g≠y:=fun e3=>by rw [e3,hny,e1,Int.toNat_natCast,h2.2] at hq;omega
  rw [hg,if_neg h3,hg,if_neg h1,hq]
 refine ⟨⟨by rw [List.length_set];exact h.st.len,fun i hi=> ?_, ?_,fun z hz=> ?_,fun i hi hli hn g hgl=> ?_,fun p hp h0 i hi hli=> ?_⟩,h.xs, ?_,fun g hgk=> ?_⟩
 ·rw [hg]
  split
  ·exact .inr ⟨t,rfl,hte⟩
  ·exact h.st.val i hi
 ·rw [hg,if_neg]
  ·exact h.st.zero
  ·intro e1;have:=h.st.zero;rw [e1,hny] at this;omega
 ·rcases List.mem_append.1 hz with h1 | h1
  ·obtain ⟨i,e1,e2,e3⟩:=h.st.G9 z h1
   refine ⟨i,e1,e2, ?_⟩
   rw [hg];split
   ·omega
   ·exact e3
  ·simp at h1;subst h1
   exact ⟨y,rfl,hyl,by rw [hg,if_pos rfl];omega⟩
 ·have hiy:i≠y:=fun e1=>by subst e1;exact hn (by simp)
  have hli':aD L i≠ -1:=by rw [hg,if_neg hiy] at hli;exact hli
  exact old i hi hli' g hgl (h.st.done i hi hli' (fun q=>hn (List.mem_append_left _ q)) g hgl)
 ·rw [hg] at hli ⊢
  by_cases e1:i=y
  ·subst e1
   rw [if_pos rfl]
   have h1:=hp.mov k x hk h.xs
   rw [hy,h.st.just p hp h0 x h.xs h.nn,hu,Int.toNat_natCast,ht] at h1
   exact h1
  ·rw [if_neg e1] at hli ⊢
   exact h.st.just p hp h0 i hi hli
 ·rw [hg,if_neg hxy];exact h.nn
 ·by_cases e1:g=k
  ·subst e1
   rw [hy,hg,if_pos rfl,hg,if_neg hxy,hu,Int.toNat_natCast,ht]
  ·exact old x h.xs h.nn g ab (h.seen g ab)
theorem zt.Hn (h:zt d e f L O x k) (hd:dW d) (hk:k < d.length) {y t u:Nat} (hy:dy d x k=y) (hu:aD L x=(u:Int)) (ht:aD (aT e k) u=(t:Int)) (hl:aD L y≠ -1) (hne:aD L y≠(t:Int)):ll d e f=none:=Bw fun p hp h0=>by
 have h1:=hp.mov k x hk h.xs
 have hyl:y < cn d:=by rw [←hy];exact (dj (bM hd) h.xs hk).1
 rw [hy,h.st.just p hp h0 x h.xs h.nn,hu,Int.toNat_natCast,ht,h.st.just p hp h0 y hyl hl] at h1
 exact hne h1
theorem zt.next (h:zt d e f L O x d.length) (hO:O[0]? =some (x:Int)):Bz d e f L (O.drop 1):=by
 refine ⟨h.st.len,h.st.val,h.st.zero,fun z hz=>h.st.G9 z (List.mem_of_mem_drop hz),fun i hi hli hn g hgl=> ?_,h.st.just⟩
 by_cases e1:i=x
 ·subst e1;exact h.seen g hgl
 ·refine h.st.done i hi hli (fun q=> ?_) g hgl
  cases O with
  | nil=>simp at q
  | cons a r=>
   simp at hO hn
   subst hO
   rcases List.mem_cons.1 q with q | q
   ·exact e1 ab
   ·exact hn q
theorem Bz.fin (h:Bz d e f L []) (hd:dW d) (he:dW e) (hl:d.length=e.length):ll d e f=some L:=by
 have hall:∀i,i < cn d→aD L i≠ -1:=vj hd (p:=fun i=>aD L i≠ -1) (by rw [h.zero];omega) fun i hi hli g hg=>by
  rw [h.done i hi hli (by simp) g hg]
  obtain ⟨z,e1,e2⟩:=h.nn hi hli
  rw [e1,Int.toNat_natCast,(dj (bM he) e2 (by omega:g < e.length)).2]
  omega
 exact zI hd hl ⟨h.len,fun i hi=>h.nn hi (hall i hi),fun g i hg hi=>h.done i hi (hall i hi) (by simp) g hg⟩ h.zero
end
end Go.Proofs.Ytfpcfckocmmcnaa
namespace Go.Proofs.Ytfpcfckocmmcnaa
open Go.RowKit
theorem xJ {E1 E:Nat} {lo hi:Nat} {v:Value} {d:List (List Int)} (w:World) (h:sQ E1 E w lo hi v d) (h1:d.length≤1048576) (h2:∀i,i < d.length→(aT d i).length≤1048576):
  Calls Try.prog 35 #[v] w fun e w'=>e= .returned (.bool (iY d))∧Below w.heap.size w w':=uA (Fm (fun _=>E0 d h1 h2) h)
theorem wJ {E1 E:Nat} {lo hi:Nat} {v:Value} {d:List (List Int)} (w:World) (h:sQ E1 E w lo hi v d) (h1:d.length≤1048576) (h2:∀i,i < d.length→(aT d i).length≤1048576):
  Calls Try.prog 30 #[v] w fun e w'=>e= .returned (.bool (iY d))∧Below w.heap.size w w':=uA (Fm (fun _=>Ak d h1 h2) h)
theorem Ba (ao:Option Addr) (n c:Nat) (w:World):Calls Try.prog 39 #[.slice ao n c] w fun e w'=>e= .returned (.int .i64 n)∧w=w':=by
 go_enter Try.func39,Try.ntmps39
 go_wp2
 go_ret
 exact ⟨rfl,rfl⟩
theorem ib (mb:Nat) (ao:Option Addr) (n c m:Nat) (d:List (List Int)) (w:World) (hm:dQ w mb 29 #[.slice ao n c]) (h:mN w (.slice ao n c) d) (hn:0 < n) (hl:(aT d 0).length=m) (hm4:m≤1000000):
  Calls Try.prog 58 #[.pointer (some ⟨mb,0,none⟩)] w fun e w'=>e= .returned (.int .i64 m)∧w=w':=by
 obtain ⟨a1,n1,c1,e,hi⟩:=h
 injection e with e1 e2 e3
 subst e1 e2 e3
 obtain ⟨b,off,a',n',c',rfl,hc,hi'⟩:=hi.at_ hn
 have hnm:n'=m:=by rw [←hi'.1];exact hl
 subst hnm
 have x0:=hm.cell 0
 simp at x0 hc
 clear hi hi' hl hm
 go_enter Try.func58,Try.ntmps58
 go_wp2_with (go_at_call 39;refine (Ba _ _ _ _).mono ?_;rintro e w' ⟨rfl,hw⟩;subst hw)
 go_ret
 exact ⟨rfl,rfl⟩
theorem yw (ao:Option Addr) (n c:Nat) (w:World):Calls Try.prog 73 #[.slice ao n c] w fun e w'=>e= .returned (.int .i64 n)∧w=w':=by
 go_enter Try.func73,Try.ntmps73
 go_wp2
 go_ret
 exact ⟨rfl,rfl⟩
theorem g9 (mb n c:Nat) (ao:Option Addr) (w:World) (hm:dQ w mb 29 #[.slice ao n c]):
  Calls Try.prog 42 #[.pointer (some ⟨mb,0,none⟩)] w fun e w'=>e= .returned (.int .i64 n)∧w=w':=by
 have x0:=hm.cell 0
 simp at x0
 go_enter Try.func42,Try.ntmps42
 go_wp2_with (go_at_call 73;refine (yw _ _ _ _).mono ?_;rintro e w' ⟨rfl,hw⟩;subst hw)
 go_ret
 exact ⟨rfl,rfl⟩
end Go.Proofs.Ytfpcfckocmmcnaa
namespace Go.Proofs.Ytfpcfckocmmcnaa
open Go.RowKit
theorem cM.fw {w:World} {ao:Option Addr} {n c:Nat} {d:List (List Int)} (h:cM w (.slice ao n c) d):ep w ao n d:=by
 obtain ⟨a1,n1,c1,e,hi⟩:=h.rd
 injection e with e1 e2 e3
 subst e1 e2 e3
 exact hi
theorem FH {f:FuncId} {outs:List (Nm×Ch)} {res:AV} {d:List (List Int)} (hf:FC Try.prog f [(1003,bh d)] [mA d.length] outs res []) {w:World} {v:Value} (h:cM w v d):
  Calls Try.prog f #[.agg #[v]] w fun e w'=>∃v η ω,e= .returned v∧Den η res v∧Mem η ω w' (fun x=>lk x outs)∧Below w.heap.size w w'∧∀b,b < w.heap.size→ω b=none:=by
 obtain ⟨hd,r,rfl,hv⟩:=Ai 1003 24 2 h
 exact hf.call (l:= [(1003,(bh d,hd,r))]) (us:= [_]) (fun p hp=>by simp at hp;subst hp;exact hv) rfl (DI (H4 (nc (q:=(bh d,hd,r)) rfl)))
def DT (d:List (List Int)):Prop:=d.length≤1048576∧∀i,i < d.length→(aT d i).length≤1048576
theorem ji {w:World} {v:Value} {d:List (List Int)} (h:cM w v d) (hf:DT d):
  Calls Try.prog 30 #[.agg #[v]] w fun e w'=>e= .returned (.bool (iY d))∧Below w.heap.size w w':=uA (FH (Ak d hf.1 hf.2) h)
theorem kW {d:List (List Int)} (h:dW d):DT d:=⟨by have:=h.n5;omega,fun i hi=>by have:=h.len i hi;have:=h.f4;omega⟩
end Go.Proofs.Ytfpcfckocmmcnaa
namespace Go.Proofs.Ytfpcfckocmmcnaa
open Go.RowKit
theorem mV {T1 E lo:Nat} {wr w2 w3 w4:World} {ao ao' ao2:Option Addr} {m c n' c' c2:Nat} {us:List Value} {ds:List (List Int)} {zs:List Int}
  (hR:eT (jV T1) wr lo wr.heap.size E ao m c us ds) (hlo:lo≤wr.heap.size) (hb:Below wr.heap.size wr w2) (hu:Own w2 wr.heap.size T1 ao' n' c' (zs.map (Value.int .i64))) (hb3:Below w2.heap.size w2 w3)
  (hown:Own w4 lo E ao2 (m + 1) c2 (us ++ [.slice ao' n' c'])) (hg:w3.grownBy w4 (bk ao)) (hat:bk ao2=bk ao∨∃g,bk ao2=some g∧w2.heap.size≤g):
  eT (jV T1) w4 lo w4.heap.size E ao2 (m + 1) c2 (us ++ [.slice ao' n' c']) (ds ++ [zs]):=by
 have hR3:eT (jV T1) w3 lo wr.heap.size E ao m c us ds:=hR.below (cJ _) (hb.trans (hb3.mono hb.size))
 have s1:=hb.size
 have s2:=hb3.size
 have s3:=hg.size
 have hub:∀g,bk ao'=some g→wr.heap.size≤g∧g < w2.heap.size:=hu.lt
 have hne:∀g,bk ao'=some g→bk ao≠some g:=fun g h1 h2=>by have:=hub g h1;have:=hR.top g h2;omega
 have hu4:jV T1 w4 (.slice ao' n' c') zs:=(cJ T1).loc (w:=w2) ⟨ao',n',c',rfl,hu.mono (Nat.zero_le _)⟩ fun g h=>by
  rw [bN] at h
  have:=hub g h
  rw [hg.block g ab (fun e=>hne g h e.symm)]
  exact hb3.block g this.2
 refine hR3.push (cJ _) hown hg hu4 (nE fun g h=>⟨by have:=hub g h;omega,by have:=hub g h;omega⟩) (fun g h=>(hown.lt g h).2) ab ?_ ?_
 ·intro g h
  rcases hat with h1 | ⟨g1,h1,h5⟩
  ·exact .inl (h1 ▸ h)
  ·refine .inr fun j u hj e=> ?_
   rw [h1] at h;obtain rfl:=Option.some.inj h
   have:=(hR3.rng j u hj _ e).2
   omega
 ·intro g h
  rw [bN] at h
  have hh:=hub g h
  refine ⟨fun e=> ?_,fun j v hj e=> ?_⟩
  ·rcases hat with h1 | ⟨g1,h1,h5⟩
   ·exact hne g h (h1 ▸ e)
   ·rw [h1] at e;have:=Option.some.inj e;omega
  ·have:=(hR3.rng j v hj _ e).2;omega
theorem DE (ao:Option Addr) (n c:Nat) (zss:List (List Int)) (w:World) (h:ep w ao n zss) (hn:zss.length + lg zss≤1048576):
  Calls Try.prog 63 #[.slice ao n c] w fun e w'=>∃v,e= .returned v∧pP 2 24 w' w.heap.size w'.heap.size v zss∧Below w.heap.size w w':=by
 have HL:=Lib.hid h.1
 have hn1:n≤1048576:=by have:=HL.out;omega
 go_enter Try.func63,Try.ntmps63
 go_wp2
 go_loopw [4,3] (fun i v wr=>∃(k:Nat) (ao':Option Addr) (c':Nat) (us:List Value),k≤n∧i= .int .i64 k∧v= .slice ao' k c'∧eT (jV 2) wr w.heap.size wr.heap.size 24 ao' k c' us (zss.take k)∧Below w.heap.size w wr) (fun i _ _=>n - (intOf i).toNat)
 case atStart=>exact ⟨0,_,_, [],Nat.zero_le _,rfl,rfl,eT.dD (Own.dD w _ (Nat.le_refl _)) (by intro g hg;simp [bk] at hg;simp;omega),below_alloc1 _ _⟩
 case round=>
  obtain ⟨k,ao',c',us,hk,rfl,rfl,ho,hb⟩:=hrel
  by_cases hlt:k < n
  ·obtain ⟨b,off,a1,n1,c1,rfl,hc,h1⟩:=(h.below hb).at_ hlt
   have hkl:k < zss.length:=by rw [HL.out];exact hlt
   have hsz:n1≤1048576:=by have:=uS hkl;have:=h1.1;omega
   have hbs:=hb.size
   have HT:=Lib.hid (fM hkl)
   clear hkl
   go_wp2_with fail
   refine (qf a1 n1 c1 (aT zss k) _ h1 hsz).mono ?_
   rintro e w2 ⟨a2,c2,rfl,o2,b2⟩
   have ho2:=ho.own.below b2
   have hs2:=b2.size
   go_wp2_with (at_builtin;refine eL kH _ rfl _ _ rfl w.heap.size ao' k c' us rfl ho2 (.slice a2 n1 c2) rfl rfl ab ab ?_;intro ao3 c3 w3 o3 g3 hat)
   have hR:=mV ho hbs b2 o2 (Below.refl _ _) o3 g3 (hat.imp id fun e=>⟨_,e,ab⟩)
   have hB:=(bc b2 hb).grown g3 ab (fun g hg=>(ho.own.lt g hg).1)
   clear ho ho2 o2 b2 o3 g3 hat h1 hb
   go_wp2
   go_roundw
   case rel=>exact ⟨k + 1,ao3,c3,_,ab,by go_num,rfl,by rw [HT.out];exact hR,hB⟩
   case measure=>simp [intOf];omega
  ·obtain rfl:k=n:=by omega
   rw [List.take_of_length_le (Nat.le_of_eq HL.out)] at ho
   go_wp2_with fail
   go_ret
   exact ⟨_,rfl,⟨_,_,_,us,rfl,ho⟩,hb⟩
end Go.Proofs.Ytfpcfckocmmcnaa
namespace Go.Proofs.Ytfpcfckocmmcnaa
open Go.RowKit
structure vI (w wr:World) (bx lo:Nat) (ao:Option Addr) (m c:Nat) (us:List Value) (ds:List (List Int)):Prop where
 box:dQ wr bx 29 #[.slice ao m c]
 row:eT (jV 2) wr lo wr.heap.size 24 ao m c us ds
 at_:w.heap.size≤bx∧bx < lo∧lo≤wr.heap.size
 bel:Below w.heap.size w wr
 few:m≤1000
section
variable {w wr w2 w3 w4:World} {bx lo m c n1 c1 c2:Nat} {ao a1 ao2:Option Addr} {us:List Value} {ds:List (List Int)} {zs:List Int}
theorem vI.below (st:vI w wr bx lo ao m c us ds) (b:Below wr.heap.size wr w2):vI w w2 bx lo ao m c us ds:=by
 obtain ⟨h1,h2,h3⟩:=st.at_
 have s:=b.size
 exact ⟨st.box.bm b,(st.row.below (cJ _) b).mono (Nat.le_refl _) s,⟨h1,h2,ab⟩,st.bel.trans (b.mono ab),st.few⟩
theorem vI.start (hb:Below w.heap.size w wr) (k:dQ wr bx 29 #[.slice none 0 0]) (h1:w.heap.size≤bx):vI w wr bx (bx + 1) none 0 0 [] []:=by
 have hl:=k.lt
 exact ⟨k,eT.dD (Own.iX _ _ _) (fun g hg=>by cases hg),⟨h1,ab,ab⟩,hb,ab⟩
theorem vI.Eh (st:vI w wr bx lo ao m c us ds) (hg:wr.grownBy w4 (bk ao)):dQ w4 bx 29 #[.slice ao m c]:=by
 obtain ⟨h1,h2,h3⟩:=st.at_
 unfold dQ
 rw [hg.block bx st.box.lt (fun e=>by have:=(st.row.own.lt _ e.symm).1;omega)]
 exact st.box
theorem vI.push (st:vI w wr bx lo ao m c us ds) (hm:m + 1≤1000) (b2:Below wr.heap.size wr w2) (o1:Own w2 wr.heap.size 2 a1 n1 c1 (zs.map (Value.int .i64))) (b3:Below w2.heap.size w2 w3) (o4:Own w4 lo 24 ao2 (m + 1) c2 (us ++ [.slice a1 n1 c1]))
  (g4:w3.grownBy w4 (bk ao)) (hat:bk ao2=bk ao∨∃g,bk ao2=some g∧w2.heap.size≤g):
  vI w (w4.setCell ⟨bx,0,none⟩ (.slice ao2 (m + 1) c2)) bx lo ao2 (m + 1) c2 (us ++ [.slice a1 n1 c1]) (ds ++ [zs]):=by
 obtain ⟨h1,h2,h3⟩:=st.at_
 have hR:=mV st.row h3 b2 o1 b3 o4 g4 hat
 have s2:=b2.size
 have s3:=b3.size
 have s4:=g4.size
 have hbx:=st.box.lt
 have B4:Below w.heap.size w w4:=(st.bel.trans ((b2.trans (b3.mono s2)).mono ab)).grown g4 ab (fun g hg=>by have:=(st.row.own.lt g hg).1;omega)
 have hh:(w4.setCell ⟨bx,0,none⟩ (.slice ao2 (m + 1) c2)).heap.size=w4.heap.size:=by simp [World.setCell]
 have k:∀g,g < wr.heap.size→bk ao≠some g→w4.heap[g]? =wr.heap[g]? :=fun g hg hne=>by
  rw [g4.block g ab (fun e=>hne e.symm),b3.block g ab,b2.block g hg]
 refine ⟨?_, ?_,⟨h1,h2,by rw [hh];omega⟩,B4.setCell (by simp;omega) _,hm⟩
 ·have:dQ w4 bx 29 #[.slice ao m c]:=by unfold dQ;rw [k bx hbx (fun e=>by have:=(st.row.own.lt _ e).1;omega)];exact st.box
  simpa using this.fz 0 (.slice ao2 (m + 1) c2)
 ·rw [hh]
  exact hR.same (cJ _) fun g h1 _ _=>Below.heap_setCell _ _ _ _ (by simp;omega)
theorem vI.done (st:vI w wr bx lo ao m c us ds) {p:Addr} (hp:p.block < bx) (u:Value) {lo':Nat} (hl:lo'≤w.heap.size):sQ 2 24 (wr.setCell p u) lo' (wr.setCell p u).heap.size (.agg #[.slice ao m c]) ds:=by
 obtain ⟨h1,h2,h3⟩:=st.at_
 have hh:(wr.setCell p u).heap.size=wr.heap.size:=by simp [World.setCell]
 refine ⟨ao,m,c,us,rfl, ?_⟩
 rw [hh]
 exact (st.row.same (cJ _) fun g h1 _ _=>Below.heap_setCell _ _ _ _ ab).mono ab (Nat.le_refl _)
theorem vI.cell (st:vI w wr bx lo ao m c us ds):wr.cell? ⟨bx,0,none⟩=some (.slice ao m c):=by
 have:=st.box.cell 0
 simpa using this
end
end Go.Proofs.Ytfpcfckocmmcnaa
namespace Go.Proofs.Ytfpcfckocmmcnaa
open Go.RowKit
end Go.Proofs.Ytfpcfckocmmcnaa
namespace Go.Proofs.Ytfpcfckocmmcnaa
open Go.RowKit
def D4 (w:World) (us:List Value) (zss:List (List Int)):Prop:=us.length=zss.length∧∀j,j < zss.length→∃a' c',us[j]? =some (.slice a' (aT zss j).length c')∧(aT zss j).length≤c'∧cW w a' (aT zss j).length (aT zss j)
theorem D4.below {w w':World} {us:List Value} {zss:List (List Int)} (h:D4 w us zss) (hb:Below w.heap.size w w'):D4 w' us zss:=
 ⟨h.1,fun j hj=>by obtain ⟨a,c,h1,h2,h3⟩:=h.2 j hj;exact ⟨a,c,h1,h2,h3.below hb⟩⟩
theorem D4.one {w:World} {us:List Value} {zss:List (List Int)} (h:D4 w us zss):∀u∈us,u.oneCell'=true:=fun u hu=>by
 obtain ⟨j,hj,rfl⟩:=List.getElem_of_mem hu
 obtain ⟨a,c,h1,_,_⟩:=h.2 j (by rw [←h.1];exact hj)
 rw [List.getElem?_eq_getElem hj] at h1
 rw [Option.some.inj h1];rfl
theorem cM.rows {w:World} {v:Value} {zss:List (List Int)} (h:cM w v zss):∃ao c us,v= .slice ao zss.length c∧sV w ao zss.length us∧D4 w us zss∧(0 < zss.length→zss.length≤c):=by
 obtain ⟨ao,c,rfl,hn,hc⟩:=h
 rcases Nat.eq_zero_or_pos zss.length with h0 | h0
 ·refine ⟨ao,c, [],rfl,⟨by rw [h0];rfl,hn,fun h=>by omega⟩,⟨by rw [h0];rfl,fun j hj=>by omega⟩,fun h=>by omega⟩
 ·obtain ⟨h1,b,off,e,hlt,h2⟩:=hc h0
  have hget:∀j,j < zss.length→((List.range zss.length).map fun j=>(w.cell? ⟨b,off + j,none⟩).getD (.slice none 0 0))[j]? =some ((w.cell? ⟨b,off + j,none⟩).getD (.slice none 0 0)):=fun j hj=>by simp [hj]
  refine ⟨ao,c,(List.range zss.length).map fun j=>(w.cell? ⟨b,off + j,none⟩).getD (.slice none 0 0),rfl,⟨by simp,hn,fun _=>⟨b,off,e,fun j u hu=> ?_⟩⟩,⟨by simp,fun j hj=> ?_⟩,fun _=>h1⟩
  ·have hj:j < zss.length:=by have:=(List.getElem?_eq_some_iff.1 hu).1;simpa using this
   obtain ⟨a',c',h3,_,_⟩:=h2 j hj
   rw [hget j hj,h3] at hu
   rw [h3];exact hu
  ·obtain ⟨a',c',h3,h4,h5⟩:=h2 j hj
   exact ⟨a',c',by rw [hget j hj,h3];rfl,h4,h5⟩
theorem GJ {w:World} {g n c:Nat} {us:List Value} {zss:List (List Int)} (hn:zss.length=n) (hn1:n≤c) (hn2:n≤17592186044416) (hg:g < w.heap.size) (hc:∀j,j < n→w.cell? ⟨g,j,none⟩=us[j]?) (hr:D4 w us zss):cM w (.slice (some ⟨g,0,none⟩) n c) zss:=by
 subst hn
 refine ⟨_,_,rfl,hn2,fun h0=>⟨hn1,g,0,rfl,hg,fun j hj=> ?_⟩⟩
 obtain ⟨a',c',h1,h2,h3⟩:=hr.2 j hj
 exact ⟨a',c',by rw [Nat.zero_add,hc j hj];exact h1,h2,h3⟩
theorem xA (ao:Option Addr) (n c:Nat) (us:List Value) (w:World) (h:sV w ao n us) (hn:0 < n) (hn4:n≤4398046511104) (h1:∀u∈us,u.oneCell'=true):
  Calls Try.prog 78 #[.slice ao n c] w fun e w'=>∃g c',e= .returned (.slice (some ⟨g,0,none⟩) n c')∧Own w' w.heap.size 24 (some ⟨g,0,none⟩) n c' us∧Below w.heap.size w w':=by
 have he:=fun (w:World)=>Lib.run_eql_slice_nil (P:=Try.prog) w 25 24 ao n c 0 0 Try.underlying25
 obtain ⟨b,off,rfl,hcell⟩:=h.2.2 hn
 go_enter Try.func78,Try.ntmps78
 have hO:Own (w.alloc (.cells #[] 24)) w.heap.size 24 (some ⟨w.heap.size,0,none⟩) 0 0 []:=Own.dD w _ (Nat.le_refl _)
 have HO:=Lib.hid hO
 have hV:sV (w.alloc (.cells #[] 24)) (some ⟨b,off,none⟩) n us:=⟨h.1,h.2.1,fun _=>⟨b,off,rfl,fun j u hu=>by
  have h2:=hcell j u hu
  exact (World.cell?_of_block (Below.heap_alloc w _ b (World.block_lt_of_cell? w _ h2))).trans h2⟩⟩
 have HV:=Lib.hid hV
 have hs:w.heap.size≤(w.alloc (.cells #[] 24)).heap.size:=by simp
 have H1:=Lib.hid h1
 clear hO hV hcell h h1
 go_wp2_with (at_builtin;refine gp kH _ rfl _ _ rfl w.heap.size _ 0 0 [] rfl HO.out (some ⟨b,off,none⟩) n c us rfl HV.out H1.out ab hs ?_;intro ao2 c2 w2 o2 g2 hat)
 rw [Nat.zero_add] at o2
 obtain ⟨g,hg,hg1,_⟩:=o2.form hn
 subst hg
 have hb:Below w.heap.size w w2:=(below_alloc1 w (.cells #[] 24)).grown g2 (by simp) (fun k hk=>by simp [bk] at hk;omega)
 go_ret
 exact ⟨g,c2,rfl,by simpa using o2,hb⟩
end Go.Proofs.Ytfpcfckocmmcnaa
namespace Go.Proofs.Ytfpcfckocmmcnaa
def Ht (p q:List Int):List Int:=p.map fun x=>aD q x.toNat
end Go.Proofs.Ytfpcfckocmmcnaa
namespace Go.Proofs.Ytfpcfckocmmcnaa
open Go.RowKit
end Go.Proofs.Ytfpcfckocmmcnaa
namespace Go.Proofs.Ytfpcfckocmmcnaa
open Go.RowKit
end Go.Proofs.Ytfpcfckocmmcnaa
namespace Go.Proofs.Ytfpcfckocmmcnaa
open Go.RowKit
end Go.Proofs.Ytfpcfckocmmcnaa
namespace Go.Proofs.Ytfpcfckocmmcnaa
open Go.RowKit
end Go.Proofs.Ytfpcfckocmmcnaa
namespace Go.Proofs.Ytfpcfckocmmcnaa
open Go.RowKit
end Go.Proofs.Ytfpcfckocmmcnaa
namespace Go.Proofs.Ytfpcfckocmmcnaa
open Go.RowKit
section
variable {T:List (List Int)} {n:Nat}
end
end Go.Proofs.Ytfpcfckocmmcnaa
namespace Go.Proofs.Ytfpcfckocmmcnaa
open Go.RowKit
end Go.Proofs.Ytfpcfckocmmcnaa
namespace Go.Proofs.Ytfpcfckocmmcnaa
open Go.RowKit
section
variable {T:List (List Int)} {n:Nat}
theorem Bl (hT:dh T n) (hB:vE T n):(gV T n).1.length=n∧(gV T n).2≤n∧(∀p,p < n→∃d:Nat,aD (gV T n).1 p=(d:Int)∧d < (gV T n).2):=by
 have h:=kd hT hB n (Nat.le_refl _)
 have hk:∀j,(eX T n j).2≤j:=fun j=>by
  induction j with
  | zero=>exact Nat.le_refl _
  | succ j ih=>rw [fb];unfold gL;split;omega;show (eX T n j).2 + 1≤j + 1;omega
 refine ⟨h.len,hk n,fun p hp=> ?_⟩
 have h0:=(h.met p hp).2 ⟨p,hp,gJ hT hp⟩
 have h1:=h.low p hp
 exact ⟨(aD (eX T n n).1 p).toNat,by unfold gV;omega,by unfold gV;omega⟩
end
theorem vJ {f:FuncId} {args:Array Value} {w:World} {x m:Nat} {zs:List Int} (hm:zs.length=m) (hm4:m≤1000000)
  (h:Calls Try.prog f args w fun e w'=>∃v η ω,e= .returned v∧Den η (o1 (.sl x 0 m)) v∧Mem η ω w' (fun y=>lk y [(x,cD zs)])∧Below w.heap.size w w'∧∀b,b < w.heap.size→ω b=none):
  Calls Try.prog f args w fun e w'=>∃v,e= .returned v∧ry 2 w' w.heap.size w'.heap.size v zs∧Below w.heap.size w w':=by
 refine h.mono ?_
 rintro e w' ⟨v,η,ω,rfl,hd,hmem,hb,hlo⟩
 subst hm
 exact ⟨v,rfl,I8 hmem hlo (by simp [lk]) hd ab,hb⟩
end Go.Proofs.Ytfpcfckocmmcnaa
namespace Go.Proofs.Ytfpcfckocmmcnaa
open Go.RowKit
theorem Aj (zss:List (List Int)) (n c:Nat) (hT:dh zss n) (hpos:0 < zss.length) (hn:n≤1000000) (hg:zss.length≤1000000) (hc:c < n):
  FC Try.prog 77 [(1003,bh zss)] [o1 (.sl 1003 0 zss.length),vv (I6 c)] [(20,cD (lx zss n c).2)] (o1 (.sl 20 0 (lx zss n c).2.length)) []:=by
 have hlen:(bU zss).length=zss.length:=cB _
 have hr0:(aT zss 0).length=n:=hT.len 0 hpos
 have hrow0:(bU zss)[0]? =some (aV (aT zss 0)):=bV hpos
 have hil:(aV (aT zss 0)).length=n:=by rw [bD];exact hr0
 have hrp:(List.replicate n false).length=n:=by simp
 have hbl:n≤(gS (List.replicate n false)).length:=by rw [kE];simp
 refine cu (nt:=54) Try.func77 rfl rfl (by simp) fun w0 ω0=> ?_
 (refine au (ah (aa rfl (ay rfl rfl) (aA (ax (au (ah (aa rfl (an rfl rfl) ?_)))))));apply aa rfl;(first | exact aP (j:=0) rfl rfl rfl rfl rfl ae rfl hpos (Nat.le_of_eq hlen.symm) | exact aM rfl ae rfl rfl rfl hrow0 hil | exact fp (n:=n) (E:=4) rfl ae ae rfl rfl rfl rfl ab | exact aP (j:=c) rfl rfl rfl rfl rfl ae rfl hc hbl | exact fx (bs:=List.replicate n false) rfl rfl rfl rfl rfl (by rw [hrp];omega) ae);apply aa rfl;(first | exact aP (j:=0) rfl rfl rfl rfl rfl ae rfl hpos (Nat.le_of_eq hlen.symm) | exact aM rfl ae rfl rfl rfl hrow0 hil | exact fp (n:=n) (E:=4) rfl ae ae rfl rfl rfl rfl ab | exact aP (j:=c) rfl rfl rfl rfl rfl ae rfl hc hbl | exact fx (bs:=List.replicate n false) rfl rfl rfl rfl rfl (by rw [hrp];omega) ae);apply aa rfl;exact bF rfl rfl rfl ae;apply aa rfl;(first | exact aP (j:=0) rfl rfl rfl rfl rfl ae rfl hpos (Nat.le_of_eq hlen.symm) | exact aM rfl ae rfl rfl rfl hrow0 hil | exact fp (n:=n) (E:=4) rfl ae ae rfl rfl rfl rfl ab | exact aP (j:=c) rfl rfl rfl rfl rfl ae rfl hc hbl | exact fx (bs:=List.replicate n false) rfl rfl rfl rfl rfl (by rw [hrp];omega) ae);refine aa rfl (ay rfl rfl) (aA (ax (au (ah (aa rfl (an rfl rfl) (aa rfl (an rfl rfl) ?_))))));apply aa rfl;(first | exact aP (j:=0) rfl rfl rfl rfl rfl ae rfl hpos (Nat.le_of_eq hlen.symm) | exact aM rfl ae rfl rfl rfl hrow0 hil | exact fp (n:=n) (E:=4) rfl ae ae rfl rfl rfl rfl ab | exact aP (j:=c) rfl rfl rfl rfl rfl ae rfl hc hbl | exact fx (bs:=List.replicate n false) rfl rfl rfl rfl rfl (by rw [hrp];omega) ae);apply aa rfl;(first | exact aP (j:=0) rfl rfl rfl rfl rfl ae rfl hpos (Nat.le_of_eq hlen.symm) | exact aM rfl ae rfl rfl rfl hrow0 hil | exact fp (n:=n) (E:=4) rfl ae ae rfl rfl rfl rfl ab | exact aP (j:=c) rfl rfl rfl rfl rfl ae rfl hc hbl | exact fx (bs:=List.replicate n false) rfl rfl rfl rfl rfl (by rw [hrp];omega) ae);refine aA (ax (au (ah (aa rfl (an rfl rfl) ?_))));apply aa rfl;(exact cN (E:=2) rfl ae rfl);refine aa rfl (ay rfl rfl) (aA (ax (au (au (ah (aa rfl (ay rfl rfl) (aA (ax (aQ ?_))))))))))
 generalize hm:2 ^ zss.length - 1=mask
 have hstep:∀k,k < zss.length→∀c s,dX zss mask c s k=py zss c s k:=fun k hk c s=>by rw [←hm];exact xI hk c s
 have hout:lx zss n c=dU zss mask zss.length (n + 1) 0 (ey n c):=by rw [←hm];rfl
 rw [hout]
 refine bR (fun q:Nat×lv=>St.of [(0,o1 (.sl 1003 0 zss.length)),(5,o1 (.sl 15 0 n)),(6,o1 (.sl 20 0 q.2.2.length)),(7,vv (I6 q.1))] [(1003,bh zss),(20,cD q.2.2),(15,Dy q.2.1)])
  (fun q=>q.1≤q.2.2.length∧sP n q.2∧dU zss mask zss.length (n + 1 - q.1) q.1 q.2=dU zss mask zss.length (n + 1) 0 (ey n c)) (fun q=>n + 1 - q.1) (0,ey n c) ⟨Nat.zero_le _,fK hc,rfl⟩ (Wk.of ⟨rfl,rfl,rfl,rfl,aq⟩ ⟨rfl,rfl,rfl,aq⟩ trivial) ?_
 rintro ⟨i,s⟩ ⟨hi,hok,hl⟩
 dsimp only at hi hl ⊢
 have hOn:s.2.length≤n:=hok.le
 (refine au (au (ah (aa rfl (an rfl rfl) (aa rfl (an rfl rfl) (aa rfl (bF rfl rfl rfl ae) ?_)))));refine aa rfl (bd rfl rfl rfl rfl) (aA (ax ?_)))
 refine bY rfl (fun h=> ?_) (fun h=> ?_)
 ·have hlt:i < s.2.length:=by omega
  have hl':dU zss mask zss.length (n - i) (i + 1) (uJ zss mask zss.length (aD s.2 i).toNat s)=dU zss mask zss.length (n + 1) 0 (ey n c):=by
   rw [←hl,show n + 1 - i=(n - i) + 1 by omega];exact (qB hlt).symm
  obtain ⟨e,he1,he2, -⟩:=hok.q i hlt
  rw [he1,Int.toNat_natCast] at hl'
  have hro:=fun m hm=>iu (mask:=mask) hT rfl he2 hok m hm
  obtain ⟨s0,hs0⟩:∃s0:lv,s0=s:=⟨_,rfl⟩
  rw [←hs0] at hro hl'
  have hi0:i < s0.2.length:=by rw [hs0];exact hlt
  have he0:aD s0.2 i=(e:Int):=by rw [hs0];exact he1
  (refine aU (ax (au (aQ (au (ah (aa rfl (an rfl rfl) (aa rfl (bF rfl rfl rfl ae) ?_)))))));refine aa rfl (an rfl rfl) (aA (ax (aQ ?_))))
  refine bR (fun q:Nat×lv=>St.of [(0,o1 (.sl 1003 0 zss.length)),(5,o1 (.sl 15 0 n)),(6,o1 (.sl 20 0 q.2.2.length)),(7,vv (I6 i)),(27,o1 (.sl 1003 0 zss.length)),(28,vv (I6 zss.length)),(29,vv (I6 q.1))] [(1003,bh zss),(20,cD q.2.2),(15,Dy q.2.1)])
   (fun q=>q.1≤zss.length∧(List.range q.1).foldl (dX zss mask e) s0=q.2) (fun q=>zss.length - q.1) (0,s) ⟨Nat.zero_le _,hs0⟩ (Wk.of ⟨rfl,rfl,rfl,rfl,rfl,rfl,rfl,aq⟩ ⟨rfl,rfl,rfl,aq⟩ trivial) ?_
  clear hl hok hs0 he1 hlt h hi hOn
  rintro ⟨k,s⟩ ⟨hk,hfo⟩
  dsimp only at hk hfo ⊢
  obtain ⟨hok,grw,_⟩:=hro k hk
  rw [hfo] at hok grw
  have hOn:s.2.length≤n:=hok.le
  have hlt:i < s.2.length:=Nat.lt_of_lt_of_le hi0 grw.len
  have hei:aD s.2 i=(e:Int):=(grw.pre i hi0).trans he0
  have hbl:s.1.length=n:=hok.l
  (refine au (ah (aa rfl (bd rfl rfl rfl rfl) (aA (ax (au ?_))))))
  refine bY rfl (fun h2=> ?_) (fun h2=> ?_)
  ·have hkn:k < zss.length:=by omega
   have hd:=dj hT he2 (g:=k) hkn
   have hrl:(aT zss k).length=n:=hT.len k hkn
   have hrowk:(bU zss)[k]? =some (aV (aT zss k)):=bV hkn
   have hilk:(aV (aT zss k)).length=n:=by rw [bD];exact hrl
   obtain ⟨d,hdd⟩:∃d,dy zss e k=d:=⟨_,rfl⟩
   have hst:(List.range (k + 1)).foldl (dX zss mask e) s0=py zss e s k:=by
    rw [List.range_succ,List.foldl_append,hfo];exact hstep k hkn e s
   unfold py at hst
   rw [hdd] at hd hst
   have hgetd:(aV (aT zss k))[e]? =some (I6 (d:Int)):=by rw [ck ab,hd.2]
   have hgq:(aV s.2)[i]? =some (I6 (e:Int)):=by rw [ck hlt,hei]
   have hgb:(gS s.1)[d]? =some (.bool (jY s.1 d)):=tp ab
   have hel:e < (aV (aT zss k)).length:=by rw [hilk];exact he2
   have hbb:n≤(gS s.1).length:=by rw [kE,hbl];exact Nat.le_refl _
   have hq0:s.2.length≤(aV s.2).length:=by rw [bD];exact Nat.le_refl _
   (refine aU (ax (au (aQ (au (ah ?_)))));apply aa rfl;(first | exact aP (j:=k) rfl rfl rfl rfl rfl ae rfl hkn (Nat.le_of_eq hlen.symm) | exact aM rfl ae rfl rfl rfl hrowk hilk | exact aP (j:=i) rfl rfl rfl rfl rfl ae rfl hlt hq0 | exact bO rfl ae rfl rfl rfl hgq | exact bn (j:=e) rfl rfl rfl rfl ae hrowk rfl he2 (Nat.le_of_eq hilk.symm) | exact br rfl ae rfl rfl rfl hrowk hgetd | exact aP (j:=d) rfl rfl rfl rfl rfl ae rfl ab hbb | exact bO rfl ae rfl rfl rfl hgb);apply aa rfl;(first | exact aP (j:=k) rfl rfl rfl rfl rfl ae rfl hkn (Nat.le_of_eq hlen.symm) | exact aM rfl ae rfl rfl rfl hrowk hilk | exact aP (j:=i) rfl rfl rfl rfl rfl ae rfl hlt hq0 | exact bO rfl ae rfl rfl rfl hgq | exact bn (j:=e) rfl rfl rfl rfl ae hrowk rfl he2 (Nat.le_of_eq hilk.symm) | exact br rfl ae rfl rfl rfl hrowk hgetd | exact aP (j:=d) rfl rfl rfl rfl rfl ae rfl ab hbb | exact bO rfl ae rfl rfl rfl hgb);refine aa rfl (ay rfl rfl) (aA (ax (au (ah (aa rfl (an rfl rfl) (aa rfl (an rfl rfl) (aa rfl (an rfl rfl) ?_)))))));apply aa rfl;(first | exact aP (j:=k) rfl rfl rfl rfl rfl ae rfl hkn (Nat.le_of_eq hlen.symm) | exact aM rfl ae rfl rfl rfl hrowk hilk | exact aP (j:=i) rfl rfl rfl rfl rfl ae rfl hlt hq0 | exact bO rfl ae rfl rfl rfl hgq | exact bn (j:=e) rfl rfl rfl rfl ae hrowk rfl he2 (Nat.le_of_eq hilk.symm) | exact br rfl ae rfl rfl rfl hrowk hgetd | exact aP (j:=d) rfl rfl rfl rfl rfl ae rfl ab hbb | exact bO rfl ae rfl rfl rfl hgb);apply aa rfl;(first | exact aP (j:=k) rfl rfl rfl rfl rfl ae rfl hkn (Nat.le_of_eq hlen.symm) | exact aM rfl ae rfl rfl rfl hrowk hilk | exact aP (j:=i) rfl rfl rfl rfl rfl ae rfl hlt hq0 | exact bO rfl ae rfl rfl rfl hgq | exact bn (j:=e) rfl rfl rfl rfl ae hrowk rfl he2 (Nat.le_of_eq hilk.symm) | exact br rfl ae rfl rfl rfl hrowk hgetd | exact aP (j:=d) rfl rfl rfl rfl rfl ae rfl ab hbb | exact bO rfl ae rfl rfl rfl hgb);apply aa rfl;exact bn rfl rfl rfl rfl rfl ae aK aY aC aZ;apply aa rfl;(first | exact aP (j:=k) rfl rfl rfl rfl rfl ae rfl hkn (Nat.le_of_eq hlen.symm) | exact aM rfl ae rfl rfl rfl hrowk hilk | exact aP (j:=i) rfl rfl rfl rfl rfl ae rfl hlt hq0 | exact bO rfl ae rfl rfl rfl hgq | exact bn (j:=e) rfl rfl rfl rfl ae hrowk rfl he2 (Nat.le_of_eq hilk.symm) | exact br rfl ae rfl rfl rfl hrowk hgetd | exact aP (j:=d) rfl rfl rfl rfl rfl ae rfl ab hbb | exact bO rfl ae rfl rfl rfl hgb);refine aa rfl (ay rfl rfl) (aA (ax (au (ah (aa rfl (an rfl rfl) (aa rfl (an rfl rfl) ?_))))));apply aa rfl;(first | exact aP (j:=k) rfl rfl rfl rfl rfl ae rfl hkn (Nat.le_of_eq hlen.symm) | exact aM rfl ae rfl rfl rfl hrowk hilk | exact aP (j:=i) rfl rfl rfl rfl rfl ae rfl hlt hq0 | exact bO rfl ae rfl rfl rfl hgq | exact bn (j:=e) rfl rfl rfl rfl ae hrowk rfl he2 (Nat.le_of_eq hilk.symm) | exact br rfl ae rfl rfl rfl hrowk hgetd | exact aP (j:=d) rfl rfl rfl rfl rfl ae rfl ab hbb | exact bO rfl ae rfl rfl rfl hgb);apply aa rfl;(first | exact aP (j:=k) rfl rfl rfl rfl rfl ae rfl hkn (Nat.le_of_eq hlen.symm) | exact aM rfl ae rfl rfl rfl hrowk hilk | exact aP (j:=i) rfl rfl rfl rfl rfl ae rfl hlt hq0 | exact bO rfl ae rfl rfl rfl hgq | exact bn (j:=e) rfl rfl rfl rfl ae hrowk rfl he2 (Nat.le_of_eq hilk.symm) | exact br rfl ae rfl rfl rfl hrowk hgetd | exact aP (j:=d) rfl rfl rfl rfl rfl ae rfl ab hbb | exact bO rfl ae rfl rfl rfl hgb);refine aa rfl (cP rfl rfl) (aA (ax ?_)))
   refine bf rfl (fun hb=> ?_) (fun hb=> ?_)
   ·have hb:jY s.1 d=false:=by simpa using hb
    have hv:(List.range (k + 1)).foldl (dX zss mask e) s0=(s.1.set d true,s.2 ++ [(d:Int)]):=by rw [hst,if_pos hb]
    (refine au (ah (aa rfl (an rfl rfl) (aa rfl (an rfl rfl) ?_)));apply aa rfl;(first | exact aP (j:=d) rfl rfl rfl rfl rfl ae rfl ab hbb | exact fx rfl rfl rfl rfl rfl ab ae);apply aa rfl;(first | exact aP (j:=d) rfl rfl rfl rfl rfl ae rfl ab hbb | exact fx rfl rfl rfl rfl rfl ab ae);refine aA (ax (ah (aa rfl (an rfl rfl) (aa rfl (an rfl rfl) ?_))));apply aa rfl;(exact cN (E:=2) rfl ae rfl);apply aa rfl;(exact fo rfl ae rfl rfl rfl (by first | rfl | assumption | (simp;done)) rfl rfl ab);refine aa rfl (ay rfl rfl) (aA (bp (ax (ah ?_))));apply aa rfl;exact bG rfl rfl rfl bL;refine aa rfl (an rfl rfl) (aA ?_))
    exact bu (k + 1,(s.1.set d true,s.2 ++ [(d:Int)])) ⟨hkn,hv⟩ (by show zss.length - (k + 1) < zss.length - k;omega) (Wk.of ⟨rfl,rfl,congrArg (fun x=>some (o1 (.sl 20 0 x))) (by simp),rfl,rfl,rfl,rfl,aq⟩ ⟨rfl,rfl,rfl,aq⟩ trivial)
   ·have hb:jY s.1 d=true:=by simpa using hb
    have hv:(List.range (k + 1)).foldl (dX zss mask e) s0=s:=by rw [hst,if_neg (by rw [hb];simp)]
    (refine aU (bp (ax (ah ?_)));apply aa rfl;exact bG rfl rfl rfl bL;refine aa rfl (an rfl rfl) (aA ?_))
    exact bu (k + 1,s) ⟨hkn,hv⟩ (by show zss.length - (k + 1) < zss.length - k;omega) (Wk.of ⟨rfl,rfl,rfl,rfl,rfl,rfl,rfl,aq⟩ ⟨rfl,rfl,rfl,aq⟩ trivial)
  ·obtain rfl:k=zss.length:=by omega
   (refine bI (aF (aF (bt (bp (ax (ah (aa rfl (an rfl rfl) ?_)))))));apply aa rfl;exact bG rfl rfl rfl bL;refine aa rfl (ay rfl rfl) (aA ?_))
   exact bu (i + 1,s) ⟨hlt,hok,by rw [←hl'];show dU _ _ _ (n + 1 - (i + 1)) _ _=_;rw [show n + 1 - (i + 1)=n - i by omega];unfold uJ;rw [hfo]⟩ (by show n + 1 - (i + 1) < n + 1 - i;omega) (Wk.of ⟨rfl,rfl,rfl,rfl,aq⟩ ⟨rfl,rfl,rfl,aq⟩ trivial)
 ·have hio:i=s.2.length:=by omega
  have hOM:dU zss mask zss.length (n + 1) 0 (ey n c)=s:=by
   rw [←hl,show n + 1 - i=(n - i) + 1 by omega,dU,if_neg ab]
  rw [hOM]
  (refine bI (aF (aF (bt (ax (au (ah (aa rfl (an rfl rfl) (aa rfl (ay rfl rfl) (aA (ax (bw ?_))))))))))))
  exact bQ (.inl rfl) rfl (.tmp rfl) ⟨rfl,aq⟩ trivial
theorem CT (f:Nat) (d:List (List Int)) (v:Value) (w:World) (h:cM w v d) (hM:dW d) (hf:f < cn d):
  Calls Try.prog 77 #[v, .int .i64 f] w fun e w'=>∃v',e= .returned v'∧ry 2 w' w.heap.size w'.heap.size v' (lx d (cn d) f).2∧Below w.heap.size w w':=by
 obtain ⟨hd,r,rfl,hv⟩:=Ai 1003 24 2 h
 have hN:cn d≤400:=hM.f4
 have hn:=hM.n5
 have hO:=(lA (bM hM) hf).le
 exact vJ rfl ab ((Aj d (cn d) f (bM hM) (by have:=hM.n1;omega) ab ab hf).call (l:= [(1003,(bh d,hd,r))]) (us:= [_,_]) (fun p hp=>by simp at hp;subst hp;exact hv) rfl (Az (nc (q:=(bh d,hd,r)) rfl) rfl))
theorem kq {d:List (List Int)} (hM:dW d) {f:Nat} (hf:f < cn d):(lx d (cn d) f).2.length=cn d:=
 (lW (bM hM) hf).2 fun x hx=>ie (bM hM) hf ab hx (l7 (bM hM) (ke hM) ab hf (iW hM f hf)) (iW hM x hx)
theorem Ah {d:List (List Int)} (hM:dW d) {f:Nat} (hf:f < cn d) {i:Nat} (hi:i < cn d):∃x:Nat,aD (lx d (cn d) f).2 i=(x:Int)∧x < cn d:=by
 obtain ⟨x,h1,h2,_⟩:=(lA (bM hM) hf).q i (by rw [kq hM hf];exact hi)
 exact ⟨x,h1,h2⟩
def fP (d:List (List Int)) (f i:Nat):Nat:=(aD (lx d (cn d) f).2 i).toNat
def zy (d:List (List Int)) (f:Nat):List Int:=ln (cn d) (fun i=>fP d f i) (fun i=>(i:Int)) (cn d)
def ig (d:List (List Int)) (f g k:Nat):List Int:=(List.range k).map fun i=>aD (zy d f) (dy d (fP d f i) g)
def eA (d:List (List Int)) (f:Nat):List (List Int):=(List.range d.length).map fun g=>ig d f g (cn d)
theorem wQ (d:List (List Int)) (f g k:Nat):ig d f g (k + 1)=ig d f g k ++ [aD (zy d f) (dy d (fP d f k) g)]:=by simp [ig,List.range_succ]
theorem AP {d:List (List Int)} {f g:Nat} (h:g < d.length):(eA d f).take (g + 1)=(eA d f).take g ++ [ig d f g (cn d)]:=by
 rw [List.take_succ_eq_append_getElem (by simpa [eA] using h)]
 congr 1
 simp [eA]
theorem uK (ao:Option Addr) (n c f:Nat) (d:List (List Int)) (w:World) (hd:cM w (.slice ao n c) d) (hM:dW d) (hf:f < cn d):
  Calls Try.prog 43 #[.slice ao n c, .int .i64 f] w fun e w'=>∃r,e= .returned r∧sQ 2 24 w' w.heap.size w'.heap.size r (eA d f)∧Below w.heap.size w w':=by
 have HD:=Lib.hid hd
 have HM:=Lib.hid hM
 have HF:=Lib.hid hf
 obtain ⟨N,hN⟩:∃N,cn d=N:=⟨_,rfl⟩
 have HN:=Lib.hid hN
 have HOF:=Lib.hid (kq hM hf)
 have HOI:=Lib.hid (fun (i:Nat) (hi:i < cn d)=>Ah hM hf hi)
 have hdl:=hd.fw.1
 have hd1:=hM.n1
 have hd5:=hM.n5
 have hN2:2≤N:=by rw [←hN];exact hM.f2
 have hN4:N≤400:=by rw [←hN];exact hM.f4
 clear hd hM hf hN
 have b1:=below_alloc1 w (.cells #[.slice none 0 0] 29)
 have kr1:dQ (w.alloc (.cells #[.slice none 0 0] 29)) w.heap.size 29 #[.slice none 0 0]:=bS rfl
 have hz1:w.heap.size < (w.alloc (.cells #[.slice none 0 0] 29)).heap.size:=by simp
 go_enter Try.func43,Try.ntmps43
 go_upto_region 1 with fail
 generalize w.alloc (.cells #[.slice none 0 0] 29)=w1 at *
 have HD1:=Lib.hid (HD.out.below b1)
 have B1:=Lib.hid b1
 have KR1:=Lib.hid kr1
 clear b1 kr1 HD
 go_wp2_with fail
 refine (CT f d _ w1 HD1.out HM.out HF.out).mono ?_
 rintro e w2 ⟨v2,rfl,o2,b2⟩
 obtain ⟨⟨oa,on,oc,rfl,ho⟩, -⟩:=o2
 have hon:on=N:=by have:=ho.len;rw [List.length_map,HOF.out,HN.out] at this;exact this.symm
 subst hon
 have HO2:=Lib.hid ho.ints
 have hz12:w.heap.size < w2.heap.size:=Nat.lt_of_lt_of_le hz1 b2.size
 have B2:=Lib.hid (B1.out.trans (b2.mono (Nat.le_of_lt hz1)))
 have KR2:=Lib.hid (KR1.out.bm b2)
 have HD2:=Lib.hid (HD1.out.below b2)
 clear ho b2 B1 KR1 HD1
 obtain ⟨b0,off0,a0,n0,c0,rfl,hc0,hi0⟩:=HD2.out.fw.at_ (k:=0) ab
 have hn0:n0=on:=by rw [←hi0.1,←HN.out];rfl
 subst hn0
 rw [Nat.add_zero] at hc0
 clear hi0
 go_wp2_with (at_make;refine kh yi _ rfl _ _ rfl w2.heap.size _ _ _ _ n0 rfl rfl rfl rfl ab (Nat.le_refl _) ?_;intro w3 o3 g3 s3)
 have b3:Below w2.heap.size w2 w3:=(Below.refl _ _).grown g3 (Nat.le_refl _) (by simp)
 have B3:=Lib.hid b3
 have hg3:w2.heap.size < w3.heap.size:=(o3.lt w2.heap.size rfl).2
 obtain ⟨gn,hgn⟩:∃gn,w2.heap.size=gn:=⟨_,rfl⟩
 have HGN:=Lib.hid hgn
 have O3:=Lib.hid (show Own w3 w2.heap.size 2 (some ⟨gn,0,none⟩) n0 n0 ((ln n0 (fun i=>fP d f i) (fun i=>(i:Int)) 0).map (Value.int .i64)) by rw [←hgn,oL];simpa using o3)
 clear o3 g3 s3 b3 hc0
 rw [hgn]
 have hz2:=B2.out.size
 have hgn2:gn < w3.heap.size:=by rw [←hgn];exact hg3
 clear hgn
 go_wp2_with fail
 go_loopw [25] (fun kv wr=>∃k:Nat,kv= .int .i64 k∧k≤n0∧Own wr w2.heap.size 2 (some ⟨gn,0,none⟩) n0 n0 ((ln n0 (fun i=>fP d f i) (fun i=>(i:Int)) k).map (Value.int .i64))∧Below w2.heap.size w2 wr) (fun kv _=>n0 - (intOf kv).toNat)
 case atStart=>exact ⟨0,rfl,Nat.zero_le _,O3.out,B3.out⟩
 case round=>
  clear O3 B3 hg3
  obtain ⟨k,rfl,hk,ho,hb⟩:=hrel
  have hl3:=nX n0 (fun i=>fP d f i) (fun i=>(i:Int)) k
  by_cases hlt:k < n0
  ·obtain ⟨x,hx1,hx2⟩:=HOI.out k (by rw [HN.out];exact hlt)
   rw [HN.out] at hx2
   obtain ⟨b1,off1,rfl,hc1⟩:=(HO2.out.below hb).at_ hlt
   rw [hx1] at hc1
   have hxo:fP d f k=x:=by unfold fP;rw [hx1,Int.toNat_natCast]
   obtain ⟨g',eg, -,hgl, -,hcell,hfr⟩:=ho.form ab
   injection eg with eg
   injection eg with eg
   subst eg
   have hcx:wr.cell? ⟨gn,x,none⟩=some (.int .i64 (aD (ln n0 (fun i=>fP d f i) (fun i=>(i:Int)) k) x)):=by rw [hcell x hx2,List.getElem?_map,List.getElem?_eq_getElem ab,cA ab];rfl
   have hfx:=hfr x
   obtain ⟨st1,st2⟩:=ho.stored x (.int .i64 (k:Int))
   have ST1:=Lib.hid (show Own (wr.setCell ⟨gn,x,none⟩ (.int .i64 (k:Int))) w2.heap.size 2 (some ⟨gn,0,none⟩) n0 n0 ((ln n0 (fun i=>fP d f i) (fun i=>(i:Int)) (k + 1)).map (Value.int .i64)) by rw [mn,hxo,List.map_set];exact st1)
   have BW:=Lib.hid (hb.grown st2 hb.size (fun g e=>by injection e with e;rw [←e,HGN.out];exact Nat.le_refl _))
   have hx0:(x:Int) < (n0:Int):=by omega
   clear st1 st2 ho hb hcell hfr hxo hl3 hx1
   go_wp2
   go_roundw
   case rel=>exact ⟨k + 1,by go_num,ab,ST1.out,BW.out⟩
   case measure=>simp [intOf];omega
  ·obtain rfl:k=n0:=by omega
   obtain ⟨wB,rfl⟩:∃x,x=wr:=⟨_,rfl⟩
   have HO:=Lib.hid ho
   have HB:=Lib.hid hb
   have hzB:=hb.size
   have b7:=(Below.refl wB.heap.size wB).alloc (Nat.le_refl _) (.cells #[.slice none 0 0] 29)
   have ST:=Lib.hid (vI.start (w:=wB) b7 (dQ.new wB 29 #[.slice none 0 0]) (Nat.le_refl _))
   have hz7:wB.heap.size < (wB.alloc (.cells #[.slice none 0 0] 29)).heap.size:=by simp
   clear b7 hb ho
   go_upto_region 9 with fail
   generalize wB.alloc (.cells #[.slice none 0 0] 29)=w7 at *
   obtain ⟨bx,hbx⟩:∃bx,wB.heap.size=bx:=⟨_,rfl⟩
   have HBX:=Lib.hid hbx
   rw [hbx] at ST hz7 ⊢
   clear hbx
   go_wp2_with fail
   go_loopw [37] (fun kv wr=>∃(q:Nat) (am:Option Addr) (c:Nat) (us:List Value),kv= .int .i64 q∧q≤n∧vI wB wr bx (bx + 1) am q c us ((eA d f).take q)) (fun kv _=>n - (intOf kv).toNat)
   case atStart=>exact ⟨0,none,0, [],rfl,Nat.zero_le _,ST.out⟩
   case round=>
    clear ST hz7
    obtain ⟨q,am,cm,um,rfl,hq,st⟩:=hrel
    obtain ⟨wA,rfl⟩:∃x,x=wr:=⟨_,rfl⟩
    by_cases hlt:q < n
    ·have ST:=Lib.hid st
     have hbw:=Lib.hid st.bel
     have hzr:=hbw.out.size
     have HBA:=Lib.hid (HB.out.trans (hbw.out.mono hzB))
     obtain ⟨b2,off2,a2,n2,c2,e2,hc2,hi2⟩:=(HD2.out.fw.below HBA.out).at_ hlt
     injection e2 with e2
     injection e2 with e21 e22
     subst e21 e22
     have hn2:n2=k:=by rw [←hi2.1,←HN.out];exact HM.out.len q ab
     subst hn2
     have HI2:=Lib.hid hi2
     have hE:Own wA wA.heap.size 2 none 0 0 []:=Own.iX _ _ _
     clear st hi2
     go_wp2_with fail
     go_loopw [12,43] (fun sv iv w8=>∃(i:Nat) (a:Option Addr) (cc:Nat),i≤n2∧sv= .slice a i cc∧iv= .int .i64 i∧Own w8 wA.heap.size 2 a i cc ((ig d f q i).map (Value.int .i64))∧Below wA.heap.size wA w8) (fun _ iv _=>n2 - (intOf iv).toNat)
     case atStart=>exact ⟨0,_,_,Nat.zero_le _,rfl,rfl,by simpa [ig] using hE,Below.refl _ _⟩
     case round=>
      clear hE hc2
      obtain ⟨i,a,cc,hi,rfl,rfl,ho,hb8⟩:=hrel
      obtain ⟨w8,rfl⟩:∃x,x=wr:=⟨_,rfl⟩
      have HBW:=Lib.hid (hbw.out.trans (hb8.mono hzr))
      have HB2W:=Lib.hid (HB.out.trans (HBW.out.mono hzB))
      have HO8:=Lib.hid ho
      have hz8:=hb8.size
      clear ho
      by_cases hlti:i < n2
      ·obtain ⟨x,hx1,hx2⟩:=HOI.out i (by rw [HN.out];exact hlti)
       have hxo:fP d f i=x:=by unfold fP;rw [hx1,Int.toNat_natCast]
       obtain ⟨b1,off1,rfl,hc1⟩:=(HO2.out.below HB2W.out).at_ hlti
       rw [hx1] at hc1
       have hy:=dj (bM HM.out) hx2 (g:=q) ab
       rw [HN.out] at hx2
       obtain ⟨b4,off4,rfl,hc4⟩:=(HI2.out.below hb8).at_ hx2
       obtain ⟨y,hye⟩:∃y,dy d x q=y:=⟨_,rfl⟩
       rw [hy.2,hye] at hc4
       have hyN:y < n2:=by rw [←hye,←HN.out];exact hy.1
       obtain ⟨b5,off5,e5,hc5⟩:=((HO.out.below HBW.out).ints).at_ hyN
       injection e5 with e5
       injection e5 with e51 e52
       subst e51 e52
       rw [Nat.zero_add] at hc5
       have hrw:=wQ d f q i
       rw [hxo,hye] at hrw
       have hnum:aD (zy d f) y=aD (ln n2 (fun i=>fP d f i) (fun i=>(i:Int)) n2) y:=by unfold zy;rw [HN.out]
       rw [hnum] at hrw
       have HRW:=Lib.hid hrw
       have hx0:(x:Int) < (n2:Int):=by omega
       have hy0:(y:Int) < (n2:Int):=by omega
       clear hrw hnum hy hye hxo hx1
       go_wp2_with (at_builtin;refine eL yi _ rfl _ _ rfl wA.heap.size a i cc _ rfl HO8.out _ rfl rfl ab hz8 ?_;intro ao2 c2' w4 ho2 hg2 hblk)
       have HO2':=Lib.hid ho2
       have hb12:=hb8.grown hg2 hz8 (fun g hg=>(HO8.out.lt g hg).1)
       clear ho2 hblk hg2
       go_roundw
       case rel=>exact ⟨i + 1,ao2,c2',ab,rfl,by go_num,by rw [HRW.out,List.map_append];exact HO2'.out,hb12⟩
       case measure=>simp [intOf];omega
      ·obtain rfl:i=n2:=by omega
       have hzs:(eA d f).take (q + 1)=(eA d f).take q ++ [ig d f q i]:=by rw [AP ab,HN.out]
       have HZS:=Lib.hid hzs
       have STB:=Lib.hid (ST.out.below hb8)
       have xb:=STB.out.cell
       have hlo8:=STB.out.at_.2.2
       clear hzs
       go_wp2_with (at_builtin;refine eL kH _ rfl _ _ rfl (bx + 1) am q cm _ rfl STB.out.row.own (.slice a i cc) rfl rfl ab hlo8 ?_;intro ao2 c2' w4 ho2 hg2 hat;have x4:=(STB.out.Eh hg2).cell 0;have f4:=(STB.out.Eh hg2).frozen 0)
       have SP:=Lib.hid (ST.out.push ab hb8 HO8.out (Below.refl _ _) ho2 hg2 (hat.imp id fun e=>⟨_,e,Nat.le_succ _⟩))
       clear ho2 hg2 hat STB ST
       go_roundw
       case rel=>exact ⟨q + 1,ao2,c2',_,by go_num,ab,by rw [HZS.out];exact SP.out⟩
       case measure=>simp [intOf];omega
    ·obtain rfl:q=n:=by omega
     have hall:(eA d f).take q=eA d f:=List.take_of_length_le (by simp [eA];omega)
     rw [hall] at st
     have xb:=st.cell
     have HBA:=Lib.hid (HB.out.trans (st.bel.mono hzB))
     have KRr:=KR2.out.bm HBA.out
     have xr:=KRr.cell 0
     have fr:=KRr.frozen 0
     have BF:=Lib.hid (B2.out.trans (HBA.out.mono hz2))
     have ST:=Lib.hid st
     have hwb:w.heap.size≤wB.heap.size:=by omega
     simp at xr
     clear st
     go_wp2
     have hfl:w.heap.size < bx:=by rw [←HBX.out];omega
     exact bodyPost_ret (v:= .agg #[.slice am q cm]) (by simp [results,Try.f43,go_sem,xr]) rfl ⟨_,rfl,ST.out.done hfl _ hwb,BF.out.setCell (by simp) _⟩
end Go.Proofs.Ytfpcfckocmmcnaa
namespace Go.Proofs.Ytfpcfckocmmcnaa
def Ig (n:Nat):List Int:=(List.range n).map fun (i:Nat)=>(i:Int)
def I5:List Int→List Int→Bool
 | [], []=>false
 | [],_ :: _=>true
 | _ :: _, []=>false
 | a :: r,b :: s=>if a < b then true else if b < a then false else I5 r s
def I3 (xs:List (List Int)):Prop:=xs.Pairwise fun a b=>I5 a b=true
end Go.Proofs.Ytfpcfckocmmcnaa
namespace Go.Proofs.Ytfpcfckocmmcnaa
open Go.RowKit
section
variable {w w':World} {lo:Nat} {ao:Option Addr} {n c:Nat} {us:List Value} {ds:List (List Int)}
end
end Go.Proofs.Ytfpcfckocmmcnaa
namespace Go.Proofs.Ytfpcfckocmmcnaa
open Go.RowKit
end Go.Proofs.Ytfpcfckocmmcnaa
namespace Go.Proofs.Ytfpcfckocmmcnaa
open Go.RowKit
end Go.Proofs.Ytfpcfckocmmcnaa
namespace Go.Proofs.Ytfpcfckocmmcnaa
open Go.RowKit
theorem qi (d:List (List Int)) (f:Nat):(eA d f).length=d.length:=by simp [eA]
theorem uV {d:List (List Int)} {f g:Nat} (h:g < d.length):aT (eA d f) g=ig d f g (cn d):=by
 rw [eF (by rw [qi];exact h)];simp [eA]
theorem nb (d:List (List Int)) (f g k:Nat):(ig d f g k).length=k:=by simp [ig]
end Go.Proofs.Ytfpcfckocmmcnaa
namespace Go.Proofs.Ytfpcfckocmmcnaa
open Go.RowKit
theorem uY {w:World} {base E:Nat} {g n c:Nat} {us:List Value} (h:Own w base E (some ⟨g,0,none⟩) n c us) {k:Nat} (hk:k < n):w.cell? ⟨g,k,none⟩=us[k]? :=by
 obtain ⟨g',hg,_,_,_,hc,_⟩:=h.form ab
 obtain rfl:g=g':=by injection hg with hg;injection hg
 exact hc k hk
theorem vC (ao:Option Addr) (n c:Nat) (us:List Value) (w:World) (base:Nat) (h:Own w base 24 ao n c us) (hs:∀j,j < n→∃a m q,us[j]? =some (.slice a m q)):
  Calls Try.prog 79 #[.slice ao n c] w fun e w'=>e= .returned (.tuple #[])∧Own w' base 24 ao n c us.reverse∧w.grownBy w' (bk ao):=by
 have hn:=h.2
 have HL:=Lib.hid h.len
 have HS:=Lib.hid hs
 clear hs
 go_enter Try.func79,Try.ntmps79
 go_wp2
 go_loopw [2,3] (fun i j wr=>∃(k:Nat) (cur:List Value),k≤n∧i= .int .i64 k∧j= .int .i64 ((n:Int) - 1 - k)∧cur.length=n∧(∀x,x < n→cur[x]? =if x < k∨n < x + 1 + k then us[n - 1 - x]? else us[x]?)∧Own wr base 24 ao n c cur∧w.grownBy wr (bk ao)) (fun i _ _=>n - (intOf i).toNat)
 case atStart=>exact ⟨0,us,ab,rfl,by simp,HL.out,fun x hx=>by rw [if_neg ab],h,World.grownBy.refl _ _⟩
 case round=>
  obtain ⟨k,cur,hk,rfl,rfl,hcl,hcur,ho,hg⟩:=hrel
  have HC:=Lib.hid hcl
  have HU:=Lib.hid hcur
  clear hcl hcur
  by_cases hlt:k + k + 1 < n
  ·obtain ⟨j,hj⟩:∃j:Nat,j + k + 1=n:=⟨n - 1 - k,ab⟩
   have HJ:=Lib.hid hj
   have ej:(n:Int) - 1 - k=j:=by omega
   have hjn:j < n:=by omega
   have hkn:k < n:=by omega
   have hkj:k < j:=by omega
   rw [ej]
   clear hj ej
   obtain ⟨g,rfl, -,hgl, -, -, -⟩:=ho.form ab
   obtain ⟨aj,mj,qj,hej⟩:=HS.out j hjn
   obtain ⟨ak,mk,qk,hek⟩:=HS.out k hkn
   have huj:cur[j]? =some (.slice aj mj qj):=by rw [HU.out j hjn,if_neg (by have:=HJ.out;omega)];exact hej
   have huk:cur[k]? =some (.slice ak mk qk):=by rw [HU.out k hkn,if_neg (by have:=HJ.out;omega)];exact hek
   have hc1:=uY ho hjn
   have hc2:=uY ho hkn
   rw [huj] at hc1
   rw [huk] at hc2
   have hf1:=ho.1.frozenAt j
   have hf2:=ho.1.frozenAt k
   have ho1:Own wr.drew base 24 (some ⟨g,0,none⟩) n c cur:=ho
   obtain ⟨s1,t1⟩:=ho1.stored k (.slice aj mj qj)
   obtain ⟨s2,t2⟩:=s1.stored j (.slice ak mk qk)
   have S2:=Lib.hid s2
   have T1:=Lib.hid t1
   have T2:=Lib.hid t2
   have HUJ:=Lib.hid huj
   have HUK:=Lib.hid huk
   have HEJ:=Lib.hid hej
   have HEK:=Lib.hid hek
   clear s1 t1 s2 t2 ho1 ho huj huk hej hek
   go_wp2
   go_region
   go_wp2
   go_roundw
   case rel=>
    refine ⟨k + 1,(cur.set k (.slice aj mj qj)).set j (.slice ak mk qk),ab,by go_num, ?_,by simp [HC.out], ?_,S2.out,jg hg (jg (⟨rfl,rfl,rfl,Nat.le_refl _,fun _ _ _=>rfl⟩:wr.grownBy wr.drew _) (jg T1.out T2.out))⟩
    ·congr 1;have:=HJ.out;omega
    ·intro x hx
     have hcl:=HC.out
     have hjn':=HJ.out
     by_cases h1:x=j
     ·subst h1
      rw [List.getElem?_set_self (by simp;omega),if_pos ab,←HEK.out]
      congr 1;omega
     ·rw [List.getElem?_set_ne (fun e=>h1 e.symm)]
      by_cases h2:x=k
      ·subst h2
       rw [List.getElem?_set_self ab,if_pos ab,←HEJ.out]
       congr 1;omega
      ·rw [List.getElem?_set_ne (fun e=>h2 e.symm),HU.out x hx]
       by_cases h3:x < k∨n < x + 1 + k
       ·rw [if_pos h3,if_pos ab]
       ·rw [if_neg h3,if_neg ab]
   case measure=>simp [intOf];omega
  ·have hle:(n:Int) - 1 - k≤k:=by omega
   go_wp2
   go_end0
   refine ⟨rfl, ?_,hg⟩
   have hcl:=HC.out
   have hzl:=HL.out
   have e:cur=us.reverse:=by
    apply List.ext_getElem?
    intro x
    by_cases hx:x < n
    ·rw [List.getElem?_reverse ab,HU.out x hx,hzl]
     by_cases h3:x < k∨n < x + 1 + k
     ·rw [if_pos h3]
     ·rw [if_neg h3];congr 1;omega
    ·rw [List.getElem?_eq_none ab,List.getElem?_eq_none (by simp;omega)]
   rw [←e];exact ho
theorem lY {zss:List (List Int)} {j:Nat} (hj:j < zss.length):aT zss.reverse j=aT zss (zss.length - 1 - j):=by
 rw [eF (by simpa using hj),eF ab,List.getElem_reverse]
theorem D4.rev {w:World} {us:List Value} {zss:List (List Int)} (h:D4 w us zss):D4 w us.reverse zss.reverse:=by
 have h0:=h.1
 refine ⟨by simpa using h0,fun j hj=> ?_⟩
 rw [List.length_reverse] at hj
 rw [lY hj,List.getElem?_reverse ab,h0]
 exact h.2 _ ab
theorem zl (ao:Option Addr) (n c:Nat) (d:List (List Int)) (w:World) (hd:cM w (.slice ao n c) d) (hM:dW d.reverse):
  Calls Try.prog 44 #[.agg #[.slice ao n c]] w fun e w'=>∃r,e= .returned r∧sQ 2 24 w' w.heap.size w'.heap.size r (eA d.reverse 0)∧Below w.heap.size w w':=by
 have hdl:=hd.fw.1
 have hd1:1≤d.length:=by have:=hM.n1;simpa using this
 have hd5:d.length≤5:=by have:=hM.n5;simpa using this
 have hf2:=hM.f2
 have b1:=below_alloc2 w (.cells #[.slice ao n c] 29) (.cells #[.slice none 0 0] 29)
 have km:dQ ((w.alloc (.cells #[.slice ao n c] 29)).alloc (.cells #[.slice none 0 0] 29)) w.heap.size 29 #[.slice ao n c]:=(bS rfl).alloc _
 have kr:dQ ((w.alloc (.cells #[.slice ao n c] 29)).alloc (.cells #[.slice none 0 0] 29)) (w.heap.size + 1) 29 #[.slice none 0 0]:=bS (by simp)
 have hd1':=hd.below b1
 have HM:=Lib.hid hM
 have HF2:=Lib.hid hf2
 clear hM hd hf2
 go_enter Try.func44,Try.ntmps44
 go_upto_region 1 with fail
 generalize (w.alloc (.cells #[.slice ao n c] 29)).alloc (.cells #[.slice none 0 0] 29)=w1 at *
 obtain ⟨ao',c',us,e,hv,hr,hcc⟩:=hd1'.rows
 injection e with e1 e2 e3
 subst e1 e3
 rw [hdl] at hv hcc
 have x1:=km.cell 0
 simp at x1
 have HV:=Lib.hid hv
 have HR:=Lib.hid hr
 have KR:=Lib.hid kr
 have B1:=Lib.hid b1
 have hz1:=b1.size
 have hr1:=kr.lt
 clear hv hr km kr b1 hd1' hcc e2
 go_wp2_with fail
 refine (xA ao n c us w1 HV.out ab ab HR.out.one).mono ?_
 rintro e w2 ⟨g,c2,rfl,o2,b2⟩
 obtain ⟨g',hg',hg1,hg2,hnc,_,_⟩:=o2.form ab
 injection hg' with hg'
 injection hg' with hg'
 subst hg'
 have O2:=Lib.hid o2
 have R2:=Lib.hid (HR.out.below b2)
 have B2:=Lib.hid b2
 clear x1 o2 b2
 go_wp2_with fail
 refine (vC (some ⟨g,0,none⟩) n c2 us w2 w1.heap.size O2.out (fun j hj=>by obtain ⟨a,q,h1,_⟩:=R2.out.2 j ab;exact ⟨_,_,_,h1⟩)).mono ?_
 rintro e w3 ⟨rfl,o3,g3⟩
 have B3:=Lib.hid (B2.out.grown g3 B2.out.size (fun k hk=>by simp [bk] at hk;omega))
 have R3:=Lib.hid ((HR.out.below B3.out).rev)
 have hg3:g < w3.heap.size:=(o3.lt g rfl).2
 have hlen:d.reverse.length=n:=by simpa using hdl
 have RD:=Lib.hid (GJ (g:=g) (c:=c2) hlen hnc ab hg3 (fun j hj=>uY o3 hj) R3.out)
 clear o3 g3 hlen
 go_wp2_with fail
 refine (uK _ n c2 0 d.reverse w3 RD.out HM.out (by have:=HF2.out;unfold cn;omega)).mono ?_
 rintro e w9 ⟨r9,rfl,o9,b9⟩
 have hb9:=Lib.hid (B3.out.trans (b9.mono B3.out.size))
 have KR9:=Lib.hid (KR.out.bm hb9.out)
 have x9:=KR9.out.cell 0
 have f9:=KR9.out.frozen 0
 have BF:=Lib.hid (B1.out.trans (hb9.out.mono hz1))
 have hz13:=B3.out.size
 obtain ⟨a9,n9,c9,us9,rfl,or9⟩:=o9
 have OR9:=Lib.hid or9
 simp at x9
 clear b9 or9
 go_wp2
 have hzz:(w9.setCell ⟨w.heap.size + 1,0,none⟩ (.slice a9 n9 c9)).heap.size=w9.heap.size:=by simp [World.setCell]
 exact bodyPost_ret (v:= .agg #[.slice a9 n9 c9]) (by simp [results,Try.f44,go_sem,x9]) rfl ⟨_,rfl,⟨a9,n9,c9,us9,rfl,by rw [hzz];exact (OR9.out.same (cJ _) fun g h1 _ _=>Below.heap_setCell _ _ _ _ (by simp;omega)).mono ab (Nat.le_refl _)⟩,BF.out.setCell (by simp) _⟩
end Go.Proofs.Ytfpcfckocmmcnaa
namespace Go.Proofs.Ytfpcfckocmmcnaa
open Go.RowKit
def vF (w:World) (lo E:Nat) (ao:Option Addr) (n c:Nat) (xs:List Value):Prop:=
 xs.length=n∧n≤c∧c≤maxLen∧(0 < c→∃g off cs,ao=some ⟨g,off,none⟩∧lo≤g∧w.heap[g]? =some (.cells cs E (0,0))∧off + c≤cs.size∧∀j,j < n→cs[off + j]? =xs[j]?)
section
variable {w w':World} {lo E n c:Nat} {ao:Option Addr} {xs:List Value}
theorem Own.G9 (h:Own w lo E ao n c xs) (hn:0 < n):vF w lo E ao n c xs:=by
 have hl:=h.len
 rcases h.1.2 with ⟨_,h0⟩ | ⟨g,cap,cur,hv,hb,hh,hnc,hcm,hs,ht⟩
 ·omega
 ·injection hv with h1 h2 h3
  subst h1 h3
  refine ⟨hl,hnc,hcm,fun _=>⟨g,0,cur,rfl,hb,hh,ab,fun j hj=> ?_⟩⟩
  rw [Nat.mul_one] at ht
  rw [Nat.zero_add,←ht,List.getElem?_take_of_lt hj];simp
theorem vF.same (h:vF w lo E ao n c xs) (hs:∀g,bk ao=some g→w'.heap[g]? =w.heap[g]?):vF w' lo E ao n c xs:=by
 obtain ⟨h1,h2,h3,h4⟩:=h
 refine ⟨h1,h2,h3,fun hc=> ?_⟩
 obtain ⟨g,off,cs,rfl,hg,hh,hfit,hcell⟩:=h4 hc
 exact ⟨g,off,cs,rfl,hg,(hs g rfl).trans hh,hfit,hcell⟩
theorem vF.lt (h:vF w lo E ao n c xs) (hc:0 < c):∀g,bk ao=some g→lo≤g∧g < w.heap.size:=fun g hg=>by
 obtain ⟨g',off,cs,rfl,h1,hh,_⟩:=h.2.2.2 hc
 obtain rfl:=Option.some.inj hg
 exact ⟨h1,(Array.getElem?_eq_some_iff.1 hh).1⟩
theorem vF.head (h:vF w lo E ao n c xs) (hn:0 < n):∃g off u,ao=some ⟨g,off,none⟩∧xs[0]? =some u∧w.cell? ⟨g,off,none⟩=some u∧lo≤g∧g < w.heap.size:=by
 obtain ⟨h1,h2,h3,h4⟩:=h
 obtain ⟨g,off,cs,rfl,hg,hh,hfit,hcell⟩:=h4 ab
 have h0:xs[0]? =some xs[0]:=List.getElem?_eq_getElem ab
 refine ⟨g,off,xs[0],rfl,h0, ?_,hg,(Array.getElem?_eq_some_iff.1 hh).1⟩
 rw [cell_of_row w g off cs E (0,0) hh]
 have:=hcell 0 hn
 rw [Nat.add_zero] at this
 rw [this,h0]
theorem vF.tail {g off:Nat} (h:vF w lo E (some ⟨g,off,none⟩) (n + 1) c xs):vF w lo E (some ⟨g,off + 1,none⟩) n (c - 1) (xs.drop 1):=by
 obtain ⟨h1,h2,h3,h4⟩:=h
 refine ⟨by simp;omega,ab,ab,fun hc=> ?_⟩
 obtain ⟨g',off',cs,e,hg,hh,hfit,hcell⟩:=h4 ab
 injection e with e;injection e with e1 e2;subst e1 e2
 refine ⟨g,off + 1,cs,rfl,hg,hh,ab,fun j hj=> ?_⟩
 have:=hcell (j + 1) ab
 rw [show off + 1 + j=off + (j + 1) by omega,this,List.getElem?_drop,Nat.add_comm]
theorem vF.Hi {g off:Nat} {bo:Option Addr} (h:vF w lo E (some ⟨g,off,none⟩) (n + 1) c xs) (hc:c=1):vF w lo E bo n 0 (xs.drop 1)∧n=0:=by
 obtain ⟨h1,h2,h3,h4⟩:=h
 exact ⟨⟨by simp;omega,ab,ab,fun hc=>absurd hc ab⟩,ab⟩
end
section
variable {P:Program} {ops:Array Oper} {rest:List Oper} {o:Oper} {a:Act} {Q:Exit→Act→World→Prop}
theorem yG {S E:TypeId} {z:Value} {bytes:Nat} (et:ET P S E z bytes) (w:World) (hg:o.guard=none) (s x:Operand) (ho:o.op= .call { callee:= .builtin .append,args:= #[s,x],argTypes:= #[S,S] })
  (lo:Nat) (ao:Option Addr) (n c:Nat) (xs:List Value) (hs:a.eval s= .slice ao n c) (hq:vF w lo E ao n c xs) (hn0:0 < n) (u:Value)
  (hx:a.eval x= .slice (some ⟨w.heap.size,0,none⟩) 1 1) (hu:u.oneCell'=true) (hn:n + 1≤4398046511104) (hlo:lo≤w.heap.size)
  (hK:∀ao' c' w',vF w' lo E ao' (n + 1) c' (xs ++ [u])→w.grownBy w' (bk ao)→(bk ao'=bk ao∨bk ao'=some (w.heap.size + 1))→wpList P ops Q rest (a.put o.dst (.slice ao' (n + 1) c')) w'):
  wpList P ops Q (o :: rest) a (w.alloc (.cells #[u] E)):=by
 obtain ⟨i,hi,hz,hsz,hby⟩:=info_parts et.info
 obtain ⟨h1,h2,h3,h4⟩:=hq
 obtain ⟨g,off,cs,rfl,hgl,hh,hfit,hcell⟩:=h4 ab
 have hlt:g < w.heap.size:=(Array.getElem?_eq_some_iff.1 hh).1
 have hh':(w.alloc (.cells #[u] E)).heap[g]? =some (.cells cs E (0,0)):=(Below.heap_alloc w _ g hlt).trans hh
 have hsz':(w.alloc (.cells #[u] E)).heap.size=w.heap.size + 1:=by simp
 have hnew:∀j v, [u][j]? =some v→(w.alloc (.cells #[u] E)).cell? ((⟨w.heap.size,0,none⟩:Addr).add j)=some v:=fun j v hv=>by
  match j,hv with
  | 0,hv=>simp at hv;subst hv;simp [Addr.add]
 have h1c:∀v∈ [u],v.oneCell'=true:=fun v hv=>by simp at hv;subst hv;exact hu
 have hsmall:(n + 1) * i.bytes≤140737488355328:=by
  have:=et.small
  have h5:(n + 1) * i.bytes≤(n + 1) * 32:=Nat.mul_le_mul_left _ ab
  omega
 refine wpList_plain hg fun K' hK'=> ?_
 unfold Oper.wp execOp
 simp only [ho,resolve,invoke,builtin,Sem.run_bind,Sem.run_pure,Result.andThen_ok,List.map_toArray,List.map_cons,List.map_nil,hs,hx]
 by_cases hroom:n + 1≤c
 ·have hr:=jU (P:=P) (ty:=o.type) (w.alloc (.cells #[u] E)) S E i et.und hi g off n c cs hh' ⟨w.heap.size,0,none⟩ 1 1 [u] (by simp [hsz]) hnew h1c hroom (by rw [hsz];simp;omega)
  rw [hr]
  refine hK' _ _ (hK _ _ _ ?_ ?_ (.inl rfl))
  ·refine ⟨by simp;omega,hroom,h3,fun _=>⟨g,off,_,rfl,hgl,setRow_heap _ g cs _ E _ hh', ?_,fun j hj=> ?_⟩⟩
   ·simp [hsz];omega
   ·have htl:(cs.toList.take (off + n)).length=off + n:=by simp;omega
    rw [hsz,Nat.mul_one]
    simp only [List.getElem?_toArray]
    by_cases hjn:j < n
    ·rw [List.append_assoc,List.getElem?_append_left (by rw [htl];omega),List.getElem?_take,if_pos ab,List.getElem?_append_left ab]
     have:=hcell j hjn
     simpa using this
    ·obtain rfl:j=n:=by omega
     rw [List.getElem?_append_left (by simp;omega),List.getElem?_append_right (by rw [htl];omega),htl,List.getElem?_append_right ab,h1]
     simp
  ·refine ⟨rfl,rfl,rfl,by simp,fun k hk hne=> ?_⟩
   rw [setRow_other _ g k _ (fun e=>hne (by rw [e];rfl))]
   exact Below.heap_alloc w _ k hk
 ·have holds:∀j v,xs[j]? =some v→(w.alloc (.cells #[u] E)).cell? ((⟨g,off,none⟩:Addr).add j)=some v:=fun j v hv=>by
   have hj:j < n:=by have:=(List.getElem?_eq_some_iff.1 hv).1;omega
   rw [Addr.add_lit,cell_of_row _ g _ cs E (0,0) hh',hcell j hj,hv]
  have hr:=run_append_grow (P:=P) (ty:=o.type) (w.alloc (.cells #[u] E)) S E i z et.und hi hz ⟨g,off,none⟩ n c xs (by rw [hsz];omega) holds ⟨w.heap.size,0,none⟩ 1 1 [u] (by simp [hsz]) hnew ab ab (growslice_fits ab hsmall)
  rw [hr]
  have hcap:=grownCap_ge (w.alloc (.cells #[u] E)) (n + 1) c E
  have hcm:=grownCap_le_maxLen (w.alloc (.cells #[u] E)) (n + 1) c E (by simp [maxLen];omega)
  refine hK' _ _ (hK _ _ _ ?_ ?_ (.inr (by simp [bk])))
  ·refine ⟨by simp;omega,hcap,hcm,fun _=>⟨(w.alloc (.cells #[u] E)).heap.size,0,xs.toArray ++ [u].toArray ++ Builtin.zeroCells z.cells (grownCap (w.alloc (.cells #[u] E)) (n + 1) c E - (n + 1)),rfl,by rw [hsz'];omega, ?_, ?_,fun j hj=> ?_⟩⟩
   ·exact heap_alloc_new _ _
   ·have h5:(Builtin.zeroCells z.cells (grownCap (w.alloc (.cells #[u] E)) (n + 1) c E - (n + 1))).size=grownCap (w.alloc (.cells #[u] E)) (n + 1) c E - (n + 1):=by
     rw [size_zeroCells,et.one];simp
    simp [h5];omega
   ·rw [Nat.zero_add,Array.getElem?_append_left (by simp;omega)]
    simp [←List.getElem?_toArray]
  ·refine ⟨rfl,rfl,rfl,by simp;omega,fun k hk _=> ?_⟩
   rw [Below.heap_alloc _ _ k (by show k < (w.alloc (.cells #[u] E)).heap.size;omega)]
   exact Below.heap_alloc w _ k hk
end
end Go.Proofs.Ytfpcfckocmmcnaa
namespace Go.Proofs.Ytfpcfckocmmcnaa
open Go.RowKit
def FK:Value→Bool
 | .int _ z=>decide (z < 0)
 | _=>false
def F3 (W:World) (g N:Nat):Nat:=match W.heap[g]? with
 | some (.cells cs _ _)=>((cs.toList.take N).filter FK).length
 | _=>0
def Jm:Value→Nat
 | .slice _ n _=>n
 | _=>0
theorem Ek (L:List Int):((L.map (Value.int .i64)).filter FK).length=yl L:=by
 unfold yl
 rw [List.filter_map,List.length_map]
 rfl
theorem xv {w:World} {lo E g n c:Nat} {L:List Int} (h:Own w lo E (some ⟨g,0,none⟩) n c (L.map (Value.int .i64))):F3 w g n=yl L:=by
 rcases h.1.2 with ⟨h2,_⟩ | ⟨g',cap,cur,hv,_,hh,_,_,_,ht⟩
 ·cases h2
 ·injection hv with h1
  injection h1 with h1
  injection h1 with h1
  subst h1
  unfold F3
  rw [hh]
  rw [Nat.mul_one] at ht
  show ((cur.toList.take n).filter FK).length=_
  rw [ht,Ek]
theorem CI (n:Nat) (z:Int):dM [z] n=List.replicate n z:=by
 induction n with
 | zero=>rfl
 | succ n ih=>rw [lK,ih,sq,List.replicate_succ']
theorem Cg {N:Nat} (f:Nat) (h:0 < N):yl ((List.replicate N (-1)).set 0 (f:Int)) + 1=N:=by
 rw [ve (by simpa using h) (by rw [fl h];omega) ab]
 unfold yl
 rw [List.filter_eq_self.2 (fun z hz=>by have:=List.eq_of_mem_replicate hz;subst this;rfl),List.length_replicate]
def Hz (w:World) (N:Nat) (R:Option (List Int)) (e:Ending) (w':World):Prop:=
 ∃(a:Option Addr) (n c:Nat),e= .returned (.slice a n c)∧(R=none→a=none∧n=0∧c=0)∧(∀p,R=some p→n=N∧(∃g,a=some ⟨g,0,none⟩)∧Own w' w.heap.size 2 a N c (p.map (Value.int .i64)))∧Below w.heap.size w w'
theorem rh (ao bo:Option Addr) (n c m c' f N K:Nat) (d e:List (List Int)) (w:World) (hd:ep w ao n d) (he:ep w bo m e) (hM:dW d) (hE:dW e) (hN:cn d=N) (hK:cn e=K) (hf:f < K):
  Calls Try.prog 94 #[.agg #[.slice ao n c], .agg #[.slice bo m c'], .int .i64 f] w (Hz w N (ll d e f)):=by
 obtain ⟨R,hR⟩:∃R,ll d e f=R:=⟨_,rfl⟩
 rw [hR]
 have HR:=Lib.hid hR
 have HD:=Lib.hid hd
 have HE:=Lib.hid he
 have HM:=Lib.hid hM
 have HEM:=Lib.hid hE
 have HN:=Lib.hid hN
 have HK:=Lib.hid hK
 have hdl:=hd.1
 have hel:=he.1
 have hd1:=hM.n1
 have hd5:=hM.n5
 have he1:=hE.n1
 have he5:=hE.n5
 have hN2:2≤N:=by rw [←hN];exact hM.f2
 have hN4:N≤400:=by rw [←hN];exact hM.f4
 have hK4:K≤400:=by rw [←hK];exact hE.f4
 clear hR hd he hM hE hN hK
 have b0:=below_alloc2 w (.cells #[.slice ao n c] 29) (.cells #[.slice bo m c'] 29)
 have km:dQ ((w.alloc (.cells #[.slice ao n c] 29)).alloc (.cells #[.slice bo m c'] 29)) w.heap.size 29 #[.slice ao n c]:=(bS rfl).alloc _
 have kk:dQ ((w.alloc (.cells #[.slice ao n c] 29)).alloc (.cells #[.slice bo m c'] 29)) (w.heap.size + 1) 29 #[.slice bo m c']:=bS (by simp)
 have HD1:=Lib.hid (HD.out.below b0)
 have HE1:=Lib.hid (HE.out.below b0)
 go_enter Try.func94,Try.ntmps94
 go_upto_region 1 with fail
 generalize (w.alloc (.cells #[.slice ao n c] 29)).alloc (.cells #[.slice bo m c'] 29)=w1 at *
 have KM:=Lib.hid km
 have KK:=Lib.hid kk
 have hz1:=b0.size
 by_cases hrk:n=m
 ·subst hrk
  have hbeq:((n:Int) != (n:Int))=false:=by simp
  go_wp2_with (first | (go_at_call 42;first | (refine (g9 _ n c ao w1 KM.out).mono ?_;rintro e' w' ⟨rfl,hw⟩;subst hw) | (refine (g9 _ n c' bo w1 KK.out).mono ?_;rintro e' w' ⟨rfl,hw⟩;subst hw)))
  have b2:=below_alloc1 w1 (.cells #[.int .i64 (-1)] 2)
  have HI2:=Lib.hid (show cW (w1.alloc (.cells #[.int .i64 (-1)] 2)) (some ⟨w1.heap.size,0,none⟩) 1 [-1] from Own.ints (zs:= [-1]) (mq (us:= [.int .i64 (-1)]) rfl (Nat.le_refl _) (by simp)))
  have KM2:=Lib.hid (KM.out.bm b2)
  have KK2:=Lib.hid (KK.out.bm b2)
  have HD2:=Lib.hid (HD1.out.below b2)
  have HE2:=Lib.hid (HE1.out.below b2)
  have B2:=Lib.hid (b0.trans (b2.mono hz1))
  clear b0 b2 km kk KM KK HD1 HE1
  go_wp2_with fail
  generalize w1.alloc (.cells #[.int .i64 (-1)] 2)=w2 at *
  refine (ib _ ao n c N d w2 KM2.out ⟨ao,n,c,rfl,HD2.out⟩ ab HN.out ab).mono ?_
  rintro e' w' ⟨rfl,hw⟩
  subst hw
  go_wp2_with fail
  refine (kK _ 1 1 N [-1] w2 HI2.out ab ab ab ab).mono ?_
  rintro e' w3 ⟨ga,gc,rfl,o3,b3⟩
  rw [Nat.one_mul,CI] at o3
  obtain ⟨gl,rfl,hglb,hgll, -,hcell3,hfr3⟩:=o3.form ab
  have hz2:=B2.out.size
  have x0:w3.cell? ⟨gl,0,none⟩=some (.int .i64 (-1)):=by rw [hcell3 0 ab,List.getElem?_map,List.getElem?_replicate,if_pos ab];rfl
  have f0:=hfr3 0
  obtain ⟨st,sg⟩:=o3.stored 0 (.int .i64 (f:Int))
  have B4:=Lib.hid (b3.grown sg b3.size (fun g e=>by injection e with e;omega))
  have HS:=Lib.hid (Bz.start (f:=f) HM.out (by rw [HK.out];exact hf))
  have O4:=Lib.hid (show Own (w3.setCell ⟨gl,0,none⟩ (.int .i64 (f:Int))) w2.heap.size 2 (some ⟨gl,0,none⟩) N gc (((List.replicate (cn d) (-1)).set 0 (f:Int)).map (Value.int .i64)) from by
   rw [HN.out,List.map_set]
   simpa using st)
  clear st sg o3 b3 hcell3 hfr3
  have hN1:0 < N:=by omega
  rw [Nat.one_mul]
  go_upto_region 5 with fail
  generalize w3.setCell ⟨gl,0,none⟩ (.int .i64 (f:Int))=w4 at *
  clear x0 f0
  have hz4:=B4.out.size
  have b5:=below_alloc1 w4 (.cells #[.int .i64 0] 2)
  have hQ:=(mq (w:=w4) (base:=w4.heap.size) (E:=2) (us:= [.int .i64 0]) rfl (Nat.le_refl _) (by simp)).G9 (by simp)
  have Q5:=Lib.hid hQ
  have O5:=Lib.hid (O4.out.below b5)
  have B5:=Lib.hid (B4.out.trans (b5.mono hz4))
  have hgl4:gl < w4.heap.size:=(O4.out.lt gl rfl).2
  obtain ⟨lq,hlq⟩:∃lq,w4.heap.size=lq:=⟨_,rfl⟩
  have HLQ:=Lib.hid hlq
  clear b5 B4 O4 hQ
  go_wp2_with fail
  generalize w4.alloc (.cells #[.int .i64 0] 2)=w5 at *
  rw [hlq] at Q5 hgl4
  have hz5:=B5.out.size
  have hlq5:lq≤w5.heap.size:=by exact Nat.le_of_lt (Q5.out.lt Nat.zero_lt_one lq rfl).2
  clear hlq
  go_loopw [8] (fun qv wr=>∃(qn qc:Nat) (qa:Option Addr) (L O:List Int),qv= .slice qa qn qc∧Bz d e f L O∧Own wr w2.heap.size 2 (some ⟨gl,0,none⟩) N gc (L.map (Value.int .i64))∧vF wr lq 2 qa qn qc (O.map (Value.int .i64))∧Below w2.heap.size w2 wr∧lq≤wr.heap.size∧2 * yl L + qn≤2 * N) (fun qv W=>2 * F3 W gl N + Jm qv)
  case atStart=>exact ⟨1,1,_,_, [0],rfl,HS.out,O5.out,Q5.out,B5.out,hlq5,by have:=Cg f hN1;rw [HN.out];omega⟩
  case round=>
   clear O5 Q5 B5 HS hz5 hlq5
   obtain ⟨qn,qc,qa,L,O,rfl,st,ol,oq,hb,hlw,hfew⟩:=hrel
   obtain ⟨wA,rfl⟩:∃x,x=wr:=⟨_,rfl⟩
   have hqO:O.length=qn:=by have:=oq.1;simpa using this
   by_cases hq:0 < qn
   ·obtain ⟨gq,off,u,rfl,hu0,hcq,hgq1,hgq2⟩:=oq.head hq
    obtain ⟨z,hz⟩:∃z,O[0]? =some z:=⟨_,List.getElem?_eq_getElem ab⟩
    obtain ⟨x,rfl,hxN,hxl⟩:=st.G9 z (List.mem_of_getElem? hz)
    have hue:u= .int .i64 (x:Int):=by
     rw [List.getElem?_map,hz] at hu0
     exact (Option.some.inj hu0).symm
    subst hue
    have HF:=Lib.hid (st.front (List.mem_of_getElem? hz))
    have HZ:=Lib.hid hz
    have HUN:=Lib.hid (xv ol)
    have OL:=Lib.hid ol
    have OQ:=Lib.hid oq
    have HB:=Lib.hid hb
    have hgt:(0:Int) < (qn:Int):=by omega
    have xm:=(KM2.out.bm hb).cell 0
    simp at xm
    clear st ol oq hz hu0
    go_wp2_with fail
    go_loopw [8,35] (fun qv kv wr=>∃(k qn' qc':Nat) (qa:Option Addr) (L' O':List Int),qv= .slice qa qn' qc'∧kv= .int .i64 k∧k≤n∧0 < qn'∧zt d e f L' O' x k∧O'[0]? =some (x:Int)∧Own wr w2.heap.size 2 (some ⟨gl,0,none⟩) N gc (L'.map (Value.int .i64))∧vF wr lq 2 qa qn' qc' (O'.map (Value.int .i64))∧Below w2.heap.size w2 wr∧lq≤wr.heap.size∧2 * yl L' + qn'≤2 * yl L + qn) (fun _ kv _=>n - (intOf kv).toNat)
    case atStart=>exact ⟨0,qn,qc,_,L,O,rfl,rfl,Nat.zero_le _,hq,HF.out,HZ.out,OL.out,OQ.out,HB.out,hlw,Nat.le_refl _⟩
    case round=>
     clear HF HZ OL OQ HB hb hlw xm
     obtain ⟨k,qn',qc',qa',L',O',rfl,rfl,hk,hq',hF,hO0,ol,oq,hb,hlw,hmu⟩:=hrel
     obtain ⟨wC,rfl⟩:∃x,x=wr:=⟨_,rfl⟩
     by_cases hlt:k < n
     ·obtain ⟨y,t,hy1,hy2,hy3,⟨u,hu1,hu2,hu3⟩,ht2⟩:=hF.cz HM.out HEM.out ab ab
      obtain ⟨b1,off1,a1,n1,c1,rfl,hc1,hi1⟩:=(HD2.out.below hb).at_ hlt
      obtain ⟨b3,off3,a3,n3,c3,rfl,hc3,hi3⟩:=(HE2.out.below hb).at_ hlt
      have hn1:n1=N:=by rw [←hi1.1,←HN.out];exact HM.out.len k ab
      have hn3:n3=K:=by rw [←hi3.1,←HK.out];exact HEM.out.len k ab
      subst hn1
      subst hn3
      obtain ⟨b2,off2,rfl,hc2⟩:=hi1.at_ (show x < n1 by rw [←HN.out];exact hxN)
      obtain ⟨b4,off4,rfl,hc4⟩:=hi3.at_ (show u < n3 by rw [←HK.out];exact hu2)
      rw [hy1] at hc2
      rw [hu3] at hc4
      obtain ⟨gl',egl, -, -, -,hcl,hfl⟩:=ol.form ab
      injection egl with egl
      injection egl with egl
      subst egl
      have hLl:=hF.st.len
      have rowL:∀j,j < n1→wC.cell? ⟨gl,j,none⟩=some (.int .i64 (aD L' j)):=fun j hj=>by rw [hcl j hj,List.getElem?_map,List.getElem?_eq_getElem (by rw [hLl,HN.out];exact hj),cA (by rw [hLl,HN.out];exact hj)];rfl
      have hyN:y < n1:=by rw [←HN.out];exact hy2
      have hxN':x < n1:=by rw [←HN.out];exact hxN
      have hcx:=rowL x hxN'
      have hcy:=rowL y hyN
      have hfy:=hfl y
      rw [hu1] at hcx
      have hx0:(x:Int) < (n1:Int):=by omega
      have hu0:(u:Int) < (n3:Int):=by have:=HK.out;omega
      have hy0:(y:Int) < (n1:Int):=by omega
      have hk0:(k:Int) < (n:Int):=by omega
      have xk:=(KK2.out.bm hb).cell 0
      simp at xk
      have HFF:=Lib.hid hF
      have OL:=Lib.hid ol
      have OQ:=Lib.hid oq
      have HB:=Lib.hid hb
      have HY:=Lib.hid hy3
      have HU:=Lib.hid hu1
      have HT:=Lib.hid hu3
      have HT2:=Lib.hid ht2
      have HU2:=Lib.hid hu2
      have HO0:=Lib.hid hO0
      clear hF ol oq hb hy1 hy2 hy3 hu1 hu2 hu3 ht2 hi1 hi3 hcl hfl rowL hO0
      by_cases hneg:aD L' y < 0
      ·have hdn:decide (aD L' y < 0)=true:=decide_eq_true hneg
       go_wp2_with fail
       go_quiet (fail)
       go_upto_region 15 with fail
       obtain ⟨st,sg⟩:=(OL.out.drewN nq).stored y (.int .i64 (t:Int))
       have HNW:=Lib.hid (HFF.out.new HM.out HEM.out ab ab HY.out HU.out HU2.out HT.out HT2.out hneg)
       have HUS:=Lib.hid (ve (L:=L') (y:=y) (x:=(t:Int)) (by rw [hLl,HN.out];exact hyN) hneg ab)
       have hB4:=Lib.hid ((below_drewN HB.out nq).grown sg HB.out.size (fun g e=>by injection e with e;omega))
       have hcq:0 < qc':=by have:=OQ.out.2.1;omega
       have hQ4:=Lib.hid (OQ.out.same (w':=(wC.drewN nq).setCell ⟨gl,y,none⟩ (.int .i64 (t:Int))) fun g eg=>sg.block g ((OQ.out.lt hcq g eg).2) (fun e=>by injection e with e;have:=(OQ.out.lt hcq g eg).1;omega))
       have hO4:=Lib.hid (show Own ((wC.drewN nq).setCell ⟨gl,y,none⟩ (.int .i64 (t:Int))) w2.heap.size 2 (some ⟨gl,0,none⟩) n1 gc ((L'.set y (t:Int)).map (Value.int .i64)) from by rw [List.map_set];exact st)
       have hlw4:lq≤((wC.drewN nq).setCell ⟨gl,y,none⟩ (.int .i64 (t:Int))).heap.size:=by have:=sg.size;exact Nat.le_trans hlw this
       clear st sg
       generalize (wC.drewN nq).setCell ⟨gl,y,none⟩ (.int .i64 (t:Int))=w6 at *
       go_wp2_with (at_builtin;refine yG yi w6 rfl _ _ rfl lq qa' qn' qc' _ rfl hQ4.out hq' (.int .i64 (y:Int)) rfl rfl ab hlw4 ?_;intro ao7 c7 w7 q7 g7 hat7)
       have Q7:=Lib.hid q7
       have O7:=Lib.hid (hO4.out.same (w':=w7) fun g eg=>g7.block g (hO4.out.lt g eg).2 (fun e=>by have:=(hQ4.out.lt hcq g e.symm).1;have e2:gl=g:=(by simpa [bk] using eg);omega))
       have B7:=Lib.hid (hB4.out.grown g7 hB4.out.size (fun g e=>by have:=(hQ4.out.lt hcq g e).1;omega))
       have hl7:=g7.size
       clear q7 g7 hat7 hQ4 hO4 hB4
       go_roundw
       case rel=>exact ⟨k + 1,qn' + 1,c7,ao7,_,_,rfl,by go_num,ab,ab,HNW.out,by rw [List.getElem?_append_left (List.getElem?_eq_some_iff.1 HO0.out).1];exact HO0.out,O7.out,by rw [List.map_append];exact Q7.out,B7.out,ab,by have:=HUS.out;omega⟩
       case measure=>simp [intOf];omega
      ·have hdn:decide (aD L' y < 0)=false:=decide_eq_false hneg
       by_cases heq:aD L' y=(t:Int)
       ·have hne:(aD L' y != (t:Int))=false:=by simp [heq]
        have HSM:=Lib.hid (HFF.out.same HY.out HU.out HT.out heq)
        clear heq
        go_wp2_with fail
        go_quiet (fail)
        go_wp2
        go_roundw
        case rel=>exact ⟨k + 1,qn',qc',qa',L',O',rfl,by go_num,ab,hq',HSM.out,HO0.out,OL.out.drewN _,OQ.out.same (fun _ _=>rfl),below_drewN HB.out _,hlw,hmu⟩
        case measure=>simp [intOf];omega
       ·have hne:(aD L' y != (t:Int))=true:=by simp [heq]
        have hnl:aD L' y≠ -1:=by omega
        have hRn:R=none:=by rw [←HR.out];exact HFF.out.Hn HM.out ab HY.out HU.out HT.out hnl heq
        have HB0:=Lib.hid (B2.out.trans (HB.out.mono hz2))
        have HRN:=Lib.hid hRn
        clear hRn heq
        go_wp2_with fail
        go_quiet (fail)
        go_wp2
        go_ret
        exact ⟨none,0,0,rfl,fun _=>⟨rfl,rfl,rfl⟩,fun p h=>(by rw [HRN.out] at h;cases h),below_drewN HB0.out _⟩
     ·obtain rfl:k=n:=by omega
      have hNX:=Lib.hid (show Bz d e f L' (O'.drop 1) from (hdl ▸ hF:zt d e f L' O' x d.length).next hO0)
      obtain ⟨g2,off2,u2,rfl, -, -, -, -⟩:=oq.head hq'
      obtain ⟨q2,rfl⟩:∃q,qn'=q + 1:=⟨qn' - 1,ab⟩
      have hqc:=oq.2.1
      have hcb:=oq.2.2.1
      have OQ:=Lib.hid oq
      have OL:=Lib.hid ol
      have HB:=Lib.hid hb
      have HUA:=Lib.hid (xv ol)
      clear hF oq ol hb hO0
      have hge:(1:Int)≤(qc':Int):=by omega
      have hge2:(1:Int)≤((q2 + 1:Nat):Int):=by omega
      have hmap:(O'.drop 1).map (Value.int .i64)=(O'.map (Value.int .i64)).drop 1:=List.map_drop
      by_cases hc1:qc'=1
      ·obtain ⟨hT,hq20⟩:=OQ.out.Hi (bo:=some ⟨g2,off2,none⟩) hc1
       subst hc1
       subst hq20
       have HTQ:=Lib.hid hT
       clear hT
       go_wp2
       refine ⟨⟨0,0,_,_,_,rfl,hNX.out,OL.out,by rw [hmap];exact HTQ.out,HB.out,hlw,ab⟩, ?_⟩
       rw [HUA.out,HUN.out]
       show 2 * yl L' + 0 < 2 * yl L + qn
       omega
      ·have HTQ:=Lib.hid OQ.out.tail
       go_wp2
       refine ⟨⟨q2,qc' - 1,_,_,_,rfl,hNX.out,OL.out,by rw [hmap];exact HTQ.out,HB.out,hlw,ab⟩, ?_⟩
       rw [HUA.out,HUN.out]
       show 2 * yl L' + q2 < 2 * yl L + qn
       omega
   ·obtain rfl:qn=0:=by omega
    obtain rfl:O= []:=List.eq_nil_of_length_eq_zero hqO
    have hfin:=st.fin HM.out HEM.out ab
    rw [HR.out] at hfin
    subst hfin
    have OL:=Lib.hid (ol.mono (show w.heap.size≤w2.heap.size from hz2))
    have HB0:=Lib.hid (B2.out.trans (hb.mono hz2))
    clear st ol oq hb
    go_wp2
    go_ret
    exact ⟨_,_,_,rfl,fun h=>(by cases h),fun p h=>(by injection h with h;subst h;exact ⟨rfl,⟨gl,rfl⟩,OL.out⟩),HB0.out⟩
 ·have hrn:R=none:=by rw [←HR.out];exact Bs ab
  subst hrn
  have hbeq:((n:Int) != (m:Int))=true:=by simp;omega
  go_wp2_with (first | (go_at_call 42;first | (refine (g9 _ n c ao w1 KM.out).mono ?_;rintro e' w' ⟨rfl,hw⟩;subst hw) | (refine (g9 _ m c' bo w1 KK.out).mono ?_;rintro e' w' ⟨rfl,hw⟩;subst hw)))
  go_ret
  exact ⟨none,0,0,rfl,fun _=>⟨rfl,rfl,rfl⟩,fun p h=>(by cases h),b0⟩
end Go.Proofs.Ytfpcfckocmmcnaa
namespace Go.Proofs.Ytfpcfckocmmcnaa
open Go.RowKit
noncomputable def sD (d e:List (List Int)) (k:Nat):List (List Int):=(List.range k).filterMap (ll d e)
theorem CP {d e:List (List Int)} {k:Nat} (h:ll d e k=none):sD d e (k + 1)=sD d e k:=by
 unfold sD;rw [List.range_succ,List.filterMap_append];simp [h]
theorem Dw {d e:List (List Int)} {k:Nat} {p:List Int} (h:ll d e k=some p):sD d e (k + 1)=sD d e k ++ [p]:=by
 unfold sD;rw [List.range_succ,List.filterMap_append];simp [h]
theorem Am (d e:List (List Int)) (k:Nat):(sD d e k).length≤k:=by
 have:=List.length_filterMap_le (ll d e) (List.range k)
 simpa [sD] using this
def FJ (w:World) (L:List (List Int)) (e:Ending) (w':World):Prop:=
 ∃(a:Option Addr) (n c:Nat) (us:List Value),e= .returned (.slice a n c)∧eT (jV 2) w' w.heap.size w'.heap.size 24 a n c us L∧Below w.heap.size w w'
theorem lf (ao bo:Option Addr) (n c m c' N K:Nat) (d e:List (List Int)) (w:World) (hd:ep w ao n d) (he:ep w bo m e) (hM:dW d) (hE:dW e) (hN:cn d=N) (hK:cn e=K):
  Calls Try.prog 76 #[.agg #[.slice ao n c], .agg #[.slice bo m c']] w (FJ w (sD d e K)):=by
 have HD:=Lib.hid hd
 have HE:=Lib.hid he
 have HM:=Lib.hid hM
 have HEM:=Lib.hid hE
 have HN:=Lib.hid hN
 have HK:=Lib.hid hK
 have he1:=hE.n1
 have hel:=he.1
 have hK4:K≤400:=by rw [←hK];exact hE.f4
 have hN2:2≤N:=by rw [←hN];exact hM.f2
 clear hd he hM hE hN hK
 have b0:=below_alloc2 w (.cells #[.slice ao n c] 29) (.cells #[.slice bo m c'] 29)
 have km:dQ ((w.alloc (.cells #[.slice ao n c] 29)).alloc (.cells #[.slice bo m c'] 29)) w.heap.size 29 #[.slice ao n c]:=(bS rfl).alloc _
 have kk:dQ ((w.alloc (.cells #[.slice ao n c] 29)).alloc (.cells #[.slice bo m c'] 29)) (w.heap.size + 1) 29 #[.slice bo m c']:=bS (by simp)
 have HD1:=Lib.hid (HD.out.below b0)
 have HE1:=Lib.hid (HE.out.below b0)
 go_enter Try.func76,Try.ntmps76
 go_upto_region 2 with fail
 generalize (w.alloc (.cells #[.slice ao n c] 29)).alloc (.cells #[.slice bo m c'] 29)=w1 at *
 have KM:=Lib.hid km
 have KK:=Lib.hid kk
 have HB0:=Lib.hid b0
 have hz1:=b0.size
 clear b0 km kk
 go_wp2_with fail
 refine (ib _ bo m c' K e w1 KK.out ⟨bo,m,c',rfl,HE1.out⟩ ab HK.out ab).mono ?_
 rintro e' w' ⟨rfl,hw⟩
 subst hw
 have hN0:eT (jV 2) w1 w1.heap.size w1.heap.size 24 none 0 0 [] []:=eT.dD (Own.iX _ _ _) (fun g hg=>by cases hg)
 go_wp2_with fail
 go_loopw [5,9] (fun sv fv wr=>∃(f k:Nat) (a:Option Addr) (cc:Nat) (us:List Value),sv= .slice a k cc∧fv= .int .i64 f∧f≤K∧k≤f∧eT (jV 2) wr w1.heap.size wr.heap.size 24 a k cc us (sD d e f)∧Below w1.heap.size w1 wr) (fun _ fv _=>K - (intOf fv).toNat)
 case atStart=>exact ⟨0,0,none,0, [],rfl,rfl,Nat.zero_le _,Nat.le_refl _,hN0,Below.refl _ _⟩
 case round=>
  clear hN0
  obtain ⟨f,k,a,cc,us,rfl,rfl,hf,hkf,ho,hb⟩:=hrel
  obtain ⟨wA,rfl⟩:∃x,x=wr:=⟨_,rfl⟩
  have OR:=Lib.hid ho
  have hsz:=hb.size
  clear ho
  by_cases hlt:f < K
  ·have xm:=(KM.out.bm hb).cell 0
   have xk:=(KK.out.bm hb).cell 0
   simp at xm xk
   go_wp2_with fail
   refine (rh ao bo n c m c' f N K d e wA (HD1.out.below hb) (HE1.out.below hb) HM.out HEM.out HN.out HK.out hlt).mono ?_
   rintro e' w2 ⟨a2,n2,c2,rfl,hno,hyes,b2⟩
   have hB2:=Lib.hid (hb.trans (b2.mono hsz))
   have OR2:=Lib.hid (OR.out.below (cJ _) b2)
   have hz2:=b2.size
   cases hc:ll d e f with
   | none=>
    obtain ⟨rfl,rfl,rfl⟩:=hno hc
    have HL:=Lib.hid (CP hc)
    clear hno hyes hc
    go_wp2
    go_roundw
    case rel=>exact ⟨f + 1,k,a,cc,us,rfl,by go_num,ab,ab,by rw [HL.out];exact OR2.out.mono (Nat.le_refl _) hz2,hB2.out⟩
    case measure=>simp [intOf];omega
   | some p=>
    obtain ⟨rfl,⟨g2,rfl⟩,o2⟩:=hyes p hc
    have HL:=Lib.hid (Dw hc)
    have O2:=Lib.hid o2
    have BB:=Lib.hid b2
    have OR1:=Lib.hid OR.out
    clear hno hyes hc o2
    go_wp2_with (at_builtin;refine eL kH _ rfl _ _ rfl w1.heap.size a k cc _ rfl OR2.out.own (.slice (some ⟨g2,0,none⟩) n2 c2) rfl rfl ab ab ?_;intro ao3 c3 w3 o3 g3 hat3)
    have OR3:=Lib.hid (mV OR1.out hsz BB.out O2.out (Below.refl _ _) o3 g3 (hat3.imp id fun e=>⟨_,e,Nat.le_succ _⟩))
    have B3:=Lib.hid (hB2.out.grown g3 ab (fun g hg=>(OR2.out.own.lt g hg).1))
    clear o3 g3 hat3
    go_roundw
    case rel=>exact ⟨f + 1,k + 1,ao3,c3,_,rfl,by go_num,ab,ab,by rw [HL.out];exact OR3.out,B3.out⟩
    case measure=>simp [intOf];omega
  ·obtain rfl:f=K:=by omega
   have BF:=Lib.hid (HB0.out.trans (hb.mono hz1))
   go_wp2
   go_ret
   exact ⟨a,k,cc,us,rfl,OR.out.mono hz1 (Nat.le_refl _),BF.out⟩
end Go.Proofs.Ytfpcfckocmmcnaa
namespace Go.Proofs.Ytfpcfckocmmcnaa
theorem dL:∀(m n:Nat) (f:Nat→Nat),(∀i,i < n→f i < m)→(∀i j,i < n→j < n→f i=f j→i=j)→n≤m
 | 0,n,f,h,_=>by
  rcases Nat.eq_zero_or_pos n with e | e
  ·omega
  ·have:=h 0 e;omega
 | m + 1,0,f,_,_=>Nat.zero_le _
 | m + 1,n + 1,f,h,hi=>by
  have:=dL m n (fun i=>if f i=m then f n else f i) (fun i hin=>by
   have h1:=h i ab
   have h2:=h n ab
   have h3:=hi i n ab ab
   split<;>omega) (fun i j hin hjn e=>by
   have h3:=hi i n ab ab
   have h4:=hi j n ab ab
   have h5:=hi i j ab ab
   split at e<;>split at e
   ·omega
   ·exact absurd (h4 e.symm) ab
   ·exact absurd (h3 e) ab
   ·exact h5 e)
  omega
theorem xd {n:Nat} {f:Nat→Nat} (_h:∀i,i < n→f i < n) (hs:∀y,y < n→∃i,i < n∧f i=y) {a b:Nat} (ha:a < n) (hb:b < n) (e:f a=f b):a=b:=by
 apply Classical.byContradiction
 intro hne
 have hg:∃g:Nat→Nat,∀y,y < n→g y < n∧f (g y)=y∧g y≠b:=by
  refine Classical.axiomOfChoice (r:=fun y i=>y < n→i < n∧f i=y∧i≠b) fun y=> ?_
  by_cases hy:y < n
  ·by_cases hya:y=f b
   ·exact ⟨a,fun _=>⟨ha,by rw [hya];exact e,hne⟩⟩
   ·obtain ⟨i,h1,h2⟩:=hs y hy
    exact ⟨i,fun _=>⟨h1,h2,fun e2=>hya (by rw [←h2,e2])⟩⟩
  ·exact ⟨0,fun q=>absurd q hy⟩
 obtain ⟨g,hg⟩:=hg
 have:=dL (n - 1) n (fun i=>if g i=n - 1 then b else g i) (fun i hi'=>by
  obtain ⟨h1,h2,h3⟩:=hg i hi'
  split
  ·omega
  ·omega) (fun i j hi' hj' q=>by
  obtain ⟨h1,h2,h3⟩:=hg i hi'
  obtain ⟨k1,k2,k3⟩:=hg j hj'
  have q2:g i=g j:=by
   split at q<;>split at q
   ·omega
   ·exact absurd q.symm k3
   ·exact absurd q h3
   ·exact q
  rw [←h2,←k2,q2])
 omega
end Go.Proofs.Ytfpcfckocmmcnaa
namespace Go.Proofs.Ytfpcfckocmmcnaa
section
variable {d e k:List (List Int)}
def at_ (p:List Int) (i:Nat):Nat:=(aD p i).toNat
theorem po.mB {p:List Int} (h:po d e p) {i:Nat} (hi:i < cn d):at_ p i < cn e∧aD p i=(at_ p i:Int):=by
 obtain ⟨x,h1,h2⟩:=h.val i hi
 unfold at_;rw [h1];exact ⟨ab,ab⟩
theorem po.on {p:List Int} (h:po d e p) {g i:Nat} (hg:g < d.length) (hi:i < cn d):at_ p (dy d i g)=dy e (at_ p i) g:=by
 unfold at_ dy
 rw [←h.mov g i hg hi];rfl
theorem rO (f:Nat→Nat) (hv:∀i,i < cn d→f i < cn e) (hd:dW d) (he:dW e) (hl:d.length=e.length) (hm:∀g i,g < d.length→i < cn d→f (dy d i g)=dy e (f i) g):po d e ((List.range (cn d)).map fun i=>(f i:Int))∧∀i,i < cn d→at_ ((List.range (cn d)).map fun i=>(f i:Int)) i=f i:=by
 have hg:∀i,i < cn d→aD ((List.range (cn d)).map fun i=>(f i:Int)) i=(f i:Int):=fun i hi=>by simp [aD,hi]
 refine ⟨⟨by simp,fun i hi=>⟨f i,hg i hi,hv i hi⟩,fun g i hgl hi=> ?_⟩,fun i hi=>by unfold at_;rw [hg i hi];omega⟩
 have h1:=dj (bM hd) hi hgl
 rw [hg i hi,hg _ h1.1,hm g i hgl hi,Int.toNat_natCast]
 exact (dj (bM he) (hv i hi) ab).2.symm
theorem po.IY {p:List Int} (h:po d e p) (hd:dW d) (he:dW e) (hl:d.length=e.length):∀y,y < cn e→∃i,i < cn d∧at_ p i=y:=by
 have h2:0 < cn d:=by have:=hd.f2;unfold cn;omega
 have key:∀j,j < cn e→∀i0,i0 < cn d→(mW e (cn e) (at_ p i0) j=true→∃i,i < cn d∧at_ p i=j):=fun j hj i0 hi0 hr=>
  m6 (bM he) (h.mB hi0).1 (p:=fun j=>∃i,i < cn d∧at_ p i=j) ⟨i0,hi0,rfl⟩ (fun x hx ⟨i,hi,hix⟩ g hg=>⟨dy d i g,(dj (bM hd) hi ab).1,by rw [h.on ab hi,hix]⟩) j hj hr
 intro y hy
 refine key y hy 0 h2 ?_
 have h0:=(h.mB h2).1
 have:=iW he _ h0
 exact ie (bM he) h0 (by have:=he.f2;unfold cn;omega) hy (l7 (bM he) (ke he) (by have:=he.f2;unfold cn;omega) h0 this) (iW he y hy)
theorem po.comp {p q:List Int} (hp:po d e p) (hq:po e k q) (hd:dW d) (hk:dW k) (hl:d.length=e.length) (hl2:e.length=k.length):∃r,po d k r∧∀i,i < cn d→at_ r i=at_ q (at_ p i):=by
 obtain ⟨h1,h2⟩:=rO (d:=d) (e:=k) (fun i=>at_ q (at_ p i)) (fun i hi=>(hq.mB (hp.mB hi).1).1) hd hk (hl.trans hl2) (fun g i hg hi=>by rw [hp.on hg hi,hq.on ab (hp.mB hi).1])
 exact ⟨_,h1,h2⟩
theorem po.back {p:List Int} (hp:po d e p) (hd:dW d) (he:dW e) (hl:d.length=e.length) (hn:cn d=cn e):∃q,po e d q∧(∀i,i < cn d→at_ q (at_ p i)=i)∧∀i,i < cn e→at_ p (at_ q i)=i:=by
 have honto:=hp.IY hd he hl
 have hv:∀i,i < cn d→at_ p i < cn d:=fun i hi=>by rw [hn];exact (hp.mB hi).1
 have hs:∀y,y < cn d→∃i,i < cn d∧at_ p i=y:=fun y hy=>honto y ab
 have hinj:∀a b,a < cn d→b < cn d→at_ p a=at_ p b→a=b:=fun a b ha hb q=>xd hv hs ha hb q
 obtain ⟨f,hf⟩:∃f:Nat→Nat,∀y,y < cn d→f y < cn d∧at_ p (f y)=y:=by
  refine Classical.axiomOfChoice (r:=fun y i=>y < cn d→i < cn d∧at_ p i=y) fun y=> ?_
  by_cases hy:y < cn d
  ·obtain ⟨i,h1,h2⟩:=hs y hy;exact ⟨i,fun _=>⟨h1,h2⟩⟩
  ·exact ⟨0,fun q=>absurd q hy⟩
 obtain ⟨h1,h2⟩:=rO (d:=e) (e:=d) f (fun i hi=>(hf i ab).1) he hd hl.symm (fun g i hg hi=>by
  have h3:=hf i ab
  have h4:=(dj (bM he) hi hg).1
  have h5:=hf (dy e i g) ab
  refine hinj _ _ h5.1 (dj (bM hd) h3.1 ab).1 ?_
  rw [h5.2,hp.on ab h3.1,h3.2])
 refine ⟨_,h1,fun i hi=> ?_,fun i hi=> ?_⟩
 ·have h3:=hv i hi
  rw [h2 _ ab]
  exact hinj _ _ (hf _ h3).1 hi (hf _ h3).2
 ·rw [h2 i hi];exact (hf i ab).2
theorem Gx (hd:dW d):∃p,po d d p∧∀i,i < cn d→at_ p i=i:=by
 obtain ⟨h1,h2⟩:=rO (d:=d) (e:=d) (fun i=>i) (fun i hi=>hi) hd hd rfl (fun g i hg hi=>rfl)
 exact ⟨_,h1,h2⟩
theorem zR {n:Nat} {p:List Int} :p∈sD d e n↔∃f,f < n∧ll d e f=some p:=by
 unfold sD;rw [List.mem_filterMap]
 constructor
 ·rintro ⟨f,h1,h2⟩;exact ⟨f,List.mem_range.1 h1,h2⟩
 ·rintro ⟨f,h1,h2⟩;exact ⟨f,List.mem_range.2 h1,h2⟩
theorem uT (hd:dW d) (hl:d.length=e.length) {p:List Int} :p∈sD d e (cn e)↔po d e p:=by
 rw [zR]
 constructor
 ·rintro ⟨f,_,h⟩;exact (tB h).2.1
 ·intro h
  have h0:=h.mB (show 0 < cn d by have:=hd.f2;unfold cn;omega)
  exact ⟨at_ p 0,h0.1,zI hd hl h h0.2⟩
noncomputable def uQ (d:List (List Int)):List (List Int):=sD d d (cn d)
theorem sB (hd:dW d) {g:Nat} (hg:g < (uQ d).length):po d d (aT (uQ d) g):=(uT hd rfl).1 (fA hg)
theorem hJ (hd:dW d):dh (uQ d) (cn d):=⟨fun k hk=>(sB hd hk).len,fun k hk x hx=>by
 obtain ⟨y,h1,h2⟩:=(sB hd hk).val x hx
 rw [h1];omega⟩
def pI (d:List (List Int)) (a b:Nat):Prop:=∃p,po d d p∧at_ p a=b
theorem yY (hd:dW d) {a b:Nat} (ha:a < cn d) (h:pI d a b):pI d b a:=by
 obtain ⟨p,h1,h2⟩:=h
 obtain ⟨q,k1,k2,_⟩:=h1.back hd hd rfl rfl
 exact ⟨q,k1,by rw [←h2];exact k2 a ha⟩
theorem wY (hd:dW d) {a b c:Nat} (ha:a < cn d) (h:pI d a b) (k:pI d b c):pI d a c:=by
 obtain ⟨p,h1,h2⟩:=h
 obtain ⟨q,k1,k2⟩:=k
 obtain ⟨r,r1,r2⟩:=h1.comp k1 hd hd rfl rfl
 exact ⟨r,r1,by rw [r2 a ha,h2,k2]⟩
theorem p6 (hd:dW d) {a b:Nat} (ha:a < cn d) (hb:b < cn d):mW (uQ d) (cn d) a b=true↔pI d a b:=by
 constructor
 ·intro h
  refine m6 (hJ hd) ha (p:=fun b=>pI d a b) ?_ (fun x hx hax g hg=>wY hd ha hax ⟨_,sB hd hg,rfl⟩) b hb h
  obtain ⟨p,h1,h2⟩:=Gx hd
  exact ⟨p,h1,h2 a ha⟩
 ·rintro ⟨p,h1,h2⟩
  obtain ⟨g,hg,e⟩:=List.getElem_of_mem ((uT hd rfl).2 h1)
  have hg':g < (uQ d).length:=hg
  have:=pc (hJ hd) ha ha (gJ (hJ hd) ha) hg'
  have e2:dy (uQ d) a g=b:=by
   unfold dy
   rw [eF hg']
   have:(uQ d)[g]=p:=e
   rw [this];exact h2
  rw [e2] at this
  exact this
theorem Aq (hd:dW d):vE (uQ d) (cn d):=fun c x hc hx h=>(p6 hd hx hc).2 (yY hd hc ((p6 hd hc hx).1 h))
noncomputable def wi (d:List (List Int)):Bo:=gV (uQ d) (cn d)
end
end Go.Proofs.Ytfpcfckocmmcnaa
namespace Go.Proofs.Ytfpcfckocmmcnaa
theorem yp {zs:List Int} (h:∀i j,i < zs.length→j < zs.length→aD zs i=aD zs j→i=j):zs.Nodup:=by
 rw [List.nodup_iff_pairwise_ne,List.pairwise_iff_getElem]
 intro i j hi hj hij e
 have:=h i j hi hj (by rw [cA hi,cA hj];exact e)
 omega
theorem tx {n:Nat} :∀(zs:List Int) (seen:List Bool),seen.length=n→(∀z∈zs,0≤z∧z < n)→zs.Nodup→(∀z∈zs,seen.getD z.toNat false=false)→fU n seen zs=true
 | [],_,_,_,_,_=>rfl
 | z :: r,seen,hs,hz,hn,hf=>by
  rw [List.nodup_cons] at hn
  have h0:=hz z (by simp)
  unfold fU
  rw [Bool.and_eq_true,Bool.and_eq_true]
  refine ⟨⟨dY.2 ab,by rw [hf z (by simp)];rfl⟩,tx r _ (by rw [List.length_set];exact hs) (fun x hx=>hz x (by simp [hx])) hn.2 fun x hx=> ?_⟩
  have hx0:=hz x (by simp [hx])
  have hne:z≠x:=fun e=>hn.1 (e ▸ hx)
  have:=hf x (by simp [hx])
  rw [List.getD_eq_getElem?_getD] at this ⊢
  rw [List.getElem?_set_ne ab]
  exact this
theorem AF {zs:List Int} (hl:zs.length≤400) (hz:∀k,k < zs.length→0≤aD zs k∧aD zs k < zs.length) (hi:∀i j,i < zs.length→j < zs.length→aD zs i=aD zs j→i=j):isPerm zs=true:=by
 unfold isPerm
 rw [Bool.and_eq_true]
 refine ⟨decide_eq_true hl,tx zs _ (by simp) (fun z hzm=> ?_) (yp hi) fun z hzm=> ?_⟩
 ·obtain ⟨j,hj,rfl⟩:=List.getElem_of_mem hzm
  rw [←cA hj];exact hz j hj
 ·rw [List.getD_eq_getElem?_getD,List.getElem?_replicate]
  split<;>rfl
end Go.Proofs.Ytfpcfckocmmcnaa
