/- Rows that are permutations and free involutions: l01Perm, l01Free, isFreeInvolution. guards: -/
import Derived.Test.YtfpcfckocmmcnaaPart4
import Derived.Test.YtfpcfckocmmcnaaPart7
import Derived.Test.YtfpcfckocmmcnaaPart1
import Derived.Test.YtfpcfckocmmcnaaPart6
set_option maxRecDepth 100000
set_option maxHeartbeats 6400000
namespace Go.Proofs.Ytfpcfckocmmcnaa
open Go.RowKit
theorem Aw {us:List Value} {u0:Value} (hl:us.length=1) (g0:us[0]? =some u0):us= [u0]:=by
 match us,hl with
 | [p],_=>simp at g0;rw [g0]
theorem C7 (zss:List (List Int)) (i:Nat) (hi:i < zss.length) (hn:(aT zss i).length≤1048576):
  FC Try.prog 67 [(1003,bh zss)] [o1 (.esl 1003 i 0 (aT zss i).length)] [] (vv (.bool (isPerm (aT zss i)))) []:=
 jG fun w η ω us hm ⟨hl,ha⟩=>by
  obtain ⟨u0,g0,d0⟩:=ha 0 _ rfl
  obtain ⟨ao,c,rfl,hI⟩:=Fh (x:=1003) hm rfl hi d0 ab
  rw [Aw hl g0]
  exact vB ao _ c _ w hI
theorem Db (zss:List (List Int)) (i:Nat) (hi:i < zss.length) (hn:(aT zss i).length≤1048576):
  FC Try.prog 86 [(1003,bh zss)] [o1 (.esl 1003 i 0 (aT zss i).length)] [] (vv (.bool (isPerm (aT zss i)))) []:=
 jG fun w η ω us hm ⟨hl,ha⟩=>by
  obtain ⟨u0,g0,d0⟩:=ha 0 _ rfl
  obtain ⟨ao,c,rfl,hI⟩:=Fh (x:=1003) hm rfl hi d0 ab
  rw [Aw hl g0]
  exact uR ao _ c _ w hI
theorem xV {zs:List Int} {k:Nat} (h:0≤aD zs k):aD zs k=(((aD zs k).toNat:Nat):Int):=(Int.toNat_of_nonneg h).symm
theorem Ds (zss:List (List Int)) (i:Nat) (hi:i < zss.length) (hn:(aT zss i).length≤1048576) (hp:isPerm (aT zss i)=true):
  FC Try.prog 68 [(1003,bh zss)] [o1 (.esl 1003 i 0 (aT zss i).length)] [] (vv (.bool (gf (aT zss i)))) []:=by
 have hrow:(bU zss)[i]? =some (aV (aT zss i)):=bV hi
 have hW:=fun k hk=>jZ hp (k:=k) hk
 refine cu (nt:=27) Try.func68 rfl rfl (by simp) fun w0 ω0=> ?_
 generalize aT zss i=zs at *
 (refine au (ah (aa rfl (ay rfl rfl) (aA (ax (au (au (ah (aa rfl (ay rfl rfl) (aA (ax (aQ ?_))))))))))))
 refine bR (fun k:Nat=>St.of [(0,o1 (.esl 1003 i 0 zs.length)),(3,vv (I6 k))] [(1003,bh zss)]) (fun k=>k≤zs.length∧∀j,j < k→aD zs j≠j∧aD zs (aD zs j).toNat=j) (fun k=>zs.length - k) 0 ⟨Nat.zero_le _,fun j h=>absurd h ab⟩ (Wk.of ⟨rfl,rfl,aq⟩ ⟨rfl,aq⟩ trivial) ?_
 rintro k ⟨hk,hok⟩
 (refine au (au (ah (aa rfl (an rfl rfl) (aa rfl (an rfl rfl) (aa rfl (bF rfl rfl rfl ae) ?_)))));refine aa rfl (bd rfl rfl rfl rfl) (aA (ax ?_)))
 refine bY rfl (fun hlt=> ?_) (fun hlt=> ?_)
 ·have hlt':k < zs.length:=by omega
  obtain ⟨d,hd⟩:∃d:Nat,aD zs k=(d:Int):=⟨_,xV (hW k hlt').1⟩
  have hdl:d < zs.length:=by have:=(hW k hlt').2;rw [hd] at this;omega
  have gk:(aV zs)[k]? =some (I6 (d:Int)):=by rw [ck hlt',hd]
  (refine aU (ax (au (aQ (au (ah (aa rfl (an rfl rfl) (aa rfl (an rfl rfl) ?_)))))));apply aa rfl;exact bn rfl rfl rfl rfl rfl ae aK aY aC aZ;apply aa rfl;exact br rfl ae rfl rfl rfl aK aK;refine aa rfl (an rfl rfl) (aa rfl (bd rfl rfl rfl rfl) (aa rfl (an rfl rfl) ?_)))
  refine dA 16 rfl (fun h1=> ?_) (fun h1=> ?_)
  ·have e1:(d:Int)=k:=of_decide_eq_true h1
   rw [la hlt' (.inl (hd.trans e1))]
   (apply aR rfl rfl rfl rfl rfl;apply aR rfl rfl rfl rfl rfl;apply aR rfl rfl rfl rfl rfl;apply aR rfl rfl rfl rfl rfl;apply aR rfl rfl rfl rfl rfl;apply aR rfl rfl rfl rfl rfl;apply aR rfl rfl rfl rfl rfl;apply aR rfl rfl rfl rfl rfl;apply aR rfl rfl rfl rfl rfl;refine aa rfl (cF rfl rfl rfl) (aA (ax ?_)))
   refine bf rfl (fun _=> ?_) (fun e=>by cases e)
   (refine au (ah (aa rfl (ay rfl rfl) (aA (ax (bw (aX (aJ (aJ (aX (aJ ?_)))))))))))
   exact bQ (.inl rfl) rfl (.tmp rfl) trivial trivial
  ·have e1:(d:Int)≠k:=of_decide_eq_false h1
   (apply aO rfl rfl rfl;exact an rfl rfl;apply aO rfl rfl rfl;exact an rfl rfl;apply aO rfl rfl rfl;exact an rfl rfl;apply aO rfl rfl rfl;exact bn rfl rfl rfl rfl rfl ae aK aY aC aZ;apply aO rfl rfl rfl;exact br rfl ae rfl rfl rfl aK aK;apply aO rfl rfl rfl;exact bn rfl rfl rfl rfl rfl ae aK aY aC aZ;apply aO rfl rfl rfl;exact br rfl ae rfl rfl rfl aK aK;apply aO rfl rfl rfl;exact an rfl rfl;apply aO rfl rfl rfl;exact bd rfl rfl rfl rfl;refine aa rfl (cj rfl rfl rfl) (aA (ax ?_)))
   refine bf rfl (fun h2=> ?_) (fun h2=> ?_)
   ·have e2:aD zs d≠k:=by simpa using h2
    rw [la hlt' (.inr (by rw [hd,Int.toNat_natCast];exact e2))]
    (refine au (ah (aa rfl (ay rfl rfl) (aA (ax (bw (aX (aJ (aJ (aX (aJ ?_)))))))))))
    exact bQ (.inl rfl) rfl (.tmp rfl) trivial trivial
   ·have e2:aD zs d=k:=by simpa using h2
    (refine aU (bp (ax (ah (aa rfl (an rfl rfl) ?_))));apply aa rfl;exact bG rfl rfl rfl bL;refine aa rfl (ay rfl rfl) (aA ?_))
    exact bu (k + 1) ⟨ab,fun j hj=>by
     by_cases e:j=k
     ·subst e;rw [hd,Int.toNat_natCast];exact ⟨e1,e2⟩
     ·exact hok j ab⟩ ab (Wk.of ⟨rfl,rfl,aq⟩ ⟨rfl,aq⟩ trivial)
 ·obtain rfl:k=zs.length:=by omega
  rw [lZ hok]
  (refine bI (aF (aF (bt (ax (au (ah (aa rfl (ay rfl rfl) (aA (ax (bw ?_)))))))))))
  exact bQ (.inl rfl) rfl (.tmp rfl) trivial trivial
def nM (zs:List Int):Bool:=isPerm zs && gf zs
theorem Dc (zss:List (List Int)) (i:Nat) (hi:i < zss.length) (hn:(aT zss i).length≤1048576):
  FC Try.prog 59 [(1003,bh zss)] [o1 (.esl 1003 i 0 (aT zss i).length)] [] (vv (.bool (nM (aT zss i)))) []:=by
 have hrow:(bU zss)[i]? =some (aV (aT zss i)):=bV hi
 have hP:=Db zss i hi hn
 refine cu (nt:=27) Try.func59 rfl rfl (by simp) fun w0 ω0=> ?_
 unfold nM
 cases hp:isPerm (aT zss i) with
 | false=>
  rw [hp] at hP
  rw [Bool.false_and]
  (refine au (ah (aa rfl (ay rfl rfl) (aA (ax (au (au (ah (aa rfl (an rfl rfl) ?_))))))));apply aa rfl;(apply aI 86;exact aL hP ae rfl rfl ⟨rfl,aq⟩ ⟨⟨_,rfl, .inl rfl⟩,aq⟩ rfl rfl);refine aa rfl (cP rfl rfl) (aA (ax ?_)))
  refine bf rfl (fun _=> ?_) (fun e=>by cases e)
  (refine au (ah (aa rfl (ay rfl rfl) (aA (ax (bw (aJ ?_)))))))
  exact bQ (.inl rfl) rfl (.tmp rfl) trivial trivial
 | true=>
  rw [hp] at hP
  rw [Bool.true_and]
  have hW:=fun k hk=>jZ hp (k:=k) hk
  generalize aT zss i=zs at *
  (refine au (ah (aa rfl (ay rfl rfl) (aA (ax (au (au (ah (aa rfl (an rfl rfl) ?_))))))));apply aa rfl;(apply aI 86;exact aL hP ae rfl rfl ⟨rfl,aq⟩ ⟨⟨_,rfl, .inl rfl⟩,aq⟩ rfl rfl);refine aa rfl (cP rfl rfl) (aA (ax ?_)))
  refine bf rfl (fun e=>by cases e) (fun _=> ?_)
  (refine aU (ax (au (au (ah (aa rfl (an rfl rfl) (aa rfl (bF rfl rfl rfl ae) ?_))))));refine aa rfl (an rfl rfl) (aA (ax (aQ ?_))))
  refine bR (fun k:Nat=>St.of [(0,o1 (.esl 1003 i 0 zs.length)),(8,o1 (.esl 1003 i 0 zs.length)),(9,vv (I6 zs.length)),(10,vv (I6 k))] [(1003,bh zss)]) (fun k=>k≤zs.length∧∀j,j < k→aD zs j≠j∧aD zs (aD zs j).toNat=j) (fun k=>zs.length - k) 0 ⟨Nat.zero_le _,fun j h=>absurd h ab⟩ (Wk.of ⟨rfl,rfl,rfl,rfl,aq⟩ ⟨rfl,aq⟩ trivial) ?_
  rintro k ⟨hk,hok⟩
  (refine au (ah (aa rfl (bd rfl rfl rfl rfl) (aA (ax (au ?_))))))
  refine bY rfl (fun hlt=> ?_) (fun hlt=> ?_)
  ·have hlt':k < zs.length:=by omega
   obtain ⟨d,hd⟩:∃d:Nat,aD zs k=(d:Int):=⟨_,xV (hW k hlt').1⟩
   have hdl:d < zs.length:=by have:=(hW k hlt').2;rw [hd] at this;omega
   have gk:(aV zs)[k]? =some (I6 (d:Int)):=by rw [ck hlt',hd]
   (refine aU (ax (au (aQ (au (ah (aa rfl (an rfl rfl) ?_))))));apply aa rfl;exact bn rfl rfl rfl rfl rfl ae aK aY aC aZ;apply aa rfl;exact br rfl ae rfl rfl rfl aK aK;refine aa rfl (ay rfl rfl) (aa rfl (ay rfl rfl) (aA (ax (au (ah (aa rfl (an rfl rfl) (aa rfl (an rfl rfl) (aa rfl (bd rfl rfl rfl rfl) (aa rfl (an rfl rfl) ?_))))))))))
   refine dA 18 rfl (fun h1=> ?_) (fun h1=> ?_)
   ·have e1:(d:Int)=k:=of_decide_eq_true h1
    rw [la hlt' (.inl (hd.trans e1))]
    (apply aR rfl rfl rfl rfl rfl;apply aR rfl rfl rfl rfl rfl;apply aR rfl rfl rfl rfl rfl;apply aR rfl rfl rfl rfl rfl;apply aR rfl rfl rfl rfl rfl;apply aR rfl rfl rfl rfl rfl;refine aa rfl (cF rfl rfl rfl) (aA (ax ?_)))
    refine bf rfl (fun _=> ?_) (fun e=>by cases e)
    (refine au (ah (aa rfl (ay rfl rfl) (aA (ax (bw (aX (aJ (aJ (aX (aJ ?_)))))))))))
    exact bQ (.inl rfl) rfl (.tmp rfl) trivial trivial
   ·have e1:(d:Int)≠k:=of_decide_eq_false h1
    (apply aO rfl rfl rfl;exact an rfl rfl;apply aO rfl rfl rfl;exact an rfl rfl;apply aO rfl rfl rfl;exact bn rfl rfl rfl rfl rfl ae aK aY aC aZ;apply aO rfl rfl rfl;exact br rfl ae rfl rfl rfl aK aK;apply aO rfl rfl rfl;exact an rfl rfl;apply aO rfl rfl rfl;exact bd rfl rfl rfl rfl;refine aa rfl (cj rfl rfl rfl) (aA (ax ?_)))
    refine bf rfl (fun h2=> ?_) (fun h2=> ?_)
    ·have e2:aD zs d≠k:=by simpa using h2
     rw [la hlt' (.inr (by rw [hd,Int.toNat_natCast];exact e2))]
     (refine au (ah (aa rfl (ay rfl rfl) (aA (ax (bw (aX (aJ (aJ (aX (aJ ?_)))))))))))
     exact bQ (.inl rfl) rfl (.tmp rfl) trivial trivial
    ·have e2:aD zs d=k:=by simpa using h2
     (refine aU (bp (ax (ah ?_)));apply aa rfl;exact bG rfl rfl rfl bL;refine aa rfl (an rfl rfl) (aA ?_))
     exact bu (k + 1) ⟨ab,fun j hj=>by
      by_cases e:j=k
      ·subst e;rw [hd,Int.toNat_natCast];exact ⟨e1,e2⟩
      ·exact hok j ab⟩ ab (Wk.of ⟨rfl,rfl,rfl,rfl,aq⟩ ⟨rfl,aq⟩ trivial)
  ·obtain rfl:k=zs.length:=by omega
   rw [lZ hok]
   (refine bI (aF (aF (bt (ax (au (ah (aa rfl (ay rfl rfl) (aA (ax (bw ?_)))))))))))
   exact bQ (.inl rfl) rfl (.tmp rfl) trivial trivial
end Go.Proofs.Ytfpcfckocmmcnaa
namespace Go.Proofs.Ytfpcfckocmmcnaa
open Go.RowKit
theorem Er {a p:List Bool} {d:Nat} (h:d < a.length):jY (a ++ p) d=jY a d:=by simp [jY,List.getElem?_append_left h]
theorem vO {a p:List Bool} {d:Nat} (h:d < a.length) (b:Bool):(a ++ p).set d b=a.set d b ++ p:=List.set_append_left _ _ h
theorem Ex (zss:List (List Int)) (n c:Nat) (hT:dh zss n) (hpos:0 < zss.length) (hn:n≤1000000) (hg:zss.length≤1000000) (hc:c < n):
  FC Try.prog 69 [(1003,bh zss)] [o1 (.sl 1003 0 zss.length),vv (I6 c)] [(12,cD (lx zss n c).2)] (o1 (.sl 12 0 (lx zss n c).2.length)) []:=by
 have hlen:(bU zss).length=zss.length:=cB _
 have hr0:(aT zss 0).length=n:=hT.len 0 hpos
 have hrow0:(bU zss)[0]? =some (aV (aT zss 0)):=bV hpos
 have hil:(aV (aT zss 0)).length=n:=by rw [bD];exact hr0
 refine cu (nt:=63) Try.func69 rfl rfl (by simp) fun w0 ω0=> ?_
 (refine au (ah (aa rfl (ay rfl rfl) (aA (ax (au (ah (aa rfl (an rfl rfl) ?_)))))));apply aa rfl;(exact cN (E:=2) rfl ae rfl);refine aa rfl (ay rfl rfl) (aA (ax (au (ah (aa rfl (ay rfl rfl) (aA (ax (au (au (ah (aa rfl (an rfl rfl) ?_)))))))))));apply aa rfl;exact bF rfl rfl rfl ae;refine aa rfl (bd rfl rfl rfl rfl) (aA (ax ?_)))
 refine bY rfl (fun _=> ?_) (fun h=>absurd hpos ab)
 have hm0:((n:Int) + (c:Int) + 1)=((n + c + 1:Nat):Int):=by omega
 have hrp:(List.replicate (n + c + 1) false).length=n + c + 1:=by simp
 have hst:(List.replicate (n + c + 1) false).set c true=(ey n c).1 ++ List.replicate (c + 1) false:=by
  rw [show n + c + 1=n + (c + 1) by omega,←List.replicate_append_replicate,vO (by simpa using hc)];rfl
 have hbl:n + c + 1≤(gS (List.replicate (n + c + 1) false)).length:=by rw [kE];simp
 (refine ah (aa rfl (an rfl rfl) ?_);apply aa rfl;(first | exact aP (j:=0) rfl rfl rfl rfl rfl ae rfl hpos (Nat.le_of_eq hlen.symm) | exact aM rfl ae rfl rfl rfl hrow0 hil | exact fp (n:=n + c + 1) (E:=4) rfl ae ae rfl rfl hm0 hm0 ab | exact aP (j:=c) rfl rfl rfl rfl rfl ae rfl ab hbl | exact fx (bs:=List.replicate (n + c + 1) false) rfl rfl rfl rfl rfl (by rw [hrp];omega) ae);apply aa rfl;(first | exact aP (j:=0) rfl rfl rfl rfl rfl ae rfl hpos (Nat.le_of_eq hlen.symm) | exact aM rfl ae rfl rfl rfl hrow0 hil | exact fp (n:=n + c + 1) (E:=4) rfl ae ae rfl rfl hm0 hm0 ab | exact aP (j:=c) rfl rfl rfl rfl rfl ae rfl ab hbl | exact fx (bs:=List.replicate (n + c + 1) false) rfl rfl rfl rfl rfl (by rw [hrp];omega) ae);apply aa rfl;exact bF rfl rfl rfl ae;refine aa rfl (ay rfl rfl) (aA (ax (au (ah (aa rfl (an rfl rfl) (aa rfl (an rfl rfl) ?_))))));apply aa rfl;exact bG rfl rfl rfl bL;apply aa rfl;exact bG rfl rfl rfl bL;apply aa rfl;(first | exact aP (j:=0) rfl rfl rfl rfl rfl ae rfl hpos (Nat.le_of_eq hlen.symm) | exact aM rfl ae rfl rfl rfl hrow0 hil | exact fp (n:=n + c + 1) (E:=4) rfl ae ae rfl rfl hm0 hm0 ab | exact aP (j:=c) rfl rfl rfl rfl rfl ae rfl ab hbl | exact fx (bs:=List.replicate (n + c + 1) false) rfl rfl rfl rfl rfl (by rw [hrp];omega) ae);refine aa rfl (ay rfl rfl) (aA (ax (au (ah (aa rfl (an rfl rfl) (aa rfl (an rfl rfl) ?_))))));apply aa rfl;(first | exact aP (j:=0) rfl rfl rfl rfl rfl ae rfl hpos (Nat.le_of_eq hlen.symm) | exact aM rfl ae rfl rfl rfl hrow0 hil | exact fp (n:=n + c + 1) (E:=4) rfl ae ae rfl rfl hm0 hm0 ab | exact aP (j:=c) rfl rfl rfl rfl rfl ae rfl ab hbl | exact fx (bs:=List.replicate (n + c + 1) false) rfl rfl rfl rfl rfl (by rw [hrp];omega) ae);apply aa rfl;(first | exact aP (j:=0) rfl rfl rfl rfl rfl ae rfl hpos (Nat.le_of_eq hlen.symm) | exact aM rfl ae rfl rfl rfl hrow0 hil | exact fp (n:=n + c + 1) (E:=4) rfl ae ae rfl rfl hm0 hm0 ab | exact aP (j:=c) rfl rfl rfl rfl rfl ae rfl ab hbl | exact fx (bs:=List.replicate (n + c + 1) false) rfl rfl rfl rfl rfl (by rw [hrp];omega) ae);refine aA (ax (au (au (ah (aa rfl (ay rfl rfl) (aA (ax (aQ ?_)))))))))
 rw [hst]
 generalize hm:2 ^ zss.length - 1=mask
 have hstep:∀k,k < zss.length→∀c s,dX zss mask c s k=py zss c s k:=fun k hk c s=>by rw [←hm];exact xI hk c s
 have hout:lx zss n c=dU zss mask zss.length (n + 1) 0 (ey n c):=by rw [←hm];rfl
 rw [hout]
 refine bR (fun q:Nat×lv=>St.of [(0,o1 (.sl 1003 0 zss.length)),(5,o1 (.sl 12 0 q.2.2.length)),(7,o1 (.sl 24 0 (n + c + 1))),(8,vv (I6 q.1))] [(1003,bh zss),(12,cD q.2.2),(24,Dy (q.2.1 ++ List.replicate (c + 1) false))])
  (fun q=>q.1≤q.2.2.length∧sP n q.2∧dU zss mask zss.length (n + 1 - q.1) q.1 q.2=dU zss mask zss.length (n + 1) 0 (ey n c)) (fun q=>n + 1 - q.1) (0,ey n c) ⟨Nat.zero_le _,fK hc,rfl⟩ (Wk.of ⟨rfl,rfl,rfl,rfl,aq⟩ ⟨rfl,rfl,rfl,aq⟩ trivial) ?_
 rintro ⟨i,s⟩ ⟨hi,hok,hl⟩
 dsimp only at hi hl ⊢
 have hOn:s.2.length≤n:=hok.le
 (refine au (au (ah (aa rfl (an rfl rfl) (aa rfl (an rfl rfl) (aa rfl (bF rfl rfl rfl ae) ?_)))));refine aa rfl (bd rfl rfl rfl rfl) (aA (ax ?_)))
 refine bY rfl (fun h=> ?_) (fun h=> ?_)
 ·have hlt:i < s.2.length:=by omega
  have hl':dU zss mask zss.length (n - i) (i + 1) (uJ zss mask zss.length (aD s.2 i).toNat s)=dU zss mask zss.length (n + 1) 0 (ey n c):=by
   rw [←hl,show n + 1 - i=(n - i) + 1 by omega];exact (qB hlt).symm
  obtain ⟨e,he1,he2, -⟩:=hok.q i hlt
  rw [he1,Int.toNat_natCast] at hl'
  have hro:=fun m hm=>iu (mask:=mask) hT rfl he2 hok m hm
  obtain ⟨s0,hs0⟩:∃s0:lv,s0=s:=⟨_,rfl⟩
  rw [←hs0] at hro hl'
  have hi0:i < s0.2.length:=by rw [hs0];exact hlt
  have he0:aD s0.2 i=(e:Int):=by rw [hs0];exact he1
  (refine aU (ax (au (aQ (au (ah (aa rfl (ay rfl rfl) (aA (ax (aQ ?_))))))))))
  refine bR (fun q:Nat×lv=>St.of [(0,o1 (.sl 1003 0 zss.length)),(5,o1 (.sl 12 0 q.2.2.length)),(7,o1 (.sl 24 0 (n + c + 1))),(8,vv (I6 i)),(9,vv (I6 q.1))] [(1003,bh zss),(12,cD q.2.2),(24,Dy (q.2.1 ++ List.replicate (c + 1) false))])
   (fun q=>q.1≤zss.length∧(List.range q.1).foldl (dX zss mask e) s0=q.2) (fun q=>zss.length - q.1) (0,s) ⟨Nat.zero_le _,hs0⟩ (Wk.of ⟨rfl,rfl,rfl,rfl,rfl,aq⟩ ⟨rfl,rfl,rfl,aq⟩ trivial) ?_
  clear hl hok hs0 he1 hlt h hi hOn
  rintro ⟨k,s⟩ ⟨hk,hfo⟩
  dsimp only at hk hfo ⊢
  obtain ⟨hok,grw,_⟩:=hro k hk
  rw [hfo] at hok grw
  have hOn:s.2.length≤n:=hok.le
  have hlt:i < s.2.length:=Nat.lt_of_lt_of_le hi0 grw.len
  have hei:aD s.2 i=(e:Int):=(grw.pre i hi0).trans he0
  have hbl:s.1.length=n:=hok.l
  (refine au (au (ah (aa rfl (an rfl rfl) (aa rfl (an rfl rfl) (aa rfl (bF rfl rfl rfl ae) ?_)))));refine aa rfl (bd rfl rfl rfl rfl) (aA (ax ?_)))
  refine bY rfl (fun h2=> ?_) (fun h2=> ?_)
  ·have hkn:k < zss.length:=by omega
   have hd:=dj hT he2 (g:=k) hkn
   have hrl:(aT zss k).length=n:=hT.len k hkn
   have hrowk:(bU zss)[k]? =some (aV (aT zss k)):=bV hkn
   have hilk:(aV (aT zss k)).length=n:=by rw [bD];exact hrl
   obtain ⟨d,hdd⟩:∃d,dy zss e k=d:=⟨_,rfl⟩
   have hst:(List.range (k + 1)).foldl (dX zss mask e) s0=py zss e s k:=by
    rw [List.range_succ,List.foldl_append,hfo];exact hstep k hkn e s
   unfold py at hst
   rw [hdd] at hd hst
   have hgetd:(aV (aT zss k))[e]? =some (I6 (d:Int)):=by rw [ck ab,hd.2]
   have hgq:(aV s.2)[i]? =some (I6 (e:Int)):=by rw [ck hlt,hei]
   have hgb:(gS (s.1 ++ List.replicate (c + 1) false))[d]? =some (.bool (jY s.1 d)):=by rw [tp (by rw [List.length_append];omega),Er ab]
   have hel:e < (aV (aT zss k)).length:=by rw [hilk];exact he2
   have hbb:n + c + 1≤(gS (s.1 ++ List.replicate (c + 1) false)).length:=by rw [kE,List.length_append,hbl,List.length_replicate];omega
   have hq0:s.2.length≤(aV s.2).length:=by rw [bD];exact Nat.le_refl _
   (refine aU ?_;refine ax ?_;refine au ?_;refine aQ ?_;refine au ?_)
   apply eC 11 [] [[], [], [0,1], [0,1,2], [], [], [4,5], [4,5,6], [0,1,2,3,4,5,6,7], [0,1,2,3,4,5,6,7,8], [0,1,2,3,4,5,6,7,8,9]] [40,41,42,43,44,45,46,47,48,49,10] [] (by kernel_rfl) (by kernel_rfl)
   ·(apply aE rfl;(intro S1 hS;exact an rfl (hS.op rfl));apply aE rfl;(intro S1 hS;exact an rfl (hS.op rfl));(first | (apply aE rfl;(focus (intro S1 hS;exact aP (j:=k) rfl (hS.op rfl) (hS.op rfl) (hS.ch _ _ rfl) rfl ae rfl hkn (Nat.le_of_eq hlen.symm)))) | (apply aE rfl;(focus (intro S1 hS;exact aM rfl ae (hS.op rfl) (hS.ch _ _ rfl) rfl hrowk hilk))) | (apply aE rfl;(focus (intro S1 hS;exact aP (j:=i) rfl (hS.op rfl) (hS.op rfl) (hS.ch _ _ rfl) rfl ae rfl hlt hq0))) | (apply aE rfl;(focus (intro S1 hS;exact bO rfl ae (hS.op rfl) (hS.ch _ _ rfl) rfl hgq))) | (apply aE rfl;(focus (intro S1 hS;exact bn (j:=e) rfl (hS.op rfl) (hS.op rfl) (hS.ch _ _ rfl) rfl ae hrowk rfl he2 (Nat.le_of_eq hilk.symm)))) | (apply aE rfl;(focus (intro S1 hS;exact br rfl ae (hS.op rfl) (hS.ch _ _ rfl) rfl hrowk hgetd))));(first | (apply aE rfl;(focus (intro S1 hS;exact aP (j:=k) rfl (hS.op rfl) (hS.op rfl) (hS.ch _ _ rfl) rfl ae rfl hkn (Nat.le_of_eq hlen.symm)))) | (apply aE rfl;(focus (intro S1 hS;exact aM rfl ae (hS.op rfl) (hS.ch _ _ rfl) rfl hrowk hilk))) | (apply aE rfl;(focus (intro S1 hS;exact aP (j:=i) rfl (hS.op rfl) (hS.op rfl) (hS.ch _ _ rfl) rfl ae rfl hlt hq0))) | (apply aE rfl;(focus (intro S1 hS;exact bO rfl ae (hS.op rfl) (hS.ch _ _ rfl) rfl hgq))) | (apply aE rfl;(focus (intro S1 hS;exact bn (j:=e) rfl (hS.op rfl) (hS.op rfl) (hS.ch _ _ rfl) rfl ae hrowk rfl he2 (Nat.le_of_eq hilk.symm)))) | (apply aE rfl;(focus (intro S1 hS;exact br rfl ae (hS.op rfl) (hS.ch _ _ rfl) rfl hrowk hgetd))));apply aE rfl;(intro S1 hS;exact an rfl (hS.op rfl));apply aE rfl;(intro S1 hS;exact an rfl (hS.op rfl));(first | (apply aE rfl;(focus (intro S1 hS;exact aP (j:=k) rfl (hS.op rfl) (hS.op rfl) (hS.ch _ _ rfl) rfl ae rfl hkn (Nat.le_of_eq hlen.symm)))) | (apply aE rfl;(focus (intro S1 hS;exact aM rfl ae (hS.op rfl) (hS.ch _ _ rfl) rfl hrowk hilk))) | (apply aE rfl;(focus (intro S1 hS;exact aP (j:=i) rfl (hS.op rfl) (hS.op rfl) (hS.ch _ _ rfl) rfl ae rfl hlt hq0))) | (apply aE rfl;(focus (intro S1 hS;exact bO rfl ae (hS.op rfl) (hS.ch _ _ rfl) rfl hgq))) | (apply aE rfl;(focus (intro S1 hS;exact bn (j:=e) rfl (hS.op rfl) (hS.op rfl) (hS.ch _ _ rfl) rfl ae hrowk rfl he2 (Nat.le_of_eq hilk.symm)))) | (apply aE rfl;(focus (intro S1 hS;exact br rfl ae (hS.op rfl) (hS.ch _ _ rfl) rfl hrowk hgetd))));(first | (apply aE rfl;(focus (intro S1 hS;exact aP (j:=k) rfl (hS.op rfl) (hS.op rfl) (hS.ch _ _ rfl) rfl ae rfl hkn (Nat.le_of_eq hlen.symm)))) | (apply aE rfl;(focus (intro S1 hS;exact aM rfl ae (hS.op rfl) (hS.ch _ _ rfl) rfl hrowk hilk))) | (apply aE rfl;(focus (intro S1 hS;exact aP (j:=i) rfl (hS.op rfl) (hS.op rfl) (hS.ch _ _ rfl) rfl ae rfl hlt hq0))) | (apply aE rfl;(focus (intro S1 hS;exact bO rfl ae (hS.op rfl) (hS.ch _ _ rfl) rfl hgq))) | (apply aE rfl;(focus (intro S1 hS;exact bn (j:=e) rfl (hS.op rfl) (hS.op rfl) (hS.ch _ _ rfl) rfl ae hrowk rfl he2 (Nat.le_of_eq hilk.symm)))) | (apply aE rfl;(focus (intro S1 hS;exact br rfl ae (hS.op rfl) (hS.ch _ _ rfl) rfl hrowk hgetd))));(first | (apply aE rfl;(focus (intro S1 hS;exact aP (j:=k) rfl (hS.op rfl) (hS.op rfl) (hS.ch _ _ rfl) rfl ae rfl hkn (Nat.le_of_eq hlen.symm)))) | (apply aE rfl;(focus (intro S1 hS;exact aM rfl ae (hS.op rfl) (hS.ch _ _ rfl) rfl hrowk hilk))) | (apply aE rfl;(focus (intro S1 hS;exact aP (j:=i) rfl (hS.op rfl) (hS.op rfl) (hS.ch _ _ rfl) rfl ae rfl hlt hq0))) | (apply aE rfl;(focus (intro S1 hS;exact bO rfl ae (hS.op rfl) (hS.ch _ _ rfl) rfl hgq))) | (apply aE rfl;(focus (intro S1 hS;exact bn (j:=e) rfl (hS.op rfl) (hS.op rfl) (hS.ch _ _ rfl) rfl ae hrowk rfl he2 (Nat.le_of_eq hilk.symm)))) | (apply aE rfl;(focus (intro S1 hS;exact br rfl ae (hS.op rfl) (hS.ch _ _ rfl) rfl hrowk hgetd))));(first | (apply aE rfl;(focus (intro S1 hS;exact aP (j:=k) rfl (hS.op rfl) (hS.op rfl) (hS.ch _ _ rfl) rfl ae rfl hkn (Nat.le_of_eq hlen.symm)))) | (apply aE rfl;(focus (intro S1 hS;exact aM rfl ae (hS.op rfl) (hS.ch _ _ rfl) rfl hrowk hilk))) | (apply aE rfl;(focus (intro S1 hS;exact aP (j:=i) rfl (hS.op rfl) (hS.op rfl) (hS.ch _ _ rfl) rfl ae rfl hlt hq0))) | (apply aE rfl;(focus (intro S1 hS;exact bO rfl ae (hS.op rfl) (hS.ch _ _ rfl) rfl hgq))) | (apply aE rfl;(focus (intro S1 hS;exact bn (j:=e) rfl (hS.op rfl) (hS.op rfl) (hS.ch _ _ rfl) rfl ae hrowk rfl he2 (Nat.le_of_eq hilk.symm)))) | (apply aE rfl;(focus (intro S1 hS;exact br rfl ae (hS.op rfl) (hS.ch _ _ rfl) rfl hrowk hgetd))));apply aE rfl;(intro S1 hS;exact ay rfl (hS.op rfl));exact fJ.nil)
   ·rfl
   ((refine bl ae ?_;skip))
   (refine ax (au (ah (aa rfl (an rfl rfl) (aa rfl (an rfl rfl) ?_))));apply aa rfl;(exact aP (j:=d) rfl rfl rfl rfl rfl ae rfl ab hbb);apply aa rfl;exact bO rfl ae rfl rfl rfl aK;refine aa rfl (cP rfl rfl) (aA (ax ?_)))
   refine bf rfl (fun hb=> ?_) (fun hb=> ?_)
   ·have hb:jY s.1 d=false:=by simpa using hb
    have hv:(List.range (k + 1)).foldl (dX zss mask e) s0=(s.1.set d true,s.2 ++ [(d:Int)]):=by rw [hst,if_pos hb]
    (refine au (ah (aa rfl (an rfl rfl) (aa rfl (an rfl rfl) ?_)));apply aa rfl;(first | exact aP (j:=d) rfl rfl rfl rfl rfl ae rfl ab hbb | exact fx rfl rfl rfl rfl rfl (by rw [List.length_append];omega) ae);apply aa rfl;(first | exact aP (j:=d) rfl rfl rfl rfl rfl ae rfl ab hbb | exact fx rfl rfl rfl rfl rfl (by rw [List.length_append];omega) ae);refine aA (ax (ah (aa rfl (an rfl rfl) (aa rfl (an rfl rfl) ?_))));apply aa rfl;(exact cN (E:=2) rfl ae rfl);apply aa rfl;(exact fo rfl ae rfl rfl rfl (by first | rfl | assumption | (simp;done)) rfl rfl ab);refine aa rfl (ay rfl rfl) (aA (bp (ax (ah (aa rfl (an rfl rfl) ?_)))));apply aa rfl;exact bG rfl rfl rfl bL;refine aa rfl (ay rfl rfl) (aA ?_))
    exact bu (k + 1,(s.1.set d true,s.2 ++ [(d:Int)])) ⟨hkn,hv⟩ (by show zss.length - (k + 1) < zss.length - k;omega) (Wk.of ⟨rfl,congrArg (fun x=>some (o1 (.sl 12 0 x))) (by simp),rfl,rfl,rfl,aq⟩ ⟨rfl,rfl,congrArg (fun l=>some (Dy l)) (vO ab true),aq⟩ trivial)
   ·have hb:jY s.1 d=true:=by simpa using hb
    have hv:(List.range (k + 1)).foldl (dX zss mask e) s0=s:=by rw [hst,if_neg (by rw [hb];simp)]
    (refine aU (bp (ax (ah (aa rfl (an rfl rfl) ?_))));apply aa rfl;exact bG rfl rfl rfl bL;refine aa rfl (ay rfl rfl) (aA ?_))
    exact bu (k + 1,s) ⟨hkn,hv⟩ (by show zss.length - (k + 1) < zss.length - k;omega) (Wk.of ⟨rfl,rfl,rfl,rfl,rfl,aq⟩ ⟨rfl,rfl,rfl,aq⟩ trivial)
  ·obtain rfl:k=zss.length:=by omega
   (refine bI (aF (aF (bt (bp (ax (ah (aa rfl (an rfl rfl) ?_)))))));apply aa rfl;exact bG rfl rfl rfl bL;refine aa rfl (ay rfl rfl) (aA ?_))
   exact bu (i + 1,s) ⟨hlt,hok,by rw [←hl'];show dU _ _ _ (n + 1 - (i + 1)) _ _=_;rw [show n + 1 - (i + 1)=n - i by omega];unfold uJ;rw [hfo]⟩ (by show n + 1 - (i + 1) < n + 1 - i;omega) (Wk.of ⟨rfl,rfl,rfl,rfl,aq⟩ ⟨rfl,rfl,rfl,aq⟩ trivial)
 ·have hio:i=s.2.length:=by omega
  have hOM:dU zss mask zss.length (n + 1) 0 (ey n c)=s:=by
   rw [←hl,show n + 1 - i=(n - i) + 1 by omega,dU,if_neg ab]
  rw [hOM]
  (refine bI (aF (aF (bt (ax (au (ah (aa rfl (an rfl rfl) (aa rfl (ay rfl rfl) (aA (ax (bw ?_))))))))))))
  exact bQ (.inl rfl) rfl (.tmp rfl) ⟨rfl,aq⟩ trivial
end Go.Proofs.Ytfpcfckocmmcnaa
namespace Go.Proofs.Ytfpcfckocmmcnaa
open Go.RowKit
end Go.Proofs.Ytfpcfckocmmcnaa
namespace Go.Proofs.Ytfpcfckocmmcnaa
open Go.RowKit
abbrev Fq (R:Nat):Ch:=⟨true,29,1, .flat [.sl 1003 0 R]⟩
theorem DD {a b:Int} (h:a≠b):tc .i64 .neq a b=some (.bool true):=by simp [tc,h]
theorem vr {a b:Int} (h:a=b):tc .i64 .neq a b=some (.bool false):=by simp [tc,h]
theorem Gj {a b:Int} (h:a=b):tc .i64 .eql a b=some (.bool true):=by simp [tc,h]
theorem En {a b:Int} (h:a≠b):tc .i64 .eql a b=some (.bool false):=by simp [tc,h]
structure EV (zss:List (List Int)):Prop where
 n1:1≤zss.length
 n5:zss.length≤5
 f2:2≤(aT zss 0).length
 f4:(aT zss 0).length≤400
 rows:Rows zss (aT zss 0).length zss.length
 comm:∀i k,i + 2≤k→k < zss.length→∀f,f < (aT zss 0).length→fu zss i k f
theorem EV.IS {zss:List (List Int)} (h:EV zss):iY zss=((((lx zss (aT zss 0).length 0).2.length:Nat):Int) == (((aT zss 0).length:Nat):Int)):=by
 by_cases hc:(lx zss (aT zss 0).length 0).2.length=(aT zss 0).length
 ·rw [iJ ⟨h.n1,h.n5,h.f2,h.f4,fun i hi=>(h.rows i hi).1,fun i hi=>(h.rows i hi).2.1,fun i hi=>(h.rows i hi).2.2,h.comm,hc⟩,hc];simp
 ·rw [eO (fun hm=>hc hm.conn)]
  have hc':((lx zss (aT zss 0).length 0).2.length:Int)≠((aT zss 0).length:Int):=by omega
  symm;simpa using hc'
theorem E0 (zss:List (List Int)) (hR:zss.length≤1048576) (hl:∀i,i < zss.length→(aT zss i).length≤1048576):
  FC Try.prog 35 [(1003,bh zss)] [mA zss.length] [] (vv (.bool (iY zss))) []:=by
 refine cu (nt:=149) Try.func35 rfl rfl (by simp) fun w0 ω0=> ?_
 have hlen:(bU zss).length=zss.length:=cB _
 by_cases c1:zss.length < 1
 ·rw [eO (fun h=>by have:=h.n1;omega)]
  have b1:decide ((zss.length:Int) < 1)=true:=by simp;omega
  (refine au (ah (aa rfl (du rfl rfl rfl rfl) (aa rfl (ay rfl rfl) (aA (ax (au (ah ?_)))))));apply aa rfl;(exact aB (d:=0) rfl rfl rfl ae);apply aa rfl;exact aN rfl ae rfl rfl rfl rfl;apply aa rfl;exact bF rfl rfl rfl ae;refine aa rfl (ay rfl rfl) (aA (ax (au (au (ah (aa rfl (an rfl rfl) (aa rfl (bd rfl rfl rfl rfl) (aa rfl (an rfl rfl) ?_)))))))))
  refine dA 13 rfl (fun h1=> ?_) (fun h1=>by rw [b1] at h1;cases h1)
  (apply aR rfl rfl rfl rfl rfl;apply aR rfl rfl rfl rfl rfl;refine aa rfl (cF rfl rfl rfl) (aa rfl (an rfl rfl) ?_);apply aR rfl rfl rfl rfl rfl;apply aR rfl rfl rfl rfl rfl;apply aR rfl rfl rfl rfl rfl;apply aR rfl rfl rfl rfl rfl;apply aR rfl rfl rfl rfl rfl;apply aR rfl rfl rfl rfl rfl;refine aa rfl (cF rfl rfl rfl) (aa rfl (an rfl rfl) ?_);apply aR rfl rfl rfl rfl rfl;apply aR rfl rfl rfl rfl rfl;apply aR rfl rfl rfl rfl rfl;apply aR rfl rfl rfl rfl rfl;apply aR rfl rfl rfl rfl rfl;apply aR rfl rfl rfl rfl rfl;refine aa rfl (cF rfl rfl rfl) (aA (ax ?_)))
  refine bf rfl (fun _=> ?_) (fun e=>by cases e)
  (refine au (ah (aa rfl (ay rfl rfl) (aA (ax (bw (aJ ?_)))))))
  exact bQ (.inl rfl) rfl (.tmp rfl) trivial trivial
 have b1:decide ((zss.length:Int) < 1)=false:=by simp;omega
 have hpos:0 < zss.length:=by omega
 have hl0:=hl 0 hpos
 have hrow0:(bU zss)[0]? =some (aV (aT zss 0)):=bV hpos
 obtain ⟨n,hn⟩:∃n,(aT zss 0).length=n:=⟨_,rfl⟩
 have hil:(aV (aT zss 0)).length=n:=by rw [bD];exact hn
 have hl0':(aT zss 0).length≤1048576:=hl0
 rw [hn] at hl0'
 by_cases c2:5 < zss.length
 ·rw [eO (fun h=>by have:=h.n5;omega)]
  have b2:decide ((zss.length:Int) > 5)=true:=by simp;omega
  (refine au (ah (aa rfl (du rfl rfl rfl rfl) (aa rfl (ay rfl rfl) (aA (ax (au (ah ?_)))))));apply aa rfl;(exact aB (d:=0) rfl rfl rfl ae);apply aa rfl;exact aN rfl ae rfl rfl rfl rfl;apply aa rfl;exact bF rfl rfl rfl ae;refine aa rfl (ay rfl rfl) (aA (ax (au (au (ah (aa rfl (an rfl rfl) (aa rfl (bd rfl rfl rfl rfl) (aa rfl (an rfl rfl) ?_)))))))))
  refine dA 13 rfl (fun h1=>by rw [b1] at h1;cases h1) (fun h1=> ?_)
  (apply aO rfl rfl rfl;exact an rfl rfl;apply aO rfl rfl rfl;exact bd rfl rfl rfl rfl;refine aa rfl (cj rfl rfl rfl) (aa rfl (an rfl rfl) ?_))
  refine dA 17 rfl (fun h1=> ?_) (fun h1=>by rw [b2] at h1;cases h1)
  (apply aR rfl rfl rfl rfl rfl;apply aR rfl rfl rfl rfl rfl;apply aR rfl rfl rfl rfl rfl;apply aR rfl rfl rfl rfl rfl;apply aR rfl rfl rfl rfl rfl;apply aR rfl rfl rfl rfl rfl;refine aa rfl (cF rfl rfl rfl) (aa rfl (an rfl rfl) ?_);apply aR rfl rfl rfl rfl rfl;apply aR rfl rfl rfl rfl rfl;apply aR rfl rfl rfl rfl rfl;apply aR rfl rfl rfl rfl rfl;apply aR rfl rfl rfl rfl rfl;apply aR rfl rfl rfl rfl rfl;refine aa rfl (cF rfl rfl rfl) (aA (ax ?_)))
  refine bf rfl (fun _=> ?_) (fun e=>by cases e)
  (refine au (ah (aa rfl (ay rfl rfl) (aA (ax (bw (aJ ?_)))))))
  exact bQ (.inl rfl) rfl (.tmp rfl) trivial trivial
 have b2:decide ((zss.length:Int) > 5)=false:=by simp;omega
 by_cases c3:n < 2
 ·rw [eO (fun h=>by have:=h.f2;omega)]
  have b3:decide ((n:Int) < 2)=true:=by simp;omega
  (refine au (ah (aa rfl (du rfl rfl rfl rfl) (aa rfl (ay rfl rfl) (aA (ax (au (ah ?_)))))));apply aa rfl;(exact aB (d:=0) rfl rfl rfl ae);apply aa rfl;exact aN rfl ae rfl rfl rfl rfl;apply aa rfl;exact bF rfl rfl rfl ae;refine aa rfl (ay rfl rfl) (aA (ax (au (au (ah (aa rfl (an rfl rfl) (aa rfl (bd rfl rfl rfl rfl) (aa rfl (an rfl rfl) ?_)))))))))
  refine dA 13 rfl (fun h1=>by rw [b1] at h1;cases h1) (fun h1=> ?_)
  (apply aO rfl rfl rfl;exact an rfl rfl;apply aO rfl rfl rfl;exact bd rfl rfl rfl rfl;refine aa rfl (cj rfl rfl rfl) (aa rfl (an rfl rfl) ?_))
  refine dA 17 rfl (fun h1=>by rw [b2] at h1;cases h1) (fun h1=> ?_)
  (apply aO rfl rfl rfl;(exact aB (d:=0) rfl rfl rfl ae);apply aO rfl rfl rfl;exact aN rfl ae rfl rfl rfl rfl;apply aO rfl rfl rfl;(first | exact aP (j:=0) rfl rfl rfl rfl rfl ae rfl hpos (Nat.le_of_eq hlen.symm) | exact aM rfl ae rfl rfl rfl hrow0 hil);apply aO rfl rfl rfl;(first | exact aP (j:=0) rfl rfl rfl rfl rfl ae rfl hpos (Nat.le_of_eq hlen.symm) | exact aM rfl ae rfl rfl rfl hrow0 hil);apply aO rfl rfl rfl;exact bF rfl rfl rfl ae;apply aO rfl rfl rfl;exact bd rfl rfl rfl rfl;refine aa rfl (cj rfl rfl rfl) (aa rfl (an rfl rfl) ?_))
  refine dA 25 rfl (fun h1=> ?_) (fun h1=>by rw [b3] at h1;cases h1)
  (apply aR rfl rfl rfl rfl rfl;apply aR rfl rfl rfl rfl rfl;apply aR rfl rfl rfl rfl rfl;apply aR rfl rfl rfl rfl rfl;apply aR rfl rfl rfl rfl rfl;apply aR rfl rfl rfl rfl rfl;refine aa rfl (cF rfl rfl rfl) (aA (ax ?_)))
  refine bf rfl (fun _=> ?_) (fun e=>by cases e)
  (refine au (ah (aa rfl (ay rfl rfl) (aA (ax (bw (aJ ?_)))))))
  exact bQ (.inl rfl) rfl (.tmp rfl) trivial trivial
 have b3:decide ((n:Int) < 2)=false:=by simp;omega
 (refine au (ah (aa rfl (du rfl rfl rfl rfl) (aa rfl (ay rfl rfl) (aA (ax (au (ah ?_)))))));apply aa rfl;(exact aB (d:=0) rfl rfl rfl ae);apply aa rfl;exact aN rfl ae rfl rfl rfl rfl;apply aa rfl;exact bF rfl rfl rfl ae;refine aa rfl (ay rfl rfl) (aA (ax (au (au (ah (aa rfl (an rfl rfl) (aa rfl (bd rfl rfl rfl rfl) (aa rfl (an rfl rfl) ?_)))))))))
 refine dA 13 rfl (fun h1=>by rw [b1] at h1;cases h1) (fun h1=> ?_)
 (apply aO rfl rfl rfl;exact an rfl rfl;apply aO rfl rfl rfl;exact bd rfl rfl rfl rfl;refine aa rfl (cj rfl rfl rfl) (aa rfl (an rfl rfl) ?_))
 refine dA 17 rfl (fun h1=>by rw [b2] at h1;cases h1) (fun h1=> ?_)
 (apply aO rfl rfl rfl;(exact aB (d:=0) rfl rfl rfl ae);apply aO rfl rfl rfl;exact aN rfl ae rfl rfl rfl rfl;apply aO rfl rfl rfl;(first | exact aP (j:=0) rfl rfl rfl rfl rfl ae rfl hpos (Nat.le_of_eq hlen.symm) | exact aM rfl ae rfl rfl rfl hrow0 hil);apply aO rfl rfl rfl;(first | exact aP (j:=0) rfl rfl rfl rfl rfl ae rfl hpos (Nat.le_of_eq hlen.symm) | exact aM rfl ae rfl rfl rfl hrow0 hil);apply aO rfl rfl rfl;exact bF rfl rfl rfl ae;apply aO rfl rfl rfl;exact bd rfl rfl rfl rfl;refine aa rfl (cj rfl rfl rfl) (aa rfl (an rfl rfl) ?_))
 refine dA 25 rfl (fun h1=>by rw [b3] at h1;cases h1) (fun h1=> ?_)
 (apply aO rfl rfl rfl;(exact aB (d:=0) rfl rfl rfl ae);apply aO rfl rfl rfl;exact aN rfl ae rfl rfl rfl rfl;apply aO rfl rfl rfl;(first | exact aP (j:=0) rfl rfl rfl rfl rfl ae rfl hpos (Nat.le_of_eq hlen.symm) | exact aM rfl ae rfl rfl rfl hrow0 hil);apply aO rfl rfl rfl;(first | exact aP (j:=0) rfl rfl rfl rfl rfl ae rfl hpos (Nat.le_of_eq hlen.symm) | exact aM rfl ae rfl rfl rfl hrow0 hil);apply aO rfl rfl rfl;exact bF rfl rfl rfl ae;apply aO rfl rfl rfl;exact bd rfl rfl rfl rfl;refine aa rfl (cj rfl rfl rfl) (aA (ax ?_)))
 refine bY rfl (fun c4=> ?_) (fun c4=> ?_)
 ·rw [eO (fun h=>by have:=h.f4;omega)]
  (refine au (ah (aa rfl (ay rfl rfl) (aA (ax (bw (aJ ?_)))))))
  exact bQ (.inl rfl) rfl (.tmp rfl) trivial trivial
 (refine aU (ax (au (au (ah (aa rfl (ay rfl rfl) (aA (ax (aQ ?_)))))))))
 refine bR (fun i:Nat=>St.of [(1,o1 (.ptr 1 0)),(3,vv (I6 zss.length)),(4,vv (I6 i))] [(1003,bh zss),(1,Fq zss.length)]) (fun i=>i≤zss.length∧Rows zss n i) (fun i=>zss.length - i) 0 ⟨Nat.zero_le _,fun j hj=>absurd hj ab⟩ (Wk.of ⟨rfl,rfl,rfl,aq⟩ ⟨rfl,rfl,aq⟩ trivial) ?_
 rintro i ⟨hi,hrows⟩
 (refine au (au (ah (aa rfl (an rfl rfl) (aa rfl (an rfl rfl) (aa rfl (bd rfl rfl rfl rfl) (aA (ax ?_))))))))
 refine bY rfl (fun hlt=> ?_) (fun hlt=> ?_)
 ·have hiz:i < zss.length:=by omega
  have hrowi:(bU zss)[i]? =some (aV (aT zss i)):=bV hiz
  have hli:=hl i hiz
  have hP:=C7 zss i hiz hli
  obtain ⟨m,hm⟩:∃m,(aT zss i).length=m:=⟨_,rfl⟩
  have hilm:(aV (aT zss i)).length=m:=by rw [bD];exact hm
  rw [hm] at hP
  (refine aU ?_;refine ax ?_;refine au ?_;refine aQ ?_;refine au ?_)
  by_cases e1:(m:Int)=n
  ·have e1':m=n:=by omega
   cases hp:isPerm (aT zss i) with
   | false=>
    rw [hp] at hP
    apply gA 30 [] [[], [0], [], [0,1,2], [0,1,2,3], [0,1,2,3,4], [], [6], [6,7], [6,7,8], [6,7,8,9], [0,1,2,3,4,5,6,7,8,9,10], [0,1,2,3,4,5,6,7,8,9,10,11], [0,1,2,3,4,5,6,7,8,9,10,11,12], [0,1,2,3,4,5,6,7,8,9,10,11,12,13], [0,1,2,3,4,5,6,7,8,9,10,11,12], [0,1,2,3,4,5,6,7,8,9,10,11,12,13,14,15], [0,1,2,3,4,5,6,7,8,9,10,11,12,13,14,15,16], [0,1,2,3,4,5,6,7,8,9,10,11,12,13,14,15,16,17], [0,1,2,3,4,5,6,7,8,9,10,11,12,13,14,15,16,17,18], [0,1,2,3,4,5,6,7,8,9,10,11,12,13,14,15,16,17,18,19], [0,1,2,3,4,5,6,7,8,9,10,11,12,13,14,15,16,17,18,19,20], [0,1,2,3,4,5,6,7,8,9,10,11,12,13,14,15,16,17,18,19,20,21], [0,1,2,3,4,5,6,7,8,9,10,11,12,13,14,15,16,17,18,19,20,21,22], [0,1,2,3,4,5,6,7,8,9,10,11,12,13,14,15,16,17,18,19,20,21], [0,1,2,3,4,5,6,7,8,9,10,11,12,13,14,15,16,17,18,19,20,21,22,23,24], [0,1,2,3,4,5,6,7,8,9,10,11,12,13,14,15,16,17,18,19,20,21,22,23,24,25], [0,1,2,3,4,5,6,7,8,9,10,11,12,13,14,15,16,17,18,19,20,21,22,23,24,25,26], [0,1,2,3,4,5,6,7,8,9,10,11,12,13,14,15,16,17,18,19,20,21,22,23,24,25,26,27], [0,1,2,3,4,5,6,7,8,9,10,11,12,13,14,15,16,17,18,19,20,21,22,23,24,25,26,27,28]] [38,39,40,41,42,43,44,45,46,47,48,49,50,51,52,53,54,55,56,57,58,59,60,61,62,63,64,65,66,67] [] (by kernel_rfl) (by kernel_rfl)
    ·(apply aH rfl;(intro S1 hS;exact aB (d:=0) rfl (hS.op rfl) (hS.ch _ _ rfl) ae))
     (apply aH rfl;(intro S1 hS;exact aN rfl ae (hS.op rfl) (hS.ch _ _ rfl) rfl rfl))
     (apply aH rfl;(intro S1 hS;exact an rfl (hS.op rfl)))
     (apply aH rfl;(intro S1 hS;exact aP (j:=i) rfl (hS.op rfl) (hS.op rfl) (hS.ch _ _ rfl) rfl ae rfl hiz (Nat.le_of_eq hlen.symm)))
     (apply aH rfl;(intro S1 hS;exact aM rfl ae (hS.op rfl) (hS.ch _ _ rfl) rfl hrowi hilm))
     (apply aH rfl;(intro S1 hS;exact bF rfl (hS.op rfl) rfl ae))
     (apply aH rfl;(intro S1 hS;exact aB (d:=0) rfl (hS.op rfl) (hS.ch _ _ rfl) ae))
     (apply aH rfl;(intro S1 hS;exact aN rfl ae (hS.op rfl) (hS.ch _ _ rfl) rfl rfl))
     (apply aH rfl;(intro S1 hS;exact aP (j:=0) rfl (hS.op rfl) (hS.op rfl) (hS.ch _ _ rfl) rfl ae rfl hpos (Nat.le_of_eq hlen.symm)))
     (apply aH rfl;(intro S1 hS;exact aM rfl ae (hS.op rfl) (hS.ch _ _ rfl) rfl hrow0 hil))
     (apply aH rfl;(intro S1 hS;exact bF rfl (hS.op rfl) rfl ae))
     (apply aH rfl;(intro S1 hS;exact bd rfl (hS.op rfl) (hS.op rfl) (vr e1)))
     (apply aH rfl;(intro S1 hS;exact an rfl (hS.op rfl)))
     (apply bC rfl rfl rfl;(intro S1 hS;exact aB (d:=0) rfl (hS.op rfl) (hS.ch _ _ rfl) ae))
     (apply bC rfl rfl rfl;(intro S1 hS;exact aN rfl ae (hS.op rfl) (hS.ch _ _ rfl) rfl rfl))
     (apply bC rfl rfl rfl;(intro S1 hS;exact an rfl (hS.op rfl)))
     (apply bC rfl rfl rfl;(intro S1 hS;exact aP (j:=i) rfl (hS.op rfl) (hS.op rfl) (hS.ch _ _ rfl) rfl ae rfl hiz (Nat.le_of_eq hlen.symm)))
     (apply bC rfl rfl rfl;(intro S1 hS;exact aM rfl ae (hS.op rfl) (hS.ch _ _ rfl) rfl hrowi hilm))
     (apply bC rfl rfl rfl;(intro S1 hS;apply aI 67;exact aL hP ae rfl (dG hS rfl) ⟨rfl,aq⟩ (cL hS ⟨⟨_,rfl, .inl rfl⟩,aq⟩) rfl rfl))
     (apply bC rfl rfl rfl;(intro S1 hS;exact cP rfl (hS.op rfl)))
     (apply aH rfl;(intro S1 hS;exact cj rfl (hS.op rfl) (hS.op rfl)))
     (apply aH rfl;(intro S1 hS;exact an rfl (hS.op rfl)))
     apply bK rfl rfl rfl rfl rfl
     apply bK rfl rfl rfl rfl rfl
     apply bK rfl rfl rfl rfl rfl
     apply bK rfl rfl rfl rfl rfl
     apply bK rfl rfl rfl rfl rfl
     apply bK rfl rfl rfl rfl rfl
     apply bK rfl rfl rfl rfl rfl
     (apply aH rfl;(intro S1 hS;exact cF rfl (hS.op rfl) (hS.op rfl)))
     exact fR.nil
    ·rfl
    ((refine bl ae ?_;skip))
    (refine ax ?_)
    refine bf rfl (fun _=> ?_) (fun e=>by cases e)
    rw [eO (fun h=>by have:=h.perm i hiz;rw [hp] at this;cases this)]
    (refine au (ah (aa rfl (ay rfl rfl) (aA (ax (bw (aX (aJ (aJ (aX (aJ ?_)))))))))))
    exact bQ (.inl rfl) rfl (.tmp rfl) trivial trivial
   | true=>
    rw [hp] at hP
    have hF:=Ds zss i hiz hli hp
    rw [hm] at hF
    apply gA 30 [] [[], [0], [], [0,1,2], [0,1,2,3], [0,1,2,3,4], [], [6], [6,7], [6,7,8], [6,7,8,9], [0,1,2,3,4,5,6,7,8,9,10], [0,1,2,3,4,5,6,7,8,9,10,11], [0,1,2,3,4,5,6,7,8,9,10,11,12], [0,1,2,3,4,5,6,7,8,9,10,11,12,13], [0,1,2,3,4,5,6,7,8,9,10,11,12], [0,1,2,3,4,5,6,7,8,9,10,11,12,13,14,15], [0,1,2,3,4,5,6,7,8,9,10,11,12,13,14,15,16], [0,1,2,3,4,5,6,7,8,9,10,11,12,13,14,15,16,17], [0,1,2,3,4,5,6,7,8,9,10,11,12,13,14,15,16,17,18], [0,1,2,3,4,5,6,7,8,9,10,11,12,13,14,15,16,17,18,19], [0,1,2,3,4,5,6,7,8,9,10,11,12,13,14,15,16,17,18,19,20], [0,1,2,3,4,5,6,7,8,9,10,11,12,13,14,15,16,17,18,19,20,21], [0,1,2,3,4,5,6,7,8,9,10,11,12,13,14,15,16,17,18,19,20,21,22], [0,1,2,3,4,5,6,7,8,9,10,11,12,13,14,15,16,17,18,19,20,21], [0,1,2,3,4,5,6,7,8,9,10,11,12,13,14,15,16,17,18,19,20,21,22,23,24], [0,1,2,3,4,5,6,7,8,9,10,11,12,13,14,15,16,17,18,19,20,21,22,23,24,25], [0,1,2,3,4,5,6,7,8,9,10,11,12,13,14,15,16,17,18,19,20,21,22,23,24,25,26], [0,1,2,3,4,5,6,7,8,9,10,11,12,13,14,15,16,17,18,19,20,21,22,23,24,25,26,27], [0,1,2,3,4,5,6,7,8,9,10,11,12,13,14,15,16,17,18,19,20,21,22,23,24,25,26,27,28]] [38,39,40,41,42,43,44,45,46,47,48,49,50,51,52,53,54,55,56,57,58,59,60,61,62,63,64,65,66,67] [] (by kernel_rfl) (by kernel_rfl)
    ·(apply aH rfl;(intro S1 hS;exact aB (d:=0) rfl (hS.op rfl) (hS.ch _ _ rfl) ae))
     (apply aH rfl;(intro S1 hS;exact aN rfl ae (hS.op rfl) (hS.ch _ _ rfl) rfl rfl))
     (apply aH rfl;(intro S1 hS;exact an rfl (hS.op rfl)))
     (apply aH rfl;(intro S1 hS;exact aP (j:=i) rfl (hS.op rfl) (hS.op rfl) (hS.ch _ _ rfl) rfl ae rfl hiz (Nat.le_of_eq hlen.symm)))
     (apply aH rfl;(intro S1 hS;exact aM rfl ae (hS.op rfl) (hS.ch _ _ rfl) rfl hrowi hilm))
     (apply aH rfl;(intro S1 hS;exact bF rfl (hS.op rfl) rfl ae))
     (apply aH rfl;(intro S1 hS;exact aB (d:=0) rfl (hS.op rfl) (hS.ch _ _ rfl) ae))
     (apply aH rfl;(intro S1 hS;exact aN rfl ae (hS.op rfl) (hS.ch _ _ rfl) rfl rfl))
     (apply aH rfl;(intro S1 hS;exact aP (j:=0) rfl (hS.op rfl) (hS.op rfl) (hS.ch _ _ rfl) rfl ae rfl hpos (Nat.le_of_eq hlen.symm)))
     (apply aH rfl;(intro S1 hS;exact aM rfl ae (hS.op rfl) (hS.ch _ _ rfl) rfl hrow0 hil))
     (apply aH rfl;(intro S1 hS;exact bF rfl (hS.op rfl) rfl ae))
     (apply aH rfl;(intro S1 hS;exact bd rfl (hS.op rfl) (hS.op rfl) (vr e1)))
     (apply aH rfl;(intro S1 hS;exact an rfl (hS.op rfl)))
     (apply bC rfl rfl rfl;(intro S1 hS;exact aB (d:=0) rfl (hS.op rfl) (hS.ch _ _ rfl) ae))
     (apply bC rfl rfl rfl;(intro S1 hS;exact aN rfl ae (hS.op rfl) (hS.ch _ _ rfl) rfl rfl))
     (apply bC rfl rfl rfl;(intro S1 hS;exact an rfl (hS.op rfl)))
     (apply bC rfl rfl rfl;(intro S1 hS;exact aP (j:=i) rfl (hS.op rfl) (hS.op rfl) (hS.ch _ _ rfl) rfl ae rfl hiz (Nat.le_of_eq hlen.symm)))
     (apply bC rfl rfl rfl;(intro S1 hS;exact aM rfl ae (hS.op rfl) (hS.ch _ _ rfl) rfl hrowi hilm))
     (apply bC rfl rfl rfl;(intro S1 hS;apply aI 67;exact aL hP ae rfl (dG hS rfl) ⟨rfl,aq⟩ (cL hS ⟨⟨_,rfl, .inl rfl⟩,aq⟩) rfl rfl))
     (apply bC rfl rfl rfl;(intro S1 hS;exact cP rfl (hS.op rfl)))
     (apply aH rfl;(intro S1 hS;exact cj rfl (hS.op rfl) (hS.op rfl)))
     (apply aH rfl;(intro S1 hS;exact an rfl (hS.op rfl)))
     (apply bC rfl rfl rfl;(intro S1 hS;exact aB (d:=0) rfl (hS.op rfl) (hS.ch _ _ rfl) ae))
     (apply bC rfl rfl rfl;(intro S1 hS;exact aN rfl ae (hS.op rfl) (hS.ch _ _ rfl) rfl rfl))
     (apply bC rfl rfl rfl;(intro S1 hS;exact an rfl (hS.op rfl)))
     (apply bC rfl rfl rfl;(intro S1 hS;exact aP (j:=i) rfl (hS.op rfl) (hS.op rfl) (hS.ch _ _ rfl) rfl ae rfl hiz (Nat.le_of_eq hlen.symm)))
     (apply bC rfl rfl rfl;(intro S1 hS;exact aM rfl ae (hS.op rfl) (hS.ch _ _ rfl) rfl hrowi hilm))
     (apply bC rfl rfl rfl;(intro S1 hS;apply aI 68;exact aL hF ae rfl (dG hS rfl) ⟨rfl,aq⟩ (cL hS ⟨⟨_,rfl, .inl rfl⟩,aq⟩) rfl rfl))
     (apply bC rfl rfl rfl;(intro S1 hS;exact cP rfl (hS.op rfl)))
     (apply aH rfl;(intro S1 hS;exact cj rfl (hS.op rfl) (hS.op rfl)))
     exact fR.nil
    ·rfl
    ((refine bl ae ?_;skip))
    (refine ax ?_)
    refine bf rfl (fun hf=> ?_) (fun hf=> ?_)
    ·have hf:gf (aT zss i)=false:=by simpa using hf
     rw [eO (fun h=>by have:=h.free i hiz;rw [hf] at this;cases this)]
     (refine au (ah (aa rfl (ay rfl rfl) (aA (ax (bw (aX (aJ (aJ (aX (aJ ?_)))))))))))
     exact bQ (.inl rfl) rfl (.tmp rfl) trivial trivial
    ·have hf:gf (aT zss i)=true:=by simpa using hf
     (refine aU (bp (ax (ah (aa rfl (an rfl rfl) ?_))));apply aa rfl;exact bG rfl rfl rfl bL;refine aa rfl (ay rfl rfl) (aA ?_))
     exact bu (i + 1) ⟨hiz,fun j hj=>by
      by_cases e:j=i
      ·subst e;exact ⟨hm.trans e1',hp,hf⟩
      ·exact hrows j ab⟩ ab (Wk.of ⟨rfl,rfl,rfl,aq⟩ ⟨rfl,rfl,aq⟩ trivial)
  ·apply gA 30 [] [[], [0], [], [0,1,2], [0,1,2,3], [0,1,2,3,4], [], [6], [6,7], [6,7,8], [6,7,8,9], [0,1,2,3,4,5,6,7,8,9,10], [0,1,2,3,4,5,6,7,8,9,10,11], [0,1,2,3,4,5,6,7,8,9,10,11,12], [0,1,2,3,4,5,6,7,8,9,10,11,12,13], [0,1,2,3,4,5,6,7,8,9,10,11,12], [0,1,2,3,4,5,6,7,8,9,10,11,12,13,14,15], [0,1,2,3,4,5,6,7,8,9,10,11,12,13,14,15,16], [0,1,2,3,4,5,6,7,8,9,10,11,12,13,14,15,16,17], [0,1,2,3,4,5,6,7,8,9,10,11,12,13,14,15,16,17,18], [0,1,2,3,4,5,6,7,8,9,10,11,12,13,14,15,16,17,18,19], [0,1,2,3,4,5,6,7,8,9,10,11,12,13,14,15,16,17,18,19,20], [0,1,2,3,4,5,6,7,8,9,10,11,12,13,14,15,16,17,18,19,20,21], [0,1,2,3,4,5,6,7,8,9,10,11,12,13,14,15,16,17,18,19,20,21,22], [0,1,2,3,4,5,6,7,8,9,10,11,12,13,14,15,16,17,18,19,20,21], [0,1,2,3,4,5,6,7,8,9,10,11,12,13,14,15,16,17,18,19,20,21,22,23,24], [0,1,2,3,4,5,6,7,8,9,10,11,12,13,14,15,16,17,18,19,20,21,22,23,24,25], [0,1,2,3,4,5,6,7,8,9,10,11,12,13,14,15,16,17,18,19,20,21,22,23,24,25,26], [0,1,2,3,4,5,6,7,8,9,10,11,12,13,14,15,16,17,18,19,20,21,22,23,24,25,26,27], [0,1,2,3,4,5,6,7,8,9,10,11,12,13,14,15,16,17,18,19,20,21,22,23,24,25,26,27,28]] [38,39,40,41,42,43,44,45,46,47,48,49,50,51,52,53,54,55,56,57,58,59,60,61,62,63,64,65,66,67] [] (by kernel_rfl) (by kernel_rfl)
   ·(apply aH rfl;(intro S1 hS;exact aB (d:=0) rfl (hS.op rfl) (hS.ch _ _ rfl) ae))
    (apply aH rfl;(intro S1 hS;exact aN rfl ae (hS.op rfl) (hS.ch _ _ rfl) rfl rfl))
    (apply aH rfl;(intro S1 hS;exact an rfl (hS.op rfl)))
    (apply aH rfl;(intro S1 hS;exact aP (j:=i) rfl (hS.op rfl) (hS.op rfl) (hS.ch _ _ rfl) rfl ae rfl hiz (Nat.le_of_eq hlen.symm)))
    (apply aH rfl;(intro S1 hS;exact aM rfl ae (hS.op rfl) (hS.ch _ _ rfl) rfl hrowi hilm))
    (apply aH rfl;(intro S1 hS;exact bF rfl (hS.op rfl) rfl ae))
    (apply aH rfl;(intro S1 hS;exact aB (d:=0) rfl (hS.op rfl) (hS.ch _ _ rfl) ae))
    (apply aH rfl;(intro S1 hS;exact aN rfl ae (hS.op rfl) (hS.ch _ _ rfl) rfl rfl))
    (apply aH rfl;(intro S1 hS;exact aP (j:=0) rfl (hS.op rfl) (hS.op rfl) (hS.ch _ _ rfl) rfl ae rfl hpos (Nat.le_of_eq hlen.symm)))
    (apply aH rfl;(intro S1 hS;exact aM rfl ae (hS.op rfl) (hS.ch _ _ rfl) rfl hrow0 hil))
    (apply aH rfl;(intro S1 hS;exact bF rfl (hS.op rfl) rfl ae))
    (apply aH rfl;(intro S1 hS;exact bd rfl (hS.op rfl) (hS.op rfl) (DD e1)))
    (apply aH rfl;(intro S1 hS;exact an rfl (hS.op rfl)))
    apply bK rfl rfl rfl rfl rfl
    apply bK rfl rfl rfl rfl rfl
    apply bK rfl rfl rfl rfl rfl
    apply bK rfl rfl rfl rfl rfl
    apply bK rfl rfl rfl rfl rfl
    apply bK rfl rfl rfl rfl rfl
    apply bK rfl rfl rfl rfl rfl
    (apply aH rfl;(intro S1 hS;exact cF rfl (hS.op rfl) (hS.op rfl)))
    (apply aH rfl;(intro S1 hS;exact an rfl (hS.op rfl)))
    apply bK rfl rfl rfl rfl rfl
    apply bK rfl rfl rfl rfl rfl
    apply bK rfl rfl rfl rfl rfl
    apply bK rfl rfl rfl rfl rfl
    apply bK rfl rfl rfl rfl rfl
    apply bK rfl rfl rfl rfl rfl
    apply bK rfl rfl rfl rfl rfl
    (apply aH rfl;(intro S1 hS;exact cF rfl (hS.op rfl) (hS.op rfl)))
    exact fR.nil
   ·rfl
   ((refine bl ae ?_;skip))
   (refine ax ?_)
   refine bf rfl (fun _=> ?_) (fun e=>by cases e)
   rw [eO (fun h=>by have:=h.len i hiz;omega)]
   (refine au (ah (aa rfl (ay rfl rfl) (aA (ax (bw (aX (aJ (aJ (aX (aJ ?_)))))))))))
   exact bQ (.inl rfl) rfl (.tmp rfl) trivial trivial
 obtain rfl:i=zss.length:=by omega
 have hrn:Rows zss n zss.length:=hrows
 have hT:=m5 hrn
 have hB:=oS hrn
 (refine bI (aF (aF (bt (ax (au (au (ah (aa rfl (ay rfl rfl) (aA (ax (aQ ?_))))))))))))
 refine bR (fun i:Nat=>St.of [(1,o1 (.ptr 1 0)),(3,vv (I6 zss.length)),(5,vv (I6 i))] [(1003,bh zss),(1,Fq zss.length)]) (fun i=>i≤zss.length∧∀i' k,i' < i→i' + 2≤k→k < zss.length→∀f,f < n→fu zss i' k f) (fun i=>zss.length - i) 0 ⟨Nat.zero_le _,fun j k hj=>absurd hj ab⟩ (Wk.of ⟨rfl,rfl,rfl,aq⟩ ⟨rfl,rfl,aq⟩ trivial) ?_
 clear hi hrows hlt
 rintro i ⟨hi,hci⟩
 (refine au (au (ah (aa rfl (an rfl rfl) (aa rfl (an rfl rfl) (aa rfl (bd rfl rfl rfl rfl) (aA (ax ?_))))))))
 refine bY rfl (fun hlt=> ?_) (fun hlt=> ?_)
 ·have hiz:i < zss.length:=by omega
  have hrowi:(bU zss)[i]? =some (aV (aT zss i)):=bV hiz
  have hilm:(aV (aT zss i)).length=n:=by rw [bD];exact (hrn i hiz).1
  have hi2:((i:Int) + 2)=((i + 2:Nat):Int):=by omega
  (refine aU (ax (au (aQ (au (ah (aa rfl (an rfl rfl) ?_))))));apply aa rfl;exact bG rfl rfl rfl bL;refine aa rfl (ay rfl rfl) (aA (ax (aQ ?_))))
  refine bR (fun k:Nat=>St.of [(1,o1 (.ptr 1 0)),(3,vv (I6 zss.length)),(5,vv (I6 i)),(6,vv (I6 k))] [(1003,bh zss),(1,Fq zss.length)]) (fun k=>i + 2≤k∧∀k',i + 2≤k'→k' < k→k' < zss.length→∀f,f < n→fu zss i k' f) (fun k=>zss.length + 2 - k) (i + 2) ⟨Nat.le_refl _,fun k' h1 h2=>absurd h1 ab⟩ (Wk.of ⟨rfl,rfl,rfl,congrArg (fun z=>some (vv (I6 z))) hi2,aq⟩ ⟨rfl,rfl,aq⟩ trivial) ?_
  rintro k ⟨hk,hck⟩
  (refine au (au (ah (aa rfl (an rfl rfl) (aa rfl (an rfl rfl) (aa rfl (bd rfl rfl rfl rfl) (aA (ax ?_))))))))
  refine bY rfl (fun hlk=> ?_) (fun hlk=> ?_)
  ·have hkz:k < zss.length:=by omega
   have hrowk:(bU zss)[k]? =some (aV (aT zss k)):=bV hkz
   have hilk:(aV (aT zss k)).length=n:=by rw [bD];exact (hrn k hkz).1
   (refine aU (ax (au (aQ (au (ah (aa rfl (ay rfl rfl) (aA (ax (aQ ?_))))))))))
   refine bR (fun f:Nat=>St.of [(1,o1 (.ptr 1 0)),(3,vv (I6 zss.length)),(5,vv (I6 i)),(6,vv (I6 k)),(7,vv (I6 f))] [(1003,bh zss),(1,Fq zss.length)]) (fun f=>f≤n∧∀f',f' < f→fu zss i k f') (fun f=>n - f) 0 ⟨Nat.zero_le _,fun f' h1=>absurd h1 ab⟩ (Wk.of ⟨rfl,rfl,rfl,rfl,rfl,aq⟩ ⟨rfl,rfl,aq⟩ trivial) ?_
   rintro f ⟨hf,hcf⟩
   (refine au (au (ah (aa rfl (an rfl rfl) ?_)));apply aa rfl;(exact aB (d:=0) rfl rfl rfl ae);apply aa rfl;exact aN rfl ae rfl rfl rfl rfl;apply aa rfl;(first | exact aP (j:=0) rfl rfl rfl rfl rfl ae rfl hpos (Nat.le_of_eq hlen.symm) | exact aM rfl ae rfl rfl rfl hrow0 hil);apply aa rfl;(first | exact aP (j:=0) rfl rfl rfl rfl rfl ae rfl hpos (Nat.le_of_eq hlen.symm) | exact aM rfl ae rfl rfl rfl hrow0 hil);apply aa rfl;exact bF rfl rfl rfl ae;refine aa rfl (bd rfl rfl rfl rfl) (aA (ax ?_)))
   refine bY rfl (fun hlf=> ?_) (fun hlf=> ?_)
   ·have hfn:f < n:=by omega
    have hd1:=dj hT hfn (g:=i) hiz
    have hd2:=dj hT hfn (g:=k) hkz
    have hx1:=dj hT hd1.1 (g:=k) hkz
    have hx2:=dj hT hd2.1 (g:=i) hiz
    have hcm:fu zss i k f↔dy zss (dy zss f i) k=dy zss (dy zss f k) i∧dy zss f i≠dy zss f k:=Iff.rfl
    generalize dy zss (dy zss f i) k=x1 at *
    generalize dy zss (dy zss f k) i=x2 at *
    generalize dy zss f i=d1 at *
    generalize dy zss f k=d2 at *
    have g1:(aV (aT zss i))[f]? =some (I6 (d1:Int)):=by rw [ck (by rw [(hrn i hiz).1];exact hfn),hd1.2]
    have g2:(aV (aT zss k))[f]? =some (I6 (d2:Int)):=by rw [ck (by rw [(hrn k hkz).1];exact hfn),hd2.2]
    have g3:(aV (aT zss k))[d1]? =some (I6 (x1:Int)):=by rw [ck (by rw [(hrn k hkz).1];exact hd1.1),hx1.2]
    have g4:(aV (aT zss i))[d2]? =some (I6 (x2:Int)):=by rw [ck (by rw [(hrn i hiz).1];exact hd2.1),hx2.2]
    have hni:n≤(aV (aT zss i)).length:=Nat.le_of_eq hilm.symm
    have hnk:n≤(aV (aT zss k)).length:=Nat.le_of_eq hilk.symm
    (refine aU ?_;refine ax ?_;refine au ?_;refine aQ ?_;refine au ?_)
    by_cases e1:(x1:Int)=x2
    ·apply gA 50 [] [[], [0], [], [0,1,2], [0,1,2,3], [], [5], [], [5,6,7], [5,6,7,8], [], [5,6,7,8,9,10], [5,6,7,8,9,10,11], [0,1,2,3,4,5,6,7,8,9,10,11,12], [0,1,2,3,4,5,6,7,8,9,10,11,12,13], [], [15], [], [15,16,17], [15,16,17,18], [], [20], [], [20,21,22], [20,21,22,23], [], [20,21,22,23,24,25], [20,21,22,23,24,25,26], [15,16,17,18,19,20,21,22,23,24,25,26,27], [15,16,17,18,19,20,21,22,23,24,25,26,27,28], [0,1,2,3,4,5,6,7,8,9,10,11,12,13,14,15,16,17,18,19,20,21,22,23,24,25,26,27,28,29], [0,1,2,3,4,5,6,7,8,9,10,11,12,13,14,15,16,17,18,19,20,21,22,23,24,25,26,27,28,29,30], [0,1,2,3,4,5,6,7,8,9,10,11,12,13,14,15,16,17,18,19,20,21,22,23,24,25,26,27,28,29,30,31], [0,1,2,3,4,5,6,7,8,9,10,11,12,13,14,15,16,17,18,19,20,21,22,23,24,25,26,27,28,29,30,31,32], [0,1,2,3,4,5,6,7,8,9,10,11,12,13,14,15,16,17,18,19,20,21,22,23,24,25,26,27,28,29,30,31], [0,1,2,3,4,5,6,7,8,9,10,11,12,13,14,15,16,17,18,19,20,21,22,23,24,25,26,27,28,29,30,31,32,33,34], [0,1,2,3,4,5,6,7,8,9,10,11,12,13,14,15,16,17,18,19,20,21,22,23,24,25,26,27,28,29,30,31,32,33,34,35], [0,1,2,3,4,5,6,7,8,9,10,11,12,13,14,15,16,17,18,19,20,21,22,23,24,25,26,27,28,29,30,31], [0,1,2,3,4,5,6,7,8,9,10,11,12,13,14,15,16,17,18,19,20,21,22,23,24,25,26,27,28,29,30,31,32,33,34,35,36,37], [0,1,2,3,4,5,6,7,8,9,10,11,12,13,14,15,16,17,18,19,20,21,22,23,24,25,26,27,28,29,30,31,32,33,34,35,36,37,38], [0,1,2,3,4,5,6,7,8,9,10,11,12,13,14,15,16,17,18,19,20,21,22,23,24,25,26,27,28,29,30,31], [0,1,2,3,4,5,6,7,8,9,10,11,12,13,14,15,16,17,18,19,20,21,22,23,24,25,26,27,28,29,30,31,40], [0,1,2,3,4,5,6,7,8,9,10,11,12,13,14,15,16,17,18,19,20,21,22,23,24,25,26,27,28,29,30,31], [0,1,2,3,4,5,6,7,8,9,10,11,12,13,14,15,16,17,18,19,20,21,22,23,24,25,26,27,28,29,30,31,40,41,42], [0,1,2,3,4,5,6,7,8,9,10,11,12,13,14,15,16,17,18,19,20,21,22,23,24,25,26,27,28,29,30,31,40,41,42,43], [0,1,2,3,4,5,6,7,8,9,10,11,12,13,14,15,16,17,18,19,20,21,22,23,24,25,26,27,28,29,30,31], [0,1,2,3,4,5,6,7,8,9,10,11,12,13,14,15,16,17,18,19,20,21,22,23,24,25,26,27,28,29,30,31,40,41,42,43,44,45], [0,1,2,3,4,5,6,7,8,9,10,11,12,13,14,15,16,17,18,19,20,21,22,23,24,25,26,27,28,29,30,31,40,41,42,43,44,45,46], [0,1,2,3,4,5,6,7,8,9,10,11,12,13,14,15,16,17,18,19,20,21,22,23,24,25,26,27,28,29,30,31,32,33,34,35,36,37,38,39,40,41,42,43,44,45,46,47], [0,1,2,3,4,5,6,7,8,9,10,11,12,13,14,15,16,17,18,19,20,21,22,23,24,25,26,27,28,29,30,31,32,33,34,35,36,37,38,39,40,41,42,43,44,45,46,47,48]] [89,90,91,92,93,94,95,96,97,98,99,100,101,102,103,104,105,106,107,108,109,110,111,112,113,114,115,116,117,118,119,120,121,122,123,124,125,126,127,128,129,130,131,132,133,134,135,136,137,138] [] (by kernel_rfl) (by kernel_rfl)
     ·(apply aH rfl;(intro S1 hS;exact aB (d:=0) rfl (hS.op rfl) (hS.ch _ _ rfl) ae))
      (apply aH rfl;(intro S1 hS;exact aN rfl ae (hS.op rfl) (hS.ch _ _ rfl) rfl rfl))
      (apply aH rfl;(intro S1 hS;exact an rfl (hS.op rfl)))
      (apply aH rfl;(intro S1 hS;exact aP (j:=k) rfl (hS.op rfl) (hS.op rfl) (hS.ch _ _ rfl) rfl ae rfl hkz (Nat.le_of_eq hlen.symm)))
      (apply aH rfl;(intro S1 hS;exact aM rfl ae (hS.op rfl) (hS.ch _ _ rfl) rfl hrowk hilk))
      (apply aH rfl;(intro S1 hS;exact aB (d:=0) rfl (hS.op rfl) (hS.ch _ _ rfl) ae))
      (apply aH rfl;(intro S1 hS;exact aN rfl ae (hS.op rfl) (hS.ch _ _ rfl) rfl rfl))
      (apply aH rfl;(intro S1 hS;exact an rfl (hS.op rfl)))
      (apply aH rfl;(intro S1 hS;exact aP (j:=i) rfl (hS.op rfl) (hS.op rfl) (hS.ch _ _ rfl) rfl ae rfl hiz (Nat.le_of_eq hlen.symm)))
      (apply aH rfl;(intro S1 hS;exact aM rfl ae (hS.op rfl) (hS.ch _ _ rfl) rfl hrowi hilm))
      (apply aH rfl;(intro S1 hS;exact an rfl (hS.op rfl)))
      (apply aH rfl;(intro S1 hS;exact bn (j:=f) rfl (hS.op rfl) (hS.op rfl) (hS.ch _ _ rfl) rfl ae hrowi rfl hfn hni))
      (apply aH rfl;(intro S1 hS;exact br rfl ae (hS.op rfl) (hS.ch _ _ rfl) rfl hrowi g1))
      (apply aH rfl;(intro S1 hS;exact bn (j:=d1) rfl (hS.op rfl) (hS.op rfl) (hS.ch _ _ rfl) rfl ae hrowk rfl hd1.1 hnk))
      (apply aH rfl;(intro S1 hS;exact br rfl ae (hS.op rfl) (hS.ch _ _ rfl) rfl hrowk g3))
      (apply aH rfl;(intro S1 hS;exact aB (d:=0) rfl (hS.op rfl) (hS.ch _ _ rfl) ae))
      (apply aH rfl;(intro S1 hS;exact aN rfl ae (hS.op rfl) (hS.ch _ _ rfl) rfl rfl))
      (apply aH rfl;(intro S1 hS;exact an rfl (hS.op rfl)))
      (apply aH rfl;(intro S1 hS;exact aP (j:=i) rfl (hS.op rfl) (hS.op rfl) (hS.ch _ _ rfl) rfl ae rfl hiz (Nat.le_of_eq hlen.symm)))
      (apply aH rfl;(intro S1 hS;exact aM rfl ae (hS.op rfl) (hS.ch _ _ rfl) rfl hrowi hilm))
      (apply aH rfl;(intro S1 hS;exact aB (d:=0) rfl (hS.op rfl) (hS.ch _ _ rfl) ae))
      (apply aH rfl;(intro S1 hS;exact aN rfl ae (hS.op rfl) (hS.ch _ _ rfl) rfl rfl))
      (apply aH rfl;(intro S1 hS;exact an rfl (hS.op rfl)))
      (apply aH rfl;(intro S1 hS;exact aP (j:=k) rfl (hS.op rfl) (hS.op rfl) (hS.ch _ _ rfl) rfl ae rfl hkz (Nat.le_of_eq hlen.symm)))
      (apply aH rfl;(intro S1 hS;exact aM rfl ae (hS.op rfl) (hS.ch _ _ rfl) rfl hrowk hilk))
      (apply aH rfl;(intro S1 hS;exact an rfl (hS.op rfl)))
      (apply aH rfl;(intro S1 hS;exact bn (j:=f) rfl (hS.op rfl) (hS.op rfl) (hS.ch _ _ rfl) rfl ae hrowk rfl hfn hnk))
      (apply aH rfl;(intro S1 hS;exact br rfl ae (hS.op rfl) (hS.ch _ _ rfl) rfl hrowk g2))
      (apply aH rfl;(intro S1 hS;exact bn (j:=d2) rfl (hS.op rfl) (hS.op rfl) (hS.ch _ _ rfl) rfl ae hrowi rfl hd2.1 hni))
      (apply aH rfl;(intro S1 hS;exact br rfl ae (hS.op rfl) (hS.ch _ _ rfl) rfl hrowi g4))
      (apply aH rfl;(intro S1 hS;exact bd rfl (hS.op rfl) (hS.op rfl) (vr e1)))
      (apply aH rfl;(intro S1 hS;exact an rfl (hS.op rfl)))
      (apply bC rfl rfl rfl;(intro S1 hS;exact aB (d:=0) rfl (hS.op rfl) (hS.ch _ _ rfl) ae))
      (apply bC rfl rfl rfl;(intro S1 hS;exact aN rfl ae (hS.op rfl) (hS.ch _ _ rfl) rfl rfl))
      (apply bC rfl rfl rfl;(intro S1 hS;exact an rfl (hS.op rfl)))
      (apply bC rfl rfl rfl;(intro S1 hS;exact aP (j:=i) rfl (hS.op rfl) (hS.op rfl) (hS.ch _ _ rfl) rfl ae rfl hiz (Nat.le_of_eq hlen.symm)))
      (apply bC rfl rfl rfl;(intro S1 hS;exact aM rfl ae (hS.op rfl) (hS.ch _ _ rfl) rfl hrowi hilm))
      (apply bC rfl rfl rfl;(intro S1 hS;exact an rfl (hS.op rfl)))
      (apply bC rfl rfl rfl;(intro S1 hS;exact bn (j:=f) rfl (hS.op rfl) (hS.op rfl) (hS.ch _ _ rfl) rfl ae hrowi rfl hfn hni))
      (apply bC rfl rfl rfl;(intro S1 hS;exact br rfl ae (hS.op rfl) (hS.ch _ _ rfl) rfl hrowi g1))
      (apply bC rfl rfl rfl;(intro S1 hS;exact aB (d:=0) rfl (hS.op rfl) (hS.ch _ _ rfl) ae))
      (apply bC rfl rfl rfl;(intro S1 hS;exact aN rfl ae (hS.op rfl) (hS.ch _ _ rfl) rfl rfl))
      (apply bC rfl rfl rfl;(intro S1 hS;exact an rfl (hS.op rfl)))
      (apply bC rfl rfl rfl;(intro S1 hS;exact aP (j:=k) rfl (hS.op rfl) (hS.op rfl) (hS.ch _ _ rfl) rfl ae rfl hkz (Nat.le_of_eq hlen.symm)))
      (apply bC rfl rfl rfl;(intro S1 hS;exact aM rfl ae (hS.op rfl) (hS.ch _ _ rfl) rfl hrowk hilk))
      (apply bC rfl rfl rfl;(intro S1 hS;exact an rfl (hS.op rfl)))
      (apply bC rfl rfl rfl;(intro S1 hS;exact bn (j:=f) rfl (hS.op rfl) (hS.op rfl) (hS.ch _ _ rfl) rfl ae hrowk rfl hfn hnk))
      (apply bC rfl rfl rfl;(intro S1 hS;exact br rfl ae (hS.op rfl) (hS.ch _ _ rfl) rfl hrowk g2))
      (apply bC rfl rfl rfl;(intro S1 hS;exact bd rfl (hS.op rfl) (hS.op rfl) rfl))
      (apply aH rfl;(intro S1 hS;exact cj rfl (hS.op rfl) (hS.op rfl)))
      exact fR.nil
     ·rfl
     ((refine bl ae ?_;skip))
     (refine ax ?_)
     refine bf rfl (fun e2=> ?_) (fun e2=> ?_)
     ·have e2:(d1:Int)=d2:=by simpa using e2
      rw [eO (fun h=>by have:=(hcm.1 (h.comm i k hk hkz f ab)).2;omega)]
      (refine au (ah (aa rfl (ay rfl rfl) (aA (ax (bw (aX (aJ (aJ (aX (aX (aJ ?_)))))))))));refine aJ (aX (aX (aJ (aJ (aX (aJ ?_)))))))
      exact bQ (.inl rfl) rfl (.tmp rfl) trivial trivial
     ·have e2:(d1:Int)≠d2:=by simpa using e2
      (refine aU (bp (ax (ah (aa rfl (an rfl rfl) ?_))));apply aa rfl;exact bG rfl rfl rfl bL;refine aa rfl (ay rfl rfl) (aA ?_))
      exact bu (f + 1) ⟨hfn,fun f' hf'=>by
       by_cases e:f'=f
       ·subst e;exact hcm.2 ⟨ab,ab⟩
       ·exact hcf f' ab⟩ ab (Wk.of ⟨rfl,rfl,rfl,rfl,rfl,aq⟩ ⟨rfl,rfl,aq⟩ trivial)
    ·apply gA 50 [] [[], [0], [], [0,1,2], [0,1,2,3], [], [5], [], [5,6,7], [5,6,7,8], [], [5,6,7,8,9,10], [5,6,7,8,9,10,11], [0,1,2,3,4,5,6,7,8,9,10,11,12], [0,1,2,3,4,5,6,7,8,9,10,11,12,13], [], [15], [], [15,16,17], [15,16,17,18], [], [20], [], [20,21,22], [20,21,22,23], [], [20,21,22,23,24,25], [20,21,22,23,24,25,26], [15,16,17,18,19,20,21,22,23,24,25,26,27], [15,16,17,18,19,20,21,22,23,24,25,26,27,28], [0,1,2,3,4,5,6,7,8,9,10,11,12,13,14,15,16,17,18,19,20,21,22,23,24,25,26,27,28,29], [0,1,2,3,4,5,6,7,8,9,10,11,12,13,14,15,16,17,18,19,20,21,22,23,24,25,26,27,28,29,30], [0,1,2,3,4,5,6,7,8,9,10,11,12,13,14,15,16,17,18,19,20,21,22,23,24,25,26,27,28,29,30,31], [0,1,2,3,4,5,6,7,8,9,10,11,12,13,14,15,16,17,18,19,20,21,22,23,24,25,26,27,28,29,30,31,32], [0,1,2,3,4,5,6,7,8,9,10,11,12,13,14,15,16,17,18,19,20,21,22,23,24,25,26,27,28,29,30,31], [0,1,2,3,4,5,6,7,8,9,10,11,12,13,14,15,16,17,18,19,20,21,22,23,24,25,26,27,28,29,30,31,32,33,34], [0,1,2,3,4,5,6,7,8,9,10,11,12,13,14,15,16,17,18,19,20,21,22,23,24,25,26,27,28,29,30,31,32,33,34,35], [0,1,2,3,4,5,6,7,8,9,10,11,12,13,14,15,16,17,18,19,20,21,22,23,24,25,26,27,28,29,30,31], [0,1,2,3,4,5,6,7,8,9,10,11,12,13,14,15,16,17,18,19,20,21,22,23,24,25,26,27,28,29,30,31,32,33,34,35,36,37], [0,1,2,3,4,5,6,7,8,9,10,11,12,13,14,15,16,17,18,19,20,21,22,23,24,25,26,27,28,29,30,31,32,33,34,35,36,37,38], [0,1,2,3,4,5,6,7,8,9,10,11,12,13,14,15,16,17,18,19,20,21,22,23,24,25,26,27,28,29,30,31], [0,1,2,3,4,5,6,7,8,9,10,11,12,13,14,15,16,17,18,19,20,21,22,23,24,25,26,27,28,29,30,31,40], [0,1,2,3,4,5,6,7,8,9,10,11,12,13,14,15,16,17,18,19,20,21,22,23,24,25,26,27,28,29,30,31], [0,1,2,3,4,5,6,7,8,9,10,11,12,13,14,15,16,17,18,19,20,21,22,23,24,25,26,27,28,29,30,31,40,41,42], [0,1,2,3,4,5,6,7,8,9,10,11,12,13,14,15,16,17,18,19,20,21,22,23,24,25,26,27,28,29,30,31,40,41,42,43], [0,1,2,3,4,5,6,7,8,9,10,11,12,13,14,15,16,17,18,19,20,21,22,23,24,25,26,27,28,29,30,31], [0,1,2,3,4,5,6,7,8,9,10,11,12,13,14,15,16,17,18,19,20,21,22,23,24,25,26,27,28,29,30,31,40,41,42,43,44,45], [0,1,2,3,4,5,6,7,8,9,10,11,12,13,14,15,16,17,18,19,20,21,22,23,24,25,26,27,28,29,30,31,40,41,42,43,44,45,46], [0,1,2,3,4,5,6,7,8,9,10,11,12,13,14,15,16,17,18,19,20,21,22,23,24,25,26,27,28,29,30,31,32,33,34,35,36,37,38,39,40,41,42,43,44,45,46,47], [0,1,2,3,4,5,6,7,8,9,10,11,12,13,14,15,16,17,18,19,20,21,22,23,24,25,26,27,28,29,30,31,32,33,34,35,36,37,38,39,40,41,42,43,44,45,46,47,48]] [89,90,91,92,93,94,95,96,97,98,99,100,101,102,103,104,105,106,107,108,109,110,111,112,113,114,115,116,117,118,119,120,121,122,123,124,125,126,127,128,129,130,131,132,133,134,135,136,137,138] [] (by kernel_rfl) (by kernel_rfl)
     ·(apply aH rfl;(intro S1 hS;exact aB (d:=0) rfl (hS.op rfl) (hS.ch _ _ rfl) ae))
      (apply aH rfl;(intro S1 hS;exact aN rfl ae (hS.op rfl) (hS.ch _ _ rfl) rfl rfl))
      (apply aH rfl;(intro S1 hS;exact an rfl (hS.op rfl)))
      (apply aH rfl;(intro S1 hS;exact aP (j:=k) rfl (hS.op rfl) (hS.op rfl) (hS.ch _ _ rfl) rfl ae rfl hkz (Nat.le_of_eq hlen.symm)))
      (apply aH rfl;(intro S1 hS;exact aM rfl ae (hS.op rfl) (hS.ch _ _ rfl) rfl hrowk hilk))
      (apply aH rfl;(intro S1 hS;exact aB (d:=0) rfl (hS.op rfl) (hS.ch _ _ rfl) ae))
      (apply aH rfl;(intro S1 hS;exact aN rfl ae (hS.op rfl) (hS.ch _ _ rfl) rfl rfl))
      (apply aH rfl;(intro S1 hS;exact an rfl (hS.op rfl)))
      (apply aH rfl;(intro S1 hS;exact aP (j:=i) rfl (hS.op rfl) (hS.op rfl) (hS.ch _ _ rfl) rfl ae rfl hiz (Nat.le_of_eq hlen.symm)))
      (apply aH rfl;(intro S1 hS;exact aM rfl ae (hS.op rfl) (hS.ch _ _ rfl) rfl hrowi hilm))
      (apply aH rfl;(intro S1 hS;exact an rfl (hS.op rfl)))
      (apply aH rfl;(intro S1 hS;exact bn (j:=f) rfl (hS.op rfl) (hS.op rfl) (hS.ch _ _ rfl) rfl ae hrowi rfl hfn hni))
      (apply aH rfl;(intro S1 hS;exact br rfl ae (hS.op rfl) (hS.ch _ _ rfl) rfl hrowi g1))
      (apply aH rfl;(intro S1 hS;exact bn (j:=d1) rfl (hS.op rfl) (hS.op rfl) (hS.ch _ _ rfl) rfl ae hrowk rfl hd1.1 hnk))
      (apply aH rfl;(intro S1 hS;exact br rfl ae (hS.op rfl) (hS.ch _ _ rfl) rfl hrowk g3))
      (apply aH rfl;(intro S1 hS;exact aB (d:=0) rfl (hS.op rfl) (hS.ch _ _ rfl) ae))
      (apply aH rfl;(intro S1 hS;exact aN rfl ae (hS.op rfl) (hS.ch _ _ rfl) rfl rfl))
      (apply aH rfl;(intro S1 hS;exact an rfl (hS.op rfl)))
      (apply aH rfl;(intro S1 hS;exact aP (j:=i) rfl (hS.op rfl) (hS.op rfl) (hS.ch _ _ rfl) rfl ae rfl hiz (Nat.le_of_eq hlen.symm)))
      (apply aH rfl;(intro S1 hS;exact aM rfl ae (hS.op rfl) (hS.ch _ _ rfl) rfl hrowi hilm))
      (apply aH rfl;(intro S1 hS;exact aB (d:=0) rfl (hS.op rfl) (hS.ch _ _ rfl) ae))
      (apply aH rfl;(intro S1 hS;exact aN rfl ae (hS.op rfl) (hS.ch _ _ rfl) rfl rfl))
      (apply aH rfl;(intro S1 hS;exact an rfl (hS.op rfl)))
      (apply aH rfl;(intro S1 hS;exact aP (j:=k) rfl (hS.op rfl) (hS.op rfl) (hS.ch _ _ rfl) rfl ae rfl hkz (Nat.le_of_eq hlen.symm)))
      (apply aH rfl;(intro S1 hS;exact aM rfl ae (hS.op rfl) (hS.ch _ _ rfl) rfl hrowk hilk))
      (apply aH rfl;(intro S1 hS;exact an rfl (hS.op rfl)))
      (apply aH rfl;(intro S1 hS;exact bn (j:=f) rfl (hS.op rfl) (hS.op rfl) (hS.ch _ _ rfl) rfl ae hrowk rfl hfn hnk))
      (apply aH rfl;(intro S1 hS;exact br rfl ae (hS.op rfl) (hS.ch _ _ rfl) rfl hrowk g2))
      (apply aH rfl;(intro S1 hS;exact bn (j:=d2) rfl (hS.op rfl) (hS.op rfl) (hS.ch _ _ rfl) rfl ae hrowi rfl hd2.1 hni))
      (apply aH rfl;(intro S1 hS;exact br rfl ae (hS.op rfl) (hS.ch _ _ rfl) rfl hrowi g4))
      (apply aH rfl;(intro S1 hS;exact bd rfl (hS.op rfl) (hS.op rfl) (DD e1)))
      (apply aH rfl;(intro S1 hS;exact an rfl (hS.op rfl)))
      apply bK rfl rfl rfl rfl rfl
      apply bK rfl rfl rfl rfl rfl
      apply bK rfl rfl rfl rfl rfl
      apply bK rfl rfl rfl rfl rfl
      apply bK rfl rfl rfl rfl rfl
      apply bK rfl rfl rfl rfl rfl
      apply bK rfl rfl rfl rfl rfl
      apply bK rfl rfl rfl rfl rfl
      apply bK rfl rfl rfl rfl rfl
      apply bK rfl rfl rfl rfl rfl
      apply bK rfl rfl rfl rfl rfl
      apply bK rfl rfl rfl rfl rfl
      apply bK rfl rfl rfl rfl rfl
      apply bK rfl rfl rfl rfl rfl
      apply bK rfl rfl rfl rfl rfl
      apply bK rfl rfl rfl rfl rfl
      apply bK rfl rfl rfl rfl rfl
      (apply aH rfl;(intro S1 hS;exact cF rfl (hS.op rfl) (hS.op rfl)))
      exact fR.nil
     ·rfl
     ((refine bl ae ?_;skip))
     (refine ax ?_)
     refine bf rfl (fun _=> ?_) (fun e=>by cases e)
     rw [eO (fun h=>by have:=(hcm.1 (h.comm i k hk hkz f ab)).1;omega)]
     (refine au (ah (aa rfl (ay rfl rfl) (aA (ax (bw (aX (aJ (aJ (aX (aX (aJ ?_)))))))))));refine aJ (aX (aX (aJ (aJ (aX (aJ ?_)))))))
     exact bQ (.inl rfl) rfl (.tmp rfl) trivial trivial
   ·(refine bI (aF (aF (bt (bp (ax (ah (aa rfl (an rfl rfl) ?_)))))));apply aa rfl;exact bG rfl rfl rfl bL;refine aa rfl (ay rfl rfl) (aA ?_))
    exact bu (k + 1) ⟨ab,fun k' h1 h2 h3 f' hf'=>by
     by_cases e:k'=k
     ·subst e;exact hcf f' ab
     ·exact hck k' h1 ab h3 f' hf'⟩ ab (Wk.of ⟨rfl,rfl,rfl,rfl,aq⟩ ⟨rfl,rfl,aq⟩ trivial)
  ·(refine bI (aF (aF (bt (bp (ax (ah (aa rfl (an rfl rfl) ?_)))))));apply aa rfl;exact bG rfl rfl rfl bL;refine aa rfl (ay rfl rfl) (aA ?_))
   exact bu (i + 1) ⟨hiz,fun i' k' h1 h2 h3=>by
    by_cases e:i'=i
    ·subst e;exact hck k' h2 ab h3
    ·exact hci i' k' ab h2 h3⟩ ab (Wk.of ⟨rfl,rfl,rfl,aq⟩ ⟨rfl,rfl,aq⟩ trivial)
 obtain rfl:i=zss.length:=by omega
 have hM:EV zss:=⟨ab,ab,ab,ab,by rw [hn];exact hrn,fun i k h1 h2 f hf=>hci i k ab h1 h2 f ab⟩
 have hO:=(Ex zss n 0 hT hpos ab ab ab).nm [(1003,1003),(12,141)] (by kernel_rfl)
 have hO:FC Try.prog 69 [(1003,bh zss)] [o1 (.sl 1003 0 zss.length),vv (I6 0)] [(141,cD (lx zss n 0).2)] (o1 (.sl 141 0 (lx zss n 0).2.length)) []:=hO
 rw [hM.IS,hn]
 (refine bI ?_;refine aF ?_;refine aF ?_;refine bt ?_;refine ax ?_;refine au ?_)
 apply eC 11 [] [[], [0], [0,1], [0,1,2], [], [4], [4,5], [4,5,6], [4,5,6,7], [0,1,2,3,4,5,6,7,8], [0,1,2,3,4,5,6,7,8,9]] [139,140,141,142,143,144,145,146,147,148,2] [141] (by kernel_rfl) (by kernel_rfl)
 ·(apply aE rfl;(intro S1 hS;exact aB (d:=0) rfl (hS.op rfl) (hS.ch _ _ rfl) ae))
  (apply aE rfl;(intro S1 hS;exact aN rfl ae (hS.op rfl) (hS.ch _ _ rfl) rfl rfl))
  (apply ju rfl;(intro S1 hS;apply aI 69;exact dK hO ae rfl (dG hS rfl) ⟨rfl,rfl,aq⟩ (cL hS ⟨⟨_,rfl, .inl rfl⟩,aq⟩) rfl rfl rfl))
  (apply aE rfl;(intro S1 hS;exact bF rfl (hS.op rfl) rfl ae))
  (apply aE rfl;(intro S1 hS;exact aB (d:=0) rfl (hS.op rfl) (hS.ch _ _ rfl) ae))
  (apply aE rfl;(intro S1 hS;exact aN rfl ae (hS.op rfl) (hS.ch _ _ rfl) rfl rfl))
  (apply aE rfl;(intro S1 hS;exact aP (j:=0) rfl (hS.op rfl) (hS.op rfl) (hS.ch _ _ rfl) rfl ae rfl hpos (Nat.le_of_eq hlen.symm)))
  (apply aE rfl;(intro S1 hS;exact aM rfl ae (hS.op rfl) (hS.ch _ _ rfl) rfl hrow0 hil))
  (apply aE rfl;(intro S1 hS;exact bF rfl (hS.op rfl) rfl ae))
  (apply aE rfl;(intro S1 hS;exact bd rfl (hS.op rfl) (hS.op rfl) rfl))
  (apply aE rfl;(intro S1 hS;exact ay rfl (hS.op rfl)))
  exact fJ.nil
 ·rfl
 ((refine bl ae ?_;skip))
 (refine ax ?_;refine bw ?_)
 exact bQ (.inl rfl) rfl (.tmp rfl) trivial trivial
end Go.Proofs.Ytfpcfckocmmcnaa
namespace Go.Proofs.Ytfpcfckocmmcnaa
def oy (L:List Int):Nat:=(L.filter fun z=>decide (z < 0)).length
theorem qV:∀(L:List Int) (d:Nat) (z:Int),d < L.length→aD L d < 0→0≤z→oy (L.set d z) + 1=oy L
 | [],d,_,h,_,_=>by simp at h
 | a :: r,0,z,_,h,hz=>by
  have h:a < 0:=by simpa [aD] using h
  simp [oy,h,show ¬z < 0 by omega]
 | a :: r,d + 1,z,hd,h,hz=>by
  have ih:=qV r d z (by simpa using hd) (by simpa [aD] using h) hz
  unfold oy at ih ⊢
  simp only [List.set_cons_succ,List.filter_cons]
  split
  ·simp only [List.length_cons];omega
  ·exact ih
theorem fq {L:List Int} {d e:Nat} {z:Int} :aD (L.set d z) e=if d=e∧d < L.length then z else aD L e:=by
 simp only [aD,List.getD_eq_getElem?_getD,List.getElem?_set]
 by_cases h:d=e
 ·subst h
  by_cases h2:d < L.length
  ·simp [h2]
  ·simp [h2]
 ·simp [h]
structure D5 (T:List (List Int)) (n i k:Nat) (L0:List Int) (ex:Nat→Prop) (L st:List Int):Prop where
 len:L.length=n
 st_:∀z∈st,∃d:Nat,z=(d:Int)∧d < n∧mW T n i d=true∧aD L d=(k:Int)
 eq:∀d,d < n→aD L d=aD L0 d∨(aD L d=(k:Int)∧mW T n i d=true)
 self:aD L i=(k:Int)
 cl:∀d,d < n→mW T n i d=true→aD L d=(k:Int)→(d:Int) ∉ st→¬ex d→∀g,g < T.length→aD L (dy T d g)=(k:Int)
section
variable {T:List (List Int)} {n i k:Nat} {L0 L st:List Int} {ex:Nat→Prop}
theorem BJ (hT:dh T n) (hi:i < n) (hl:L0.length=n) (hnew:∀d,d < n→mW T n i d=true→aD L0 d= -1):D5 T n i k L0 (fun _=>False) (L0.set i (k:Int)) [(i:Int)]:=by
 refine ⟨by simpa using hl,fun z hz=> ?_,fun d hd=> ?_,by rw [fq,if_pos ⟨rfl,ab⟩],fun d hd hr he hn=> ?_⟩
 ·obtain rfl:z=(i:Int):=by simpa using hz
  exact ⟨i,rfl,hi,gJ hT hi,by rw [fq,if_pos ⟨rfl,ab⟩]⟩
 ·rw [fq]
  split
  ·rename_i h;obtain ⟨rfl,_⟩:=h;exact .inr ⟨rfl,gJ hT hi⟩
  ·exact .inl rfl
 ·exfalso
  have hne:i≠d:=fun e=>hn (by simp [e])
  rw [fq,if_neg (fun h=>hne h.1),hnew d hd hr] at he
  omega
theorem EL {m x:Nat} (h:D5 T n i k L0 (fun _=>False) L st) (hm:st.length=m + 1) (hx:aD st m=(x:Int)):D5 T n i k L0 (fun d=>d=x) L (st.take m):=by
 refine ⟨h.len,fun z hz=>h.st_ z (List.mem_of_mem_take hz),h.eq,h.self,fun d hd hr he hn hne=> ?_⟩
 refine h.cl d hd hr he (fun hs=> ?_) (fun f=>f)
 have hst:st=st.take m ++ [(x:Int)]:=by
  have:=oM (zs:=st) (k:=m) ab
  rw [hx,←hm,List.take_length] at this;exact this
 rw [hst] at hs
 rcases List.mem_append.1 hs with hs | hs
 ·exact hn hs
 ·have:(d:Int)=x:=by simpa using hs
  exact hne ab
theorem Dz {y:Nat} (h:D5 T n i k L0 ex L st) (hy:y < n) (hr:mW T n i y=true) (hl:aD L y < 0):D5 T n i k L0 ex (L.set y (k:Int)) (st ++ [(y:Int)]):=by
 have hyl:y < L.length:=by rw [h.len];exact hy
 have D2:∀d,aD L d=(k:Int)→aD (L.set y (k:Int)) d=(k:Int):=fun d hd=>by
  rw [fq];split
  ·rfl
  ·exact hd
 refine ⟨by rw [List.length_set];exact h.len,fun z hz=> ?_,fun d hd=> ?_,D2 i h.self,fun d hd hrd he hn hne=> ?_⟩
 ·rcases List.mem_append.1 hz with hz | hz
  ·obtain ⟨d,h1,h2,h3,h4⟩:=h.st_ z hz
   exact ⟨d,h1,h2,h3,D2 d h4⟩
  ·obtain rfl:z=(y:Int):=by simpa using hz
   exact ⟨y,rfl,hy,hr,by rw [fq,if_pos ⟨rfl,hyl⟩]⟩
 ·rw [fq]
  split
  ·rename_i e;obtain ⟨rfl,_⟩:=e;exact .inr ⟨rfl,hr⟩
  ·exact h.eq d hd
 ·have hyd:y≠d:=fun e=>hn (by subst e;simp)
  rw [fq,if_neg (fun e=>hyd e.1)] at he
  exact fun g hg=>D2 _ (h.cl d hd hrd he (fun hs=>hn (List.mem_append_left _ hs)) hne g hg)
theorem El {x:Nat} (h:D5 T n i k L0 (fun d=>d=x) L st) (hx:∀g,g < T.length→aD L (dy T x g)=(k:Int)):D5 T n i k L0 (fun _=>False) L st:=
 ⟨h.len,h.st_,h.eq,h.self,fun d hd hr he hn _=>by
  by_cases e:d=x
  ·subst e;exact hx
  ·exact h.cl d hd hr he hn e⟩
theorem Du (hT:dh T n) (hi:i < n) (h:D5 T n i k L0 (fun _=>False) L []):L=(jd T n i (L0,k)).1:=by
 refine j7 (by rw [h.len,sj]) fun d hd=> ?_
 rw [h.len] at hd
 rw [mL hd]
 have hall:∀d,d < n→mW T n i d=true→aD L d=(k:Int):=
  fun d hd hr=>(m6 (p:=fun d=>aD L d=(k:Int)∧mW T n i d=true) hT hi ⟨h.self,gJ hT hi⟩ (fun e he hp g hg=>⟨h.cl e he hp.2 hp.1 (by simp) (fun f=>f) g hg,pc hT hi he hp.2 hg⟩) d hd hr).1
 split
 ·rename_i hr;exact hall d hd hr
 ·rename_i hr
  rcases h.eq d hd with h1 | h1
  ·exact h1
  ·exact absurd h1.2 hr
end
end Go.Proofs.Ytfpcfckocmmcnaa
namespace Go.Proofs.Ytfpcfckocmmcnaa
open Go.RowKit
theorem yW (zs:List Int) (m:Nat):(aV zs).take m=aV (zs.take m):=by simp [aV,List.map_take]
theorem vU (zss:List (List Int)) (n ng:Nat) (hng:zss.length=ng) (hT:dh zss n) (hB:vE zss n) (hpos:0 < n) (hn:n≤1000000) (hg:ng≤1000000):
  FC Try.prog 60 [(1003,bh zss)] [vv (I6 n),o1 (.sl 1003 0 ng)] [(16,cD (gV zss n).1)] (.tup [.one (.sl 16 0 n), .one (.val (I6 (gV zss n).2))]) []:=by
 have hlen:(bU zss).length=ng:=by rw [cB];exact hng
 have hR:FC Try.prog 53 [(14,⟨false,2,1, .cz (aV [-1])⟩)] [o1 (.sl 14 0 1),vv (I6 n)] [(16,⟨true,2,1, .cz (aV (List.replicate n (-1)))⟩)] (o1 (.sl 16 0 n)) []:=mJ 14 16 n (-1) ab hpos
 refine cu (nt:=75) Try.func60 rfl rfl (by simp) fun w0 ω0=> ?_
 (refine au (ah (aa rfl (ay rfl rfl) (aa rfl (ay rfl rfl) (aA (ax (au (ah ?_)))))));apply aa rfl;(exact cN (E:=2) rfl ae rfl);apply aa rfl;exact an rfl rfl;apply aa rfl;(apply aI 53;exact dK hR ae rfl rfl ⟨rfl,rfl,aq⟩ ⟨⟨_,rfl, .inr rfl⟩,aq⟩ rfl rfl rfl);refine aa rfl (ay rfl rfl) (aA (ax (au (ah (aa rfl (ay rfl rfl) (aA (ax (au (au (ah (aa rfl (an rfl rfl) ?_)))))))))));refine aa rfl (an rfl rfl) (aA (ax (aQ ?_))))
 refine bR (fun q:Nat×Bo=>St.of [(1,o1 (.sl 1003 0 ng)),(6,o1 (.sl 16 0 n)),(7,vv (I6 q.2.2)),(17,vv (I6 n)),(18,vv (I6 q.1))] [(1003,bh zss),(16,cD q.2.1)]) (fun q=>q.1≤n∧eX zss n q.1=q.2) (fun q=>n - q.1) (0,kt n) ⟨Nat.zero_le _,rfl⟩ (Wk.of ⟨rfl,rfl,rfl,rfl,rfl,aq⟩ ⟨rfl,rfl,aq⟩ trivial) ?_
 rintro ⟨i,L,k⟩ ⟨hi,hl⟩
 dsimp only at hi hl ⊢
 have hOK:=kd hT hB i hi
 rw [hl] at hOK
 have hLl:L.length=n:=hOK.len
 have hil:n≤(aV L).length:=by rw [bD,hLl];exact Nat.le_refl _
 have hnext:=fb (T:=zss) (n:=n) i
 rw [hl] at hnext
 unfold gL at hnext
 (refine au (ah (aa rfl (bd rfl rfl rfl rfl) (aA (ax (au ?_))))))
 refine bY rfl (fun h=> ?_) (fun h=> ?_)
 ·have hin:i < n:=by omega
  have gi:(aV L)[i]? =some (I6 (aD L i)):=ck ab
  have hkb:k≤n:=by
   have hk:∀m,m≤n→(eX zss n m).2≤m:=by
    intro m
    induction m with
    | zero=>intro _;exact Nat.le_refl _
    | succ m ih=>
     intro hm
     have:=ih ab
     rw [fb];unfold gL;split
     ·omega
     ·show (eX zss n m).2 + 1≤m + 1;omega
   have:=hk i hi
   rw [hl] at this
   have:k≤i:=this
   omega
  (refine aU (ax (au (aQ (au (ah (aa rfl (an rfl rfl) (aa rfl (ay rfl rfl) (aA (ax (au (au ?_)))))))))));refine ah (aa rfl (an rfl rfl) (aa rfl (an rfl rfl) ?_));apply aa rfl;(exact aP (j:=i) rfl rfl rfl rfl rfl ae rfl hin hil);apply aa rfl;exact bO rfl ae rfl rfl rfl aK;refine aa rfl (bd rfl rfl rfl rfl) (aA (ax ?_)))
  refine bY rfl (fun h1=> ?_) (fun h1=> ?_)
  ·have h1':0≤aD L i:=h1
   rw [if_pos h1'] at hnext
   (refine bI (aF (bt (ax (ah ?_))));apply aa rfl;exact bG rfl rfl rfl bL;refine aa rfl (an rfl rfl) (aA ?_))
   exact bu (i + 1,L,k) ⟨hin,hnext⟩ (by show n - (i + 1) < n - i;omega) (Wk.of ⟨rfl,rfl,rfl,rfl,rfl,aq⟩ ⟨rfl,rfl,aq⟩ trivial)
  ·have h1':¬0≤aD L i:=h1
   rw [if_neg h1'] at hnext
   have hnew:∀d,d < n→mW zss n i d=true→aD L d= -1:=fun d hd hr=>CN hT hB hin hOK (by dsimp only;omega) hd hr
   (refine aU (ax (au (ah (aa rfl (an rfl rfl) (aa rfl (an rfl rfl) (aa rfl (an rfl rfl) ?_))))));apply aa rfl;(first | exact aP (j:=i) rfl rfl rfl rfl rfl ae rfl hin hil | exact jK rfl rfl rfl rfl rfl ab ae);apply aa rfl;(first | exact aP (j:=i) rfl rfl rfl rfl rfl ae rfl hin hil | exact jK rfl rfl rfl rfl rfl ab ae);refine aA (ax (au (au (ah (aa rfl (an rfl rfl) ?_)))));apply aa rfl;(exact cN (E:=2) rfl ae rfl);refine aa rfl (ay rfl rfl) (aA (ax (aQ ?_))))
   refine bR (fun q:List Int×List Int=>St.of [(1,o1 (.sl 1003 0 ng)),(6,o1 (.sl 16 0 n)),(7,vv (I6 k)),(9,o1 (.sl 31 0 q.2.length)),(17,vv (I6 n)),(18,vv (I6 i))] [(1003,bh zss),(16,cD q.1),(31,cD q.2)])
    (fun q=>D5 zss n i k L (fun _=>False) q.1 q.2∧2 * oy q.1 + q.2.length≤2 * n + 1) (fun q=>2 * oy q.1 + q.2.length) (L.set i (k:Int), [(i:Int)]) ⟨BJ hT hin hLl hnew, ?_⟩ (Wk.of ⟨rfl,rfl,rfl,rfl,rfl,rfl,aq⟩ ⟨rfl,rfl,rfl,aq⟩ trivial) ?_
   ·have h2:oy L≤L.length:=List.length_filter_le _ _
    have h3:=qV L i (k:Int) ab ab ab
    show 2 * oy (L.set i (k:Int)) + 1≤2 * n + 1
    omega
   rintro ⟨M,st⟩ ⟨hD,hmu⟩
   dsimp only at hD hmu ⊢
   have hMl:M.length=n:=hD.len
   (refine au (au (ah (aa rfl (an rfl rfl) (aa rfl (bF rfl rfl rfl ae) ?_))));refine aa rfl (bd rfl rfl rfl rfl) (aA (ax ?_)))
   refine bY rfl (fun h2=> ?_) (fun h2=> ?_)
   ·obtain ⟨m,hm⟩:∃m,st.length=m + 1:=⟨st.length - 1,ab⟩
    obtain ⟨x,hx1,hx2,hx3,hx4⟩:=hD.st_ (aD st m) (jm ab)
    have hP:=EL hD hm hx1
    have gm:(aV st)[m]? =some (I6 (x:Int)):=by rw [ck ab,hx1]
    have hm1:((st.length:Int) - 1)=((m:Nat):Int):=by omega
    have hsl:m + 1≤(aV st).length:=by rw [bD];omega
    have htk:(st.take m).length=m:=by rw [List.length_take];omega
    rw [hm]
    rw [hm] at hm1
    (refine aU (ax (aQ (au (ah (aa rfl (an rfl rfl) (aa rfl (an rfl rfl) (aa rfl (bF rfl rfl rfl ae) ?_)))))));apply aa rfl;(first | exact kI rfl rfl rfl (IntWalk.i64_in _ ab) | exact aP (j:=m) rfl rfl rfl rfl rfl ae hm1 ab hsl | exact eU (k:=1) (l:=0) (h:=m) rfl rfl rfl rfl ae ab fG (fC rfl hm1) ab ab (by rw [Nat.mul_one,Nat.zero_add];exact hsl));apply aa rfl;(first | exact kI rfl rfl rfl (IntWalk.i64_in _ ab) | exact aP (j:=m) rfl rfl rfl rfl rfl ae hm1 ab hsl | exact eU (k:=1) (l:=0) (h:=m) rfl rfl rfl rfl ae ab fG (fC rfl hm1) ab ab (by rw [Nat.mul_one,Nat.zero_add];exact hsl));apply aa rfl;exact bO rfl ae rfl rfl rfl aK;refine aa rfl (ay rfl rfl) (aA (ax (au (ah (aa rfl (an rfl rfl) (aa rfl (an rfl rfl) (aa rfl (bF rfl rfl rfl ae) ?_)))))));apply aa rfl;(first | exact kI rfl rfl rfl (IntWalk.i64_in _ ab) | exact aP (j:=m) rfl rfl rfl rfl rfl ae hm1 ab hsl | exact eU (k:=1) (l:=0) (h:=m) rfl rfl rfl rfl ae ab fG (fC rfl hm1) ab ab (by rw [Nat.mul_one,Nat.zero_add];exact hsl));apply aa rfl;(first | exact kI rfl rfl rfl (IntWalk.i64_in _ ab) | exact aP (j:=m) rfl rfl rfl rfl rfl ae hm1 ab hsl | exact eU (k:=1) (l:=0) (h:=m) rfl rfl rfl rfl ae ab fG (fC rfl hm1) ab ab (by rw [Nat.mul_one,Nat.zero_add];exact hsl));refine aa rfl (ay rfl rfl) (aA (ax (au (ah (aa rfl (an rfl rfl) (aa rfl (bF rfl rfl rfl ae) ?_))))));refine aa rfl (an rfl rfl) (aA (ax (aQ ?_))))
    have hsame:2 * oy M + m + 1=2 * oy M + st.length:=by omega
    refine bR (fun q:Nat×List Int×List Int=>St.of [(1,o1 (.sl 1003 0 ng)),(6,o1 (.sl 16 0 n)),(7,vv (I6 k)),(9,o1 (.sl 31 0 q.2.2.length)),(10,vv (I6 x)),(17,vv (I6 n)),(18,vv (I6 i)),(46,o1 (.sl 1003 0 ng)),(47,vv (I6 ng)),(48,vv (I6 q.1))] [(1003,bh zss),(16,cD q.2.1),(31,cD q.2.2)])
     (fun q=>q.1≤ng∧D5 zss n i k L (fun d=>d=x) q.2.1 q.2.2∧(∀g,g < q.1→aD q.2.1 (dy zss x g)=(k:Int))∧2 * oy q.2.1 + q.2.2.length≤2 * oy M + m) (fun q=>ng - q.1) (0,M,st.take m) ⟨Nat.zero_le _,hP,fun g hg=>absurd hg ab,by dsimp only;omega⟩
     (Wk.trans (GZ (n:=31) (m:=m) (vs:=aV st) rfl (by rw [bD];omega)) (Wk.of ⟨rfl,rfl,rfl,by rw [htk];rfl,rfl,rfl,rfl,rfl,rfl,rfl,aq⟩ ⟨rfl,rfl,congrArg (fun l=>some (⟨true,2,1, .cz l⟩:Ch)) (yW st m),aq⟩ trivial)) ?_
    rintro ⟨g,N,su⟩ ⟨hgl,hD2,hdone,hmu2⟩
    dsimp only at hgl hD2 hdone hmu2 ⊢
    have hNl:N.length=n:=hD2.len
    have hsu:su.length≤2 * n + 1:=by omega
    (refine au (ah (aa rfl (bd rfl rfl rfl rfl) (aA (ax (au ?_))))))
    refine bY rfl (fun h3=> ?_) (fun h3=> ?_)
    ·have hgn:g < ng:=by omega
     have hgz:g < zss.length:=by omega
     have hd:=dj hT hx2 (g:=g) hgz
     have hr:=pc hT hin hx2 hx3 hgz
     obtain ⟨y,hy⟩:∃y,dy zss x g=y:=⟨_,rfl⟩
     rw [hy] at hd hr
     have hrowg:(bU zss)[g]? =some (aV (aT zss g)):=bV hgz
     have hlg:(aT zss g).length=n:=hT.len g hgz
     have gx:(aV (aT zss g))[x]? =some (I6 (y:Int)):=by rw [ck ab,hd.2]
     have gy:(aV N)[y]? =some (I6 (aD N y)):=ck ab
     have hilg:(aV (aT zss g)).length=n:=by rw [bD];exact hlg
     have hNi:n≤(aV N).length:=by rw [bD,hNl];exact Nat.le_refl _
     have step:∀(N':List Int),(∀e,aD N e=(k:Int)→aD N' e=(k:Int))→aD N' y=(k:Int)→∀g',g' < g + 1→aD N' (dy zss x g')=(k:Int):=fun N' hk hyk g' hg'=>by
      by_cases e:g'=g
      ·subst e;rw [hy];exact hyk
      ·exact hk _ (hdone g' ab)
     (refine aU (ax (au (aQ (au (ah ?_)))));apply aa rfl;(first | exact aP (j:=g) rfl rfl rfl rfl rfl ae rfl hgn (Nat.le_of_eq hlen.symm) | exact aM rfl ae rfl rfl rfl hrowg hilg | exact bn (j:=x) rfl rfl rfl rfl rfl ae hrowg rfl hx2 (Nat.le_of_eq hilg.symm) | exact br rfl ae rfl rfl rfl hrowg gx | exact aP (j:=y) rfl rfl rfl rfl rfl ae rfl hd.1 hNi);apply aa rfl;(first | exact aP (j:=g) rfl rfl rfl rfl rfl ae rfl hgn (Nat.le_of_eq hlen.symm) | exact aM rfl ae rfl rfl rfl hrowg hilg | exact bn (j:=x) rfl rfl rfl rfl rfl ae hrowg rfl hx2 (Nat.le_of_eq hilg.symm) | exact br rfl ae rfl rfl rfl hrowg gx | exact aP (j:=y) rfl rfl rfl rfl rfl ae rfl hd.1 hNi);refine aa rfl (ay rfl rfl) (aA (ax (au (ah (aa rfl (an rfl rfl) (aa rfl (an rfl rfl) ?_))))));apply aa rfl;(first | exact aP (j:=g) rfl rfl rfl rfl rfl ae rfl hgn (Nat.le_of_eq hlen.symm) | exact aM rfl ae rfl rfl rfl hrowg hilg | exact bn (j:=x) rfl rfl rfl rfl rfl ae hrowg rfl hx2 (Nat.le_of_eq hilg.symm) | exact br rfl ae rfl rfl rfl hrowg gx | exact aP (j:=y) rfl rfl rfl rfl rfl ae rfl hd.1 hNi);apply aa rfl;(first | exact aP (j:=g) rfl rfl rfl rfl rfl ae rfl hgn (Nat.le_of_eq hlen.symm) | exact aM rfl ae rfl rfl rfl hrowg hilg | exact bn (j:=x) rfl rfl rfl rfl rfl ae hrowg rfl hx2 (Nat.le_of_eq hilg.symm) | exact br rfl ae rfl rfl rfl hrowg gx | exact aP (j:=y) rfl rfl rfl rfl rfl ae rfl hd.1 hNi);refine aa rfl (ay rfl rfl) (aA (ax (au (ah (aa rfl (an rfl rfl) (aa rfl (an rfl rfl) ?_))))));apply aa rfl;(first | exact aP (j:=g) rfl rfl rfl rfl rfl ae rfl hgn (Nat.le_of_eq hlen.symm) | exact aM rfl ae rfl rfl rfl hrowg hilg | exact bn (j:=x) rfl rfl rfl rfl rfl ae hrowg rfl hx2 (Nat.le_of_eq hilg.symm) | exact br rfl ae rfl rfl rfl hrowg gx | exact aP (j:=y) rfl rfl rfl rfl rfl ae rfl hd.1 hNi);apply aa rfl;exact bO rfl ae rfl rfl rfl aK;refine aa rfl (bd rfl rfl rfl rfl) (aA (ax ?_)))
     refine bY rfl (fun h4=> ?_) (fun h4=> ?_)
     ·have h4':aD N y < 0:=h4
      have hN':=qV N y (k:Int) ab h4' ab
      have hkeep:∀e,aD N e=(k:Int)→aD (N.set y (k:Int)) e=(k:Int):=fun e he=>by
       rw [fq]
       split
       ·rfl
       ·exact he
      have hyN:aD (N.set y (k:Int)) y=(k:Int):=by rw [fq,if_pos ⟨rfl,ab⟩]
      (refine au (ah (aa rfl (an rfl rfl) (aa rfl (an rfl rfl) (aa rfl (an rfl rfl) ?_))));apply aa rfl;(first | exact aP (j:=y) rfl rfl rfl rfl rfl ae rfl hd.1 hNi | exact jK rfl rfl rfl rfl rfl ab ae);apply aa rfl;(first | exact aP (j:=y) rfl rfl rfl rfl rfl ae rfl hd.1 hNi | exact jK rfl rfl rfl rfl rfl ab ae);refine aA (ax (ah (aa rfl (an rfl rfl) (aa rfl (an rfl rfl) ?_))));apply aa rfl;(exact cN (E:=2) rfl ae rfl);apply aa rfl;(exact fo rfl ae rfl rfl rfl (by first | rfl | assumption | (simp;done)) rfl rfl ab);refine aa rfl (ay rfl rfl) (aA (bp (ax (ah ?_))));apply aa rfl;exact bG rfl rfl rfl bL;refine aa rfl (an rfl rfl) (aA ?_))
      exact bu (g + 1,N.set y (k:Int),su ++ [(y:Int)]) ⟨hgn,Dz hD2 hd.1 hr h4',step _ hkeep hyN,by simp only [List.length_append,List.length_singleton];omega⟩ (by show ng - (g + 1) < ng - g;omega) (Wk.of ⟨rfl,rfl,rfl,congrArg (fun x=>some (o1 (.sl 31 0 x))) (by simp),rfl,rfl,rfl,rfl,rfl,rfl,aq⟩ ⟨rfl,rfl,rfl,aq⟩ trivial)
     ·have h4':¬aD N y < 0:=h4
      have hyk:aD N y=(k:Int):=by
       rcases hD2.eq y hd.1 with h5 | h5
       ·rw [hnew y hd.1 hr] at h5;omega
       ·exact h5.1
      (refine aU (bp (ax (ah ?_)));apply aa rfl;exact bG rfl rfl rfl bL;refine aa rfl (an rfl rfl) (aA ?_))
      exact bu (g + 1,N,su) ⟨hgn,hD2,step N (fun _ h=>h) hyk,hmu2⟩ (by show ng - (g + 1) < ng - g;omega) (Wk.of ⟨rfl,rfl,rfl,rfl,rfl,rfl,rfl,rfl,rfl,rfl,aq⟩ ⟨rfl,rfl,rfl,aq⟩ trivial)
    ·obtain rfl:g=ng:=by omega
     (refine bI ?_;refine aF ?_;refine aF ?_;refine bt ?_;refine bp ?_)
     exact bu (N,su) ⟨El hD2 (fun g' hg'=>hdone g' ab),by dsimp only;omega⟩ (by show 2 * oy N + su.length < 2 * oy M + st.length;omega) (Wk.of ⟨rfl,rfl,rfl,rfl,rfl,rfl,aq⟩ ⟨rfl,rfl,rfl,aq⟩ trivial)
   ·obtain rfl:st= []:=List.length_eq_zero_iff.1 ab
    have hM:=Du hT hin hD
    have hk1:(((jd zss n i (L,k)).2:Nat):Int)=(k:Int) + 1:=by show ((k + 1:Nat):Int)=_;omega
    (refine bI (aF (aF (bt (ax (ah (aa rfl (an rfl rfl) ?_))))));apply aa rfl;exact bG rfl rfl rfl bL;refine aa rfl (ay rfl rfl) (aA (bp (ax (ah ?_))));apply aa rfl;exact bG rfl rfl rfl bL;refine aa rfl (an rfl rfl) (aA ?_))
    exact bu (i + 1,jd zss n i (L,k)) ⟨hin,hnext⟩ (by show n - (i + 1) < n - i;omega) (Wk.of ⟨rfl,rfl,congrArg (fun z=>some (vv (I6 z))) hk1.symm,rfl,rfl,aq⟩ ⟨rfl,congrArg (fun l=>some (cD l)) hM,aq⟩ trivial)
 ·obtain rfl:i=n:=by omega
  have hfin:gV zss i=(L,k):=hl
  rw [hfin]
  (refine bI (aF (aF (bt (ax (au (ah (aa rfl (an rfl rfl) (aa rfl (an rfl rfl) (aa rfl (ay rfl rfl) (aa rfl (ay rfl rfl) (aA ?_)))))))))));refine ax (bw ?_))
  exact dJ (.inl rfl) rfl (.tmp rfl) (.tmp rfl) ⟨rfl,aq⟩ trivial
theorem Ed (zss:List (List Int)) (n ng:Nat) (hng:zss.length=ng) (hT:dh zss n) (hB:mC zss n) (hpos:0 < n) (hn:n≤1000000) (hg:ng≤1000000):
  FC Try.prog 60 [(1003,bh zss)] [vv (I6 n),o1 (.sl 1003 0 ng)] [(16,cD (gV zss n).1)] (.tup [.one (.sl 16 0 n), .one (.val (I6 (gV zss n).2))]) []:=vU zss n ng hng hT (hB.sym hT) hpos hn hg
end Go.Proofs.Ytfpcfckocmmcnaa
namespace Go.Proofs.Ytfpcfckocmmcnaa
open Go.RowKit
theorem C8 {us:List Value} {u0 u1 u2:Value} (hl:us.length=3) (g0:us[0]? =some u0) (g1:us[1]? =some u1) (g2:us[2]? =some u2):us= [u0,u1,u2]:=by
 match us,hl with
 | [p,q,r],_=>simp at g0 g1 g2;rw [g0,g1,g2]
theorem tU (a b c:Int):FC Try.prog 52 [] [vv (I6 a),vv (I6 b),vv (I6 c)] [] (vv (.bool (kB a b c))) []:=
 jG fun w η ω us hm ⟨hl,ha⟩=>by
  obtain ⟨u0,g0,d0⟩:=ha 0 _ rfl
  obtain ⟨u1,g1,d1⟩:=ha 1 _ rfl
  obtain ⟨u2,g2,d2⟩:=ha 2 _ rfl
  have d0:u0=I6 a:=d0
  have d1:u1=I6 b:=d1
  have d2:u2=I6 c:=d2
  subst d0 d1 d2
  rw [C8 hl g0 g1 g2]
  refine (eK a b c w).mono ?_
  rintro e w' ⟨rfl,rfl⟩
  exact ⟨rfl,Below.refl _ _⟩
end Go.Proofs.Ytfpcfckocmmcnaa
