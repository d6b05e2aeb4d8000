/- Lists of points and of marks; lists that lead points. No program in sight. -/
import Derived.Test.YtfpcfckocmmcnaaPart1
import Derived.Test.YtfpcfckocmmcnaaPart2
import Derived.Test.YtfpcfckocmmcnaaProg
import Derived.Laws.CopyOwn
import Derived.Deep.RegionLaw
import Derived.RegionTactic
import Derived.Deep.RegionHeld3
set_option maxRecDepth 100000
set_option maxHeartbeats 6400000
namespace Go.Proofs.Ytfpcfckocmmcnaa
theorem cI {zs:List Int} {z:Int} {j:Nat} (h:j < zs.length):aD (zs ++ [z]) j=aD zs j:=by
 simp [aD,List.getElem?_append_left h]
theorem dS {zs:List Int} {z:Int} :aD (zs ++ [z]) zs.length=z:=by simp [aD]
theorem eV {zss:List (List Int)} {z:List Int} {j:Nat} (h:j < zss.length):aT (zss ++ [z]) j=aT zss j:=by
 simp [aT,List.getElem?_append_left h]
theorem fF {zss:List (List Int)} {z:List Int} :aT (zss ++ [z]) zss.length=z:=by simp [aT]
theorem fl {n j:Nat} {z:Int} (h:j < n):aD (List.replicate n z) j=z:=by simp [aD,h]
def dZ (qs:List (List Int)) (c:Int) (w:List Int):Int:=w.foldl (fun c g=>aD (aT qs g.toNat) c.toNat) c
theorem yq (qs:List (List Int)) (c:Int) (w:List Int) (g:Int):dZ qs c (w ++ [g])=aD (aT qs g.toNat) (dZ qs c w).toNat:=by simp [dZ,List.foldl_append]
structure dh (qs:List (List Int)) (m:Nat):Prop where
 len:∀k,k < qs.length→(aT qs k).length=m
 within:∀k,k < qs.length→∀x,x < m→0≤aD (aT qs k) x∧aD (aT qs k) x < m
theorem dh.lead {qs:List (List Int)} {m:Nat} (h:dh qs m) {c:Int} (hc:0≤c∧c < m) {w:List Int} (hw:∀z∈w,0≤z∧z < qs.length):0≤dZ qs c w∧dZ qs c w < m:=by
 induction w generalizing c with
 | nil=>exact hc
 | cons g r ih=>
  have h1:=hw g (List.mem_cons_self ..)
  have h2:=h.within g.toNat ab c.toNat ab
  exact ih h2 fun z hz=>hw z (List.mem_cons_of_mem _ hz)
def jY (bs:List Bool) (k:Nat):Bool:=bs.getD k false
theorem iS {bs:List Bool} {i j:Nat} {b:Bool} :jY (bs.set i b) j=if i=j∧i < bs.length then b else jY bs j:=by
 simp only [jY,List.getD_eq_getElem?_getD,List.getElem?_set]
 by_cases h:i=j
 ·subst h
  by_cases h2:i < bs.length
  ·simp [h2]
  ·simp [h2]
 ·simp [h]
def pk (bs:List Bool):Nat:=(bs.filter fun b=>b).length
theorem zQ (bs:List Bool):pk bs≤bs.length:=List.length_filter_le _ _
theorem qO:∀(l:List Bool) (d:Nat),d < l.length→jY l d=false→pk (l.set d true)=pk l + 1
 | [],d,h,_=>by simp at h
 | x :: r,0,_,h=>by
  have h:x=false:=by simpa [jY] using h
  simp [pk,h]
 | x :: r,d + 1,hd,h=>by
  have ih:=qO r d (by simpa using hd) (by simpa [jY] using h)
  unfold pk at ih ⊢
  simp only [List.set_cons_succ,List.filter_cons]
  split
  ·simp only [List.length_cons];omega
  ·exact ih
def dy (T:List (List Int)) (c g:Nat):Nat:=(aD (aT T g) c).toNat
theorem dj {T:List (List Int)} {n:Nat} (hT:dh T n) {c g:Nat} (hc:c < n) (hg:g < T.length):dy T c g < n∧aD (aT T g) c=(dy T c g:Int):=by
 have:=hT.within g hg c hc
 unfold dy;omega
def gS (bs:List Bool):List Value:=bs.map Value.bool
theorem kE (bs:List Bool):(gS bs).length=bs.length:=by simp [gS]
theorem tp {bs:List Bool} {k:Nat} (h:k < bs.length):(gS bs)[k]? =some (.bool (jY bs k)):=by simp [gS,jY,h]
theorem A8 (bs:List Bool) (k:Nat) (b:Bool):(gS bs).set k (.bool b)=gS (bs.set k b):=by simp [gS,List.map_set]
theorem BZ (n:Nat):gS (List.replicate n false)=List.replicate n (.bool false):=by simp [gS]
end Go.Proofs.Ytfpcfckocmmcnaa
namespace Go.Proofs.Ytfpcfckocmmcnaa
open Go.RowKit
abbrev AY (im:List (List Int)):Ch:=⟨false,24,1, .rows 2 (bU im) []⟩
abbrev zk (less:List Int):Ch:=⟨false,2,1, .cz (aV less)⟩
abbrev cS (im:List (List Int)):Ch:=⟨true,24,1, .rows 2 (bU im) []⟩
abbrev cD (less:List Int):Ch:=⟨true,2,1, .cz (aV less)⟩
theorem Fp {z:Int} (h:0≤z):vv (I6 z)=vv (I6 ((z.toNat:Nat):Int)):=by rw [Int.toNat_of_nonneg h]
abbrev bh (wss:List (List Int)):Ch:=⟨false,24,1, .rows 2 (bU wss) []⟩
abbrev Dy (bs:List Bool):Ch:=⟨true,4,1, .cz (gS bs)⟩
section
variable {P:Program} {nt:Nat} {S:St} {t:Nat} {ty:TypeId} {ps:String} {af:Array Edge} {gd:Option (Nat×Bool)} {x y:Operand}
theorem fp {T E n:Nat} {l c:Operand} {kl kc:IntKind} {L C:Int} (ht:Nat.blt t nt=true) (hT:tS P T E 1=true) (hz:(P.info? E).bind (·.zero)=some (.bool false)) (hl:S.op l=some (vv (.int kl L))) (hc:S.op c=some (vv (.int kc C)))
  (hL:L=(n:Int)) (hC:C=(n:Int)) (hn:n≤2199023255552):dx P nt ⟨some t, .makeSlice T l c,ty,ps,af,gd⟩ S ((S.new t ⟨true,E,1, .cz (gS (List.replicate n false))⟩).put t (o1 (.sl t 0 n))):=by
 rw [BZ]
 exact ya (ts:= #[]) ht hT hz hl hc hL hC hn rfl
theorem fx {T:TypeId} {n:Nm} {i:Nat} {c:Ch} {bs:List Bool} {b:Bool} (hx:S.op x=some (o1 (.ptr n i))) (hy:S.op y=some (vv (.bool b))) (hc:S.ch n=some c) (hown:c.own=true) (hd:c.d= .cz (gS bs)) (hi:i < bs.length) (hT:jJ P T 1=true):
  dx P nt ⟨none, .store T x y,ty,ps,af,gd⟩ S (S.set n { c with d:= .cz (gS (bs.set i b)) }):=by
 have:=qo (P:=P) (nt:=nt) (ty:=ty) (ps:=ps) (af:=af) (gd:=gd) hx hy hc hown hd (by rw [kE];exact hi) hT rfl
 rwa [A8] at this
end
end Go.Proofs.Ytfpcfckocmmcnaa
namespace Go.Proofs.Ytfpcfckocmmcnaa
open Go.RowKit
theorem jl (less:List Int) (n c:Nat) (b:Bool) (hn:less.length=n) (hd:Down less) (hc:c < less.length):
  FC Try.prog 102 [(1001,⟨false,2,1, .cz (aV less)⟩)] [.s (.agg [.any, .sl 1001 0 n, .val (.bool b)]),vv (I6 c)] [] (vv (I6 (root less c))) []:=by
 subst hn
 refine cu (nt:=18) Try.func102 rfl rfl (by simp) fun w0 ω0=> ?_
 (refine au (ah (aa rfl (du rfl rfl rfl rfl) (aa rfl (ay rfl rfl) (aA (ax (au (aQ ?_))))))))
 refine bR (fun k:Nat=>St.of [(1,vv (I6 k)),(2,o1 (.ptr 2 0))] [(1001,⟨false,2,1, .cz (aV less)⟩),(2,⟨true,108,3, .flat [.any, .sl 1001 0 less.length, .val (.bool b)]⟩)]) (fun k=>k < less.length∧root less k=root less c) (fun k=>k) c ⟨hc,rfl⟩ (Wk.of ⟨rfl,rfl,aq⟩ ⟨rfl,rfl,aq⟩ trivial) ?_
 rintro k ⟨hk,hr⟩
 (refine au (au (ah ?_));apply aa rfl;(exact aB (d:=1) rfl rfl rfl ae);apply aa rfl;exact aN rfl ae rfl rfl rfl rfl;apply aa rfl;exact an rfl rfl;apply aa rfl;exact aP rfl rfl rfl rfl rfl ae aY aC aZ;apply aa rfl;exact bO rfl ae rfl rfl rfl aK;refine aa rfl (an rfl rfl) (aa rfl (bd rfl rfl rfl rfl) (aA (ax ?_))))
 have hk2:=hd k hk
 refine bf rfl (fun h=> ?_) (fun h=> ?_)
 ·have hne:aD less k≠k:=by simpa using h
  have hz:aD less k=(((aD less k).toNat:Nat):Int):=(Int.toNat_of_nonneg hk2.1).symm
  (refine aU (ax (aQ (ah ?_)));apply aa rfl;(exact aB (d:=1) rfl rfl rfl ae);apply aa rfl;exact aN rfl ae rfl rfl rfl rfl;apply aa rfl;exact an rfl rfl;apply aa rfl;exact aP rfl rfl rfl rfl rfl ae aY aC aZ;apply aa rfl;exact bO rfl ae rfl rfl rfl aK;refine aa rfl (ay rfl rfl) (aA (bp ?_)))
  exact bu (aD less k).toNat ⟨ab,(fO hd hk hne).symm.trans hr⟩ ab (Wk.of ⟨congrArg (fun z=>some (vv (I6 z))) hz,rfl,aq⟩ ⟨rfl,rfl,aq⟩ trivial)
 ·have he:aD less k=k:=by simpa using h
  have e:k=root less c:=by rw [←hr,de he]
  (refine bI (aF (aF (bt (ax (au (ah (aa rfl (an rfl rfl) (aa rfl (ay rfl rfl) (aA (ax (bw ?_))))))))))))
  exact bQ (.inl rfl) rfl (.tmp (congrArg (fun z:Nat=>some (vv (I6 z))) e)) trivial trivial
abbrev zm (m n:Nat) (b:Bool):AV:= .s (.agg [.sl 1000 0 m, .sl 1001 0 n, .val (.bool b)])
theorem iC (im:List (List Int)) (less:List Int) (m n c g:Nat) (b:Bool) (hm:im.length=m) (hn:less.length=n) (hd:Down less) (hc:c < im.length) (hg:g < (aT im c).length) (he:bT im c g < less.length):
  FC Try.prog 90 [(1000,AY im),(1001,zk less)] [zm m n b,vv (I6 c),vv (I6 g)] [] (vv (I6 (image im less c g))) []:=by
 subst hm hn
 refine cu (nt:=21) Try.func90 rfl rfl (by simp) fun w0 ω0=> ?_
 (refine au (ah (aa rfl (du rfl rfl rfl rfl) (aa rfl (ay rfl rfl) (aA (ax (au (ah ?_)))))));apply aa rfl;(exact aB (d:=0) rfl rfl rfl ae);apply aa rfl;exact aN rfl ae rfl rfl rfl rfl;apply aa rfl;exact an rfl rfl;apply aa rfl;exact aP rfl rfl rfl rfl rfl ae aY aC aZ;apply aa rfl;exact aM rfl ae rfl rfl rfl aK df;apply aa rfl;exact an rfl rfl;apply aa rfl;exact bn rfl rfl rfl rfl rfl ae aK aY aC aZ;apply aa rfl;exact br rfl ae rfl rfl rfl aK aK;refine aa rfl (ay rfl rfl) (aA (ax (au (au (ah (aa rfl (an rfl rfl) (aa rfl (bd rfl rfl rfl rfl) (aA (ax ?_))))))))))
 refine bY rfl (fun h=> ?_) (fun h=> ?_)
 ·have e:image im less c g= -1:=if_pos h
  (refine au (ah (aa rfl (ay rfl rfl) (aA (ax (bw (aJ ?_)))))))
  exact bQ (.inl rfl) rfl (.tmp (congrArg (fun z=>some (vv (I6 z))) e.symm)) trivial trivial
 ·have h:¬bT im c g < 0:=h
  have e:image im less c g=root less (bT im c g).toNat:=if_neg h
  (refine aU (ax (au (ah (aa rfl (bz rfl rfl rfl rfl rfl rfl ae) ?_))));apply aa rfl;exact an rfl rfl;apply aa rfl;(exact aL (jl less _ (bT im c g).toNat b rfl hd ab) ae rfl rfl ⟨⟨.inr ⟨rfl,rfl⟩, .inl rfl, .inl rfl,aq⟩,Fp ab,aq⟩ ⟨⟨_,rfl, .inl rfl⟩,aq⟩ rfl rfl);refine aa rfl (ay rfl rfl) (aA (ax (bw ?_))))
  exact bQ (.inl rfl) rfl (.tmp (congrArg (fun z=>some (vv (I6 z))) e.symm)) trivial trivial
end Go.Proofs.Ytfpcfckocmmcnaa
namespace Go.Proofs.Ytfpcfckocmmcnaa
open Go.RowKit
theorem qD (im:List (List Int)) (less:List Int) (m n g:Nat) (b:Bool) (hm:im.length=m) (hn:less.length=n) (h:less.length=2000):
  FC Try.prog 99 [(1000,cS im),(1001,cD less)] [zm m n b,vv (I6 g)] [(1000,cS im),(1001,cD less)] (.tup [.agg [.sl 1000 0 m, .sl 1001 0 n, .val (.bool true)], .one (.val (I6 0))]) []:=by
 subst hm hn
 refine cu (nt:=39) Try.func99 rfl rfl (by simp) fun w0 ω0=> ?_
 (refine au (ah (aa rfl (du rfl rfl rfl rfl) ?_));apply aa rfl;exact dc [.slice none 0 0, .slice none 0 0, .bool false] rfl ae;refine aa rfl (ay rfl rfl) (aA (ax (au (ah ?_))));apply aa rfl;(exact aB (d:=1) rfl rfl rfl ae);apply aa rfl;exact aN rfl ae rfl rfl rfl rfl;apply aa rfl;exact bF rfl rfl rfl ae;refine aa rfl (ay rfl rfl) (aA (ax (au (au (ah (aa rfl (an rfl rfl) (aa rfl (bd rfl rfl rfl rfl) (aA (ax ?_))))))))))
 refine bf rfl (fun e=> ?_) (fun e=> ?_)
 ·(refine au (ah ?_);apply aa rfl;(exact aB (d:=2) rfl rfl rfl ae);apply aa rfl;exact fB rfl rfl rfl rfl rfl rfl ae rfl;refine aA (ax (au (ah (aa rfl (bz rfl rfl rfl rfl rfl rfl ae) ?_))));apply aa rfl;exact bj rfl rfl rfl rfl rfl rfl rfl rfl ae rfl;refine aa rfl (ay rfl rfl) (aA (ax (bw (aJ ?_)))))
  exact dJ (.inl rfl) rfl (.cell rfl rfl rfl rfl rfl (by kernel_rfl)) (.tmp rfl) ⟨rfl,rfl,aq⟩ trivial
 ·rw [h] at e;cases e
theorem od (im:List (List Int)) (less:List Int) (m n g:Nat) (b:Bool) (hm:im.length=m) (hn:less.length=n) (h:less.length < 2000) (hg:g≤1000) (hi:im.length≤10000):
  FC Try.prog 99 [(1000,cS im),(1001,cD less)] [zm m n b,vv (I6 g)] [(1000,cS (im ++ [List.replicate g (-1)])),(1001,cD (less ++ [(n:Int)]))] (.tup [.agg [.sl 1000 0 (m + 1), .sl 1001 0 (n + 1), .val (.bool b)], .one (.val (I6 n))]) []:=by
 subst hm hn
 refine cu (nt:=39) Try.func99 rfl rfl (by simp) fun w0 ω0=> ?_
 (refine au (ah (aa rfl (du rfl rfl rfl rfl) ?_));apply aa rfl;exact dc [.slice none 0 0, .slice none 0 0, .bool false] rfl ae;refine aa rfl (ay rfl rfl) (aA (ax (au (ah ?_))));apply aa rfl;(exact aB (d:=1) rfl rfl rfl ae);apply aa rfl;exact aN rfl ae rfl rfl rfl rfl;apply aa rfl;exact bF rfl rfl rfl ae;refine aa rfl (ay rfl rfl) (aA (ax (au (au (ah (aa rfl (an rfl rfl) (aa rfl (bd rfl rfl rfl rfl) (aA (ax ?_))))))))))
 refine bf rfl (fun e=> ?_) (fun e=> ?_)
 ·exfalso;simp at e;omega
 ·(refine aU (ax (au (ah ?_)));apply aa rfl;(exact wg (E:=2) (k:=1) rfl ae);refine aa rfl (ay rfl rfl) (aA (ax (au (au (ah (aa rfl (ay rfl rfl) (aA (ax (aQ ?_))))))))))
  refine bR (fun k:Nat=>St.of [(1,vv (I6 g)),(2,o1 (.ptr 2 0)),(4,o1 (.ptr 4 0)),(6,vv (I6 less.length)),(7,o1 (.sl 16 0 k)),(8,vv (I6 k))] [(1000,cS im),(1001,cD less),(2,⟨true,108,3, .flat [.sl 1000 0 im.length, .sl 1001 0 less.length, .val (.bool b)]⟩),(4,⟨true,108,3, .flat [.val (.slice none 0 0), .val (.slice none 0 0), .val (.bool false)]⟩),(16,⟨true,2,1, .cz (aV (List.replicate k (-1)))⟩)]) (fun k=>k≤g) (fun k=>g - k) 0 (Nat.zero_le _) (Wk.of ⟨rfl,rfl,rfl,rfl,rfl,rfl,aq⟩ ⟨rfl,rfl,rfl,rfl,rfl,aq⟩ trivial) ?_
  intro k hk
  (refine au (au (ah (aa rfl (an rfl rfl) (aa rfl (an rfl rfl) (aa rfl (bd rfl rfl rfl rfl) (aA (ax ?_))))))))
  refine bY rfl (fun h=> ?_) (fun h=> ?_)
  ·(refine aU (ax (au (aQ (ah (aa rfl (an rfl rfl) ?_)))));apply aa rfl;(exact cN (E:=2) rfl ae rfl);apply aa rfl;(exact fo rfl ae rfl rfl rfl (by first | rfl | assumption | (simp;done)) rfl rfl ab);refine aa rfl (ay rfl rfl) (aA (bp (ax (ah (aa rfl (an rfl rfl) ?_)))));apply aa rfl;exact bG rfl rfl rfl bL;refine aa rfl (ay rfl rfl) (aA ?_))
   exact bu (k + 1) ab ab (Wk.of ⟨rfl,rfl,rfl,rfl,rfl,rfl,aq⟩ ⟨rfl,rfl,rfl,rfl,by rw [List.replicate_succ'];rfl,aq⟩ trivial)
  ·obtain rfl:k=g:=by omega
   (refine bI (aF (aF (bt (ax (au (ah ?_))))));apply aa rfl;(exact aB (d:=0) rfl rfl rfl ae);apply aa rfl;exact aN rfl ae rfl rfl rfl rfl;apply aa rfl;exact an rfl rfl;apply aa rfl;(exact rC (E:=24) rfl ae rfl rfl rfl);apply aa rfl;(exact lO rfl ae rfl rfl (by first | rfl | assumption | (simp;done)) rfl rfl rfl (by first | rfl | assumption | (simp;done)) rfl ab);apply aa rfl;(exact aB (d:=0) rfl rfl rfl ae);apply aa rfl;exact fB rfl rfl rfl rfl rfl rfl ae rfl;refine aA (ax (au (ah ?_)));apply aa rfl;(exact aB (d:=1) rfl rfl rfl ae);apply aa rfl;exact aN rfl ae rfl rfl rfl rfl;apply aa rfl;exact an rfl rfl;apply aa rfl;(exact cN (E:=2) rfl ae rfl);apply aa rfl;(exact fo rfl ae rfl rfl rfl (by first | rfl | assumption | (simp;done)) rfl rfl ab);apply aa rfl;(exact aB (d:=1) rfl rfl rfl ae);apply aa rfl;exact fB rfl rfl rfl rfl rfl rfl ae rfl;refine aA (ax (au (ah (aa rfl (bz rfl rfl rfl rfl rfl rfl ae) ?_))));refine aa rfl (an rfl rfl) (aa rfl (bj rfl rfl rfl rfl rfl rfl rfl rfl ae rfl) ?_);refine aa rfl (ay rfl rfl) (aA (ax (bw ?_))))
   exact dJ (.inl rfl) rfl (.cell rfl rfl rfl rfl rfl (by kernel_rfl)) (.tmp rfl) ⟨rfl,rfl,aq⟩ trivial
end Go.Proofs.Ytfpcfckocmmcnaa
namespace Go.Proofs.Ytfpcfckocmmcnaa
open Go.RowKit
theorem uB (a b:Option Addr) (n ca cb:Nat) (zs:List Int) (w:World) (ha:cW w a n zs) (hb:cW w b n zs):
  Calls Try.prog 70 #[.slice a n ca, .slice b n cb] w fun e w'=>e= .returned (.bool true)∧∃m,w'=w.drewN m:=by
 have hla:=ha.2.1
 have hl':((n:Int) != (n:Int))=false:=by simp
 go_enter Try.func70,Try.ntmps70
 go_wp2
 go_loopw [5] (fun i wr=>∃k:Nat,k≤n∧i= .int .i64 k∧∃m,wr=w.drewN m) (fun i _=>n - (intOf i).toNat)
 case atStart=>exact ⟨0,Nat.zero_le _,rfl,0,rfl⟩
 case round=>
  obtain ⟨k,hk,rfl,m,rfl⟩:=hrel
  by_cases hlt:k < n
  ·obtain ⟨ba,oa,rfl,hca⟩:=ha.at_ hlt
   obtain ⟨bb,ob,rfl,hcb⟩:=hb.at_ hlt
   have he':(aD zs k != aD zs k)=false:=by simp
   go_wp2_with fail
   go_quiet (fail)
   go_wp2
   go_roundw
   case rel=>exact ⟨k + 1,ab,by go_num,_,rfl⟩
   case measure=>first | (simp [intOf];done) | (simp [intOf];omega)
  ·obtain rfl:k=n:=by omega
   go_wp2
   go_ret
   exact ⟨rfl,_,rfl⟩
theorem Cm {v v':Value} {zss:List (List Int)} (w:World) (h:mN w v zss) (h':mN w v' zss):
  Calls Try.prog 36 #[v,v'] w fun e w'=>e= .returned (.bool true)∧Below w.heap.size w w':=by
 obtain ⟨ao,n,c,rfl,hi⟩:=h
 obtain ⟨ao',n',c',rfl,hi'⟩:=h'
 obtain rfl:n=n':=by rw [←hi.1,←hi'.1]
 have hbd:=hi.2.1
 have hl':((n:Int) != (n:Int))=false:=by simp
 go_enter Try.func36,Try.ntmps36
 go_wp2
 go_loopw [5] (fun i wr=>∃k:Nat,k≤n∧i= .int .i64 k∧Below w.heap.size w wr) (fun i _=>n - (intOf i).toNat)
 case atStart=>exact ⟨0,Nat.zero_le _,rfl,Below.refl _ _⟩
 case round=>
  obtain ⟨k,hk,rfl,hb⟩:=hrel
  by_cases hlt:k < n
  ·obtain ⟨b1,o1,a1,n1,c1,rfl,hc1,hin1⟩:=(hi.below hb).at_ hlt
   obtain ⟨b2,o2,a2,n2,c2,rfl,hc2,hin2⟩:=(hi'.below hb).at_ hlt
   obtain rfl:n1=n2:=by rw [←hin1.1,←hin2.1]
   have HH:=Lib.hid hi
   have HH':=Lib.hid hi'
   clear hi hi'
   go_wp2_with fail
   go_quiet ((go_at_call 70;exact Calls.quiet_of (uB a1 a2 n1 c1 c2 (aT zss k) _ (hin1.drewN _) (hin2.drewN _))))
   go_wp2
   go_roundw
   case rel=>exact ⟨k + 1,ab,by go_num,below_drewN hb _⟩
   case measure=>first | (simp [intOf];done) | (simp [intOf];omega)
  ·obtain rfl:k=n:=by omega
   go_wp2
   go_ret
   exact ⟨rfl,hb⟩
end Go.Proofs.Ytfpcfckocmmcnaa
namespace Go.Proofs.Ytfpcfckocmmcnaa
open Go.RowKit
theorem DM {zs:List Int} (h:FV zs):zs.length≤7:=by
 rcases h with h | ⟨ys,z,h,_,rfl⟩ | ⟨ys,h,rfl⟩<;>have:=p9 h<;>simp<;>omega
end Go.Proofs.Ytfpcfckocmmcnaa
namespace Go.Proofs.Ytfpcfckocmmcnaa
open Go.RowKit
theorem ofInt_u64 (a:Nat) (ha:a < 18446744073709551616):(BitVec.ofInt 64 (a:Int)).toNat=a:=by
 rw [BitVec.ofInt_natCast,BitVec.toNat_ofNat];exact Nat.mod_eq_of_lt ab
theorem Av (a:Nat) (ha:a≤1048576):bits .and .u64 (a:Int) 4294967295=(a:Int):=by
 show IntKind.u64.wrap ((BitVec.ofInt 64 (a:Int) &&& BitVec.ofInt 64 ((4294967295:Nat):Int)).toNat:Int)=_
 rw [BitVec.toNat_and,ofInt_u64 a ab,ofInt_u64 4294967295 ab,show (4294967295:Nat)=2 ^ 32 - 1 from rfl,Nat.and_two_pow_sub_one_eq_mod,Nat.mod_eq_of_lt ab]
 simp [IntKind.wrap,IntKind.signed,IntKind.bits];omega
theorem kQ (a:Nat) (ha:a≤4294967295):IntKind.u64.wrap ((a:Nat):Int)=(a:Int):=by
 simp [IntKind.wrap,IntKind.signed,IntKind.bits];omega
theorem xD (a b:Nat) (w:World) (ha:a≤1048576) (hb:b≤1048576) (hab:a * b≤4294967295):
  Calls Try.prog 82 #[.int .u64 a, .int .u64 b] w fun e w'=>e= .returned (.tuple #[.int .u64 0, .int .u64 ((a * b:Nat):Int)])∧w=w':=by
 have e1:(a:Int) / 4294967296=0:=by omega
 have e2:(b:Int) / 4294967296=0:=by omega
 have e3:bits .and .u64 (a:Int) 4294967295=(a:Int):=Av a ha
 have e4:bits .and .u64 (b:Int) 4294967295=(b:Int):=Av b hb
 have e5:(a:Int) * (b:Int)=((a * b:Nat):Int):=by rw [Int.natCast_mul]
 have e6:IntKind.u64.wrap ((a:Int) * (b:Int))=((a * b:Nat):Int):=by rw [e5];exact kQ _ hab
 have e7:((a:Int) * (b:Int)) / 4294967296=0:=by rw [e5];omega
 have e8:bits .and .u64 0 4294967295=0:=by decide +kernel
 have e9:IntKind.u64.wrap 0=0:=by decide +kernel
 have H6:=Lib.hid e6
 have H5:=Lib.hid e5
 clear e5 e6
 have e10:IntKind.u64.wrap ((a:Int) * (b:Int))=(a:Int) * (b:Int):=by rw [H6.out,H5.out]
 go_enter Try.func82,Try.ntmps82
 go_wp2
 go_ret2
 exact ⟨by simp,rfl⟩
def dM {α:Type} (zs:List α) (count:Nat):List α:=(List.replicate count zs).flatten
theorem jI {α:Type} (zs:List α) (count:Nat):(dM zs count).length=zs.length * count:=by
 unfold dM;rw [List.length_flatten];simp;exact Nat.mul_comm _ _
theorem lK {α:Type} (zs:List α) (a b:Nat):dM zs (a + b)=dM zs a ++ dM zs b:=by
 unfold dM;rw [←List.replicate_append_replicate,List.flatten_append]
theorem sq {α:Type} (zs:List α):dM zs 1=zs:=by simp [dM]
theorem vW {α:Type} {zs:List α} {count j c:Nat} (hj:j≤count) (hc:c≤zs.length * (count - j)):(dM zs count).take (zs.length * j + c)=(dM zs count).take (zs.length * j) ++ (dM zs count).take c:=by
 have h1:dM zs count=dM zs j ++ dM zs (count - j):=by rw [←lK];congr 1;omega
 have h2:dM zs count=dM zs (count - j) ++ dM zs j:=by rw [←lK];congr 1;omega
 have l1:=jI zs j
 have l2:=jI zs (count - j)
 have e3:(dM zs count).take c=(dM zs (count - j)).take c:=by rw [h2,List.take_append_of_le_length ab]
 have e4:(dM zs count).take (zs.length * j)=dM zs j:=by rw [h1,←l1,List.take_left'];rfl
 rw [e3,e4,h1,List.take_append,List.take_of_length_le ab]
 congr 2;omega
theorem sr {α:Type} {R:List α} {z:α} {k c T:Nat} (hR:R.length=T) (hk:k + c≤T) (h:R.take (k + c)=R.take k ++ R.take c):splice (R.take k ++ List.replicate (T - k) z) k (R.take c)=R.take (k + c) ++ List.replicate (T - (k + c)) z:=by
 unfold splice
 have l1:(R.take k).length=k:=by simp;omega
 have l2:(R.take c).length=c:=by simp;omega
 rw [List.take_append_of_le_length ab,List.take_of_length_le ab,l2,List.drop_append,List.drop_of_length_le ab,l1,h]
 simp
 omega
theorem yZ {α β:Type} (f:α→β) (xs:List α) (k:Nat) (ys:List α):(splice xs k ys).map f=splice (xs.map f) k (ys.map f):=by
 unfold splice;simp
theorem Own.Fo {w:World} {base E g T:Nat} {xs:List Value} (h:Own w base E (some ⟨g,0,none⟩) T T xs):w.heap[g]? =some (.cells xs.toArray E (0,0)):=by
 rcases h.1.2 with ⟨h2,_⟩ | ⟨g',cap,cur,hv,_,hh,_,_,hs,ht⟩
 ·cases h2
 ·injection hv with h1 h2 h3
  injection h1 with h1;injection h1 with h1
  subst h1 h3
  have:cur.toList=xs:=by rw [←ht,List.take_of_length_le];rw [Array.length_toList,hs];exact Nat.le_refl _
  rw [hh,←this,Array.toArray_toList]
theorem Own.of_heap {w w':World} {base E g T:Nat} {xs ys:List Value} (h:Own w base E (some ⟨g,0,none⟩) T T xs) (hh:w'.heap[g]? =some (.cells ys.toArray E (0,0))) (hl:ys.length=T):Own w' base E (some ⟨g,0,none⟩) T T ys:=by
 refine ⟨⟨by rw [hl,Nat.mul_one], .inr ⟨g,T,ys.toArray,rfl,(h.lt g rfl).1,hh,Nat.le_refl _,by have:=h.2;simp [maxLen];omega,by simp [hl], ?_⟩⟩,h.2⟩
 simp [←hl]
section
variable {P:Program} {ops:Array Oper} {rest:List Oper} {o:Oper} {a:Act} {Q:Exit→Act→World→Prop}
theorem BX {S E:TypeId} {z:Value} {bytes:Nat} (et:ET P S E z bytes) (w:World) (hg:o.guard=none) (d s:Operand) (ho:o.op= .call { callee:= .builtin .copy,args:= #[d,s],argTypes:= #[S,S] })
  (base g T off:Nat) (xs cs:List Value) (hown:Own w base E (some ⟨g,0,none⟩) T T xs) (dp:Option Addr) (dLen dCap:Nat) (hd:a.eval d= .slice dp dLen dCap) (sp:Option Addr) (sLen sCap:Nat) (hs:a.eval s= .slice sp sLen sCap)
  (hn:cs.length=Nat.min sLen dLen) (hpos:0 < cs.length→dp=some ⟨g,off,none⟩∧∃ad,sp=some ad∧∀j v,cs[j]? =some v→w.cell? (ad.add j)=some v) (hfit:off + cs.length≤T) (h1:∀v∈cs,v.oneCell'=true)
  (h:∀w',Own w' base E (some ⟨g,0,none⟩) T T (splice xs off cs)→Below g w w'→wpList P ops Q rest (a.put o.dst (goInt cs.length)) w'):wpList P ops Q (o :: rest) a w:=by
 obtain ⟨i,hi,hz,hsz,hby⟩:=info_parts et.info
 refine wpList_copy_splice hg d s S S ho E et.und (by rw [hi];simp [hsz]) dp sp dLen dCap sLen sCap hd hs g off xs E hown.Fo cs hn hpos (by rw [hown.len];exact hfit) h1 g w (Below.refl _ _) (Nat.le_refl _) ?_
 intro w' hh hb
 exact h w' (hown.of_heap hh.out (by rw [length_splice _ _ _ (by rw [hown.len];exact hfit),hown.len])) hb
theorem Fg {S E:TypeId} {z:Value} {bytes:Nat} (et:ET P S E z bytes) {w:World} {K:Act→World→Prop} {X:Prop} (hg:o.guard=none) (d s:Operand) (ho:o.op= .call { callee:= .builtin .copy,args:= #[d,s],argTypes:= #[S,S] })
  (base g T off:Nat) (xs cs:List Value) (hown:Own w base E (some ⟨g,0,none⟩) T T xs) (dp:Option Addr) (dLen dCap:Nat) (hd:a.eval d= .slice dp dLen dCap) (sp:Option Addr) (sLen sCap:Nat) (hs:a.eval s= .slice sp sLen sCap)
  (hn:cs.length=Nat.min sLen dLen) (hpos:0 < cs.length→dp=some ⟨g,off,none⟩∧∃ad,sp=some ad∧∀j v,cs[j]? =some v→w.cell? (ad.add j)=some v) (hfit:off + cs.length≤T) (h1:∀v∈cs,v.oneCell'=true)
  (h:∀w',Own w' base E (some ⟨g,0,none⟩) T T (splice xs off cs)→Below g w w'→K (a.put o.dst (goInt cs.length)) w'):if Region.wanted o (yielded ops a.tmps)=true then Oper.wp P o a w K Q else X:=by
 obtain ⟨i,hi,hz,hsz,hby⟩:=info_parts et.info
 refine step_copy_splice hg d s S S ho E et.und (by rw [hi];simp [hsz]) dp sp dLen dCap sLen sCap hd hs g off xs E hown.Fo cs hn hpos (by rw [hown.len];exact hfit) h1 g w (Below.refl _ _) (Nat.le_refl _) ?_
 intro w' hh hb
 exact h w' (hown.of_heap hh.out (by rw [length_splice _ _ _ (by rw [hown.len];exact hfit),hown.len])) hb
end
theorem kK (ao:Option Addr) (n c count:Nat) (zs:List Int) (w:World) (h:cW w ao n zs) (hn:n≤1048576) (hc:count≤1048576) (hnc:n * count≤1048576) (hpos:0 < n * count):
  Calls Try.prog 53 #[.slice ao n c, .int .i64 count] w fun e w'=>∃ao' c',e= .returned (.slice ao' (n * count) c')∧Own w' w.heap.size 2 ao' (n * count) c' ((dM zs count).map (Value.int .i64))∧Below w.heap.size w w':=by
 have HL:=Lib.hid h.1
 have hn0:0 < n:=Nat.pos_of_mul_pos_right hpos
 have hc0:0 < count:=Nat.pos_of_mul_pos_left hpos
 have hle:n≤n * count:=Nat.le_mul_of_pos_right _ hc0
 obtain ⟨T,hT⟩:∃T,n * count=T:=⟨_,rfl⟩
 rw [hT] at hpos hle ⊢
 have HT:=Lib.hid hT
 have hT2:T≤1048576:=by omega
 clear hT hnc
 have hRl:((dM zs count)).length=T:=by rw [jI,HL.out,HT.out]
 have HR:=Lib.hid hRl
 clear hRl
 obtain ⟨b,off,rfl,hb0,hcells⟩:=h.GK hn0
 obtain ⟨cs,hcs⟩:∃cs:List Value,cs=((dM zs count).take n).map (Value.int .i64):=⟨_,rfl⟩
 have hcl:cs.length=n:=by rw [hcs];simp [HR.out];omega
 have hc1:∀v∈cs,v.oneCell'=true:=by rw [hcs];exact ints_oneCell _ _
 have hcsv:∀j v,cs[j]? =some v→w.cell? ⟨b,off + j,none⟩=some v:=by
  intro j v hv
  have hj:j < n:=by have:=(List.getElem?_eq_some_iff.1 hv).1;omega
  have hrn:(dM zs count).take n=zs:=by
   have e:dM zs count=zs ++ dM zs (count - 1):=by
    have:count=1 + (count - 1):=by omega
    conv=>lhs;rw [this]
    rw [lK,sq]
   rw [e,←HL.out,List.take_left'];rfl
  rw [hcs,hrn,List.getElem?_map,List.getElem?_eq_getElem (by rw [HL.out];exact hj)] at hv
  rw [hcells j hj,←hv,cA (by rw [HL.out];exact hj)];rfl
 have HCS:=Lib.hid hcs
 have HCL:=Lib.hid hcl
 have HC1:=Lib.hid hc1
 have HCV:=Lib.hid hcsv
 have x1:=kQ n ab
 have x2:=kQ count ab
 clear hcs hcl hc1 hcsv hcells
 go_enter Try.func53,Try.ntmps53
 go_wp2_with (first | (go_at_call 82;refine (xD n count _ hn hc (by rw [HT.out];omega)).mono ?_;rintro e w' ⟨rfl,rfl⟩;rw [HT.out]) | (at_make;refine kh yi _ rfl _ _ rfl w.heap.size _ _ _ _ T rfl rfl rfl rfl ab (Nat.le_refl _) ?_;intro w1 hown hgrow hsz;have hb1:Below w.heap.size w w1:=(Below.refl _ _).grown hgrow (Nat.le_refl _) (by simp);clear hgrow) | (with_reducible refine BX (o:=⟨some 33,_,_,_,_,_⟩) yi _ rfl (.tmp 31) (.tmp 32) rfl w.heap.size w.heap.size T 0 _ cs hown _ _ _ rfl _ _ _ rfl ?_ ?_ ?_ HC1.out ?_))
 ·rw [HCL.out];exact (Nat.min_eq_left hle).symm
 ·exact fun _ j v hv=>(hb1.cell (p:=⟨b,off + j,none⟩) hb0).trans (HCV.out j v hv)
 ·rw [HCL.out];omega
 intro w2 o2 b2
 have hb2:Below w.heap.size w w2:=hb1.trans b2
 have e0:splice (List.replicate T (Value.int .i64 0)) 0 cs=((dM zs count).take n ++ List.replicate (T - n) 0).map (Value.int .i64):=by
  rw [HCS.out,←List.map_replicate]
  have:=sr (R:=dM zs count) (z:=(0:Int)) (k:=0) (c:=n) HR.out ab (by simp)
  simp only [List.take_zero,List.nil_append,Nat.zero_add,Nat.sub_zero] at this
  rw [←this]
  simp [splice]
 rw [e0] at o2
 rw [HCL.out]
 clear e0 hown hsz hb1 b2 HCV HC1 HCS HCL
 go_wp2
 go_loopw [8] (fun i wr=>∃k j:Nat,i= .int .i64 k∧0 < k∧k≤T∧(k=n * j∧j≤count∨k=T)∧Own wr w.heap.size 2 (some ⟨w.heap.size,0,none⟩) T T (((dM zs count).take k ++ List.replicate (T - k) 0).map (Value.int .i64))∧Below w.heap.size w wr) (fun i _=>T - (intOf i).toNat)
 case atStart=>exact ⟨n,1,by simp,hn0,hle, .inl ⟨ab,ab⟩,o2,hb2⟩
 case round=>
  obtain ⟨k,j,rfl,hk0,hkT,hkj,ho,hb⟩:=hrel
  clear o2 hb2
  have HK:=Lib.hid hkj
  clear hkj
  by_cases hlt:k < T
  ·obtain ⟨c2,hc2⟩:∃c2,c2=Nat.min k (T - k):=⟨_,rfl⟩
   have hc2a:c2≤k:=by rw [hc2];exact Nat.min_le_left _ _
   have hc2b:c2≤T - k:=by rw [hc2];exact Nat.min_le_right _ _
   have hc2c:0 < c2:=by rw [hc2];exact Nat.lt_min.2 ⟨hk0,ab⟩
   have hdb:(dM zs count).take (k + c2)=(dM zs count).take k ++ (dM zs count).take c2:=by
    rcases HK.out with ⟨e,hj⟩ | e
    ·have hx:c2≤zs.length * (count - j):=by rw [HL.out,Nat.mul_sub,HT.out,←e];exact hc2b
     have:=vW (zs:=zs) hj hx
     rwa [HL.out,←e] at this
    ·omega
   obtain ⟨cs,hcs⟩:∃cs:List Value,cs=((dM zs count).take c2).map (Value.int .i64):=⟨_,rfl⟩
   have hcl:cs.length=c2:=by rw [hcs];simp [HR.out];omega
   have hc1:∀v∈cs,v.oneCell'=true:=by rw [hcs];exact ints_oneCell _ _
   have hcsv:∀j v,cs[j]? =some v→wr.cell? ⟨w.heap.size,j,none⟩=some v:=by
    intro j v hv
    have hj:j < c2:=by have:=(List.getElem?_eq_some_iff.1 hv).1;omega
    obtain ⟨g',eg, -, -, -,hcell, -⟩:=ho.form ab
    injection eg with eg;injection eg with eg;subst eg
    rw [hcell j ab,←hv,hcs,List.getElem?_map,List.getElem?_map,List.getElem?_append_left (by simp [HR.out];omega),List.getElem?_take,List.getElem?_take,if_pos ab,if_pos ab]
   have HD:=Lib.hid hdb
   have HC:=Lib.hid hcs
   have HCL:=Lib.hid hcl
   have HC1:=Lib.hid hc1
   have HCV:=Lib.hid hcsv
   have HC2:=Lib.hid hc2
   have hTk:((T - k:Nat):Int)=(T:Int) - k:=by omega
   clear hdb hcs hcl hc1 hcsv hc2 hTk
   go_wp2_with fail
   have HB:=Lib.hid hb
   have HS:=Lib.hid (show ((k:Nat):Int) + ((c2:Nat):Int)=((k + c2:Nat):Int) by omega)
   have hw:IntKind.i64.wrap (((k + c2:Nat):Nat):Int)=((k + c2:Nat):Int):=by simp [IntKind.wrap,IntKind.signed,IntKind.bits];omega
   have HW:=Lib.hid hw
   clear hw
   go_region_held3 (fun w'=>Below w.heap.size w w') (first | exact HB.out.drew | assumption) (first | (refine Fg (o:=⟨some 45,_,_,_,_,_⟩) yi rfl (.tmp 41) (.tmp 44) rfl w.heap.size w.heap.size T k _ cs (ho.drewN 1) _ _ _ rfl _ _ _ rfl ?_ ?_ ?_ HC1.out ?_;(rw [HCL.out,HC2.out]);(intro _;exact ⟨if_neg ab,_,rfl,fun j v hv=>by have hx:=HCV.out j v hv;by_cases e:j=0<;>simp_all [Addr.add]⟩);(rw [HCL.out];omega);intro w3 o3 b3;have b4:Below w.heap.size w w3:=HB.out.drew.trans b3))
   rw [HCL.out,HS.out,HW.out]
   have o4:Own w3 w.heap.size 2 (some ⟨w.heap.size,0,none⟩) T T (((dM zs count).take (k + c2) ++ List.replicate (T - (k + c2)) 0).map (Value.int .i64)):=by
    have e:=sr (R:=dM zs count) (z:=(0:Int)) (k:=k) (c:=c2) HR.out ab HD.out
    rw [←e]
    rw [HC.out] at o3
    rw [yZ]
    exact o3
   go_roundw
   case rel=>
    refine ⟨_,_,_,_,_,_,_,_,_,_,_,_,_,_,⟨k + c2,2 * j,rfl,ab,ab, ?_,o4,b4⟩,rfl⟩
    rcases HK.out with ⟨e,hj⟩ | e
    ·by_cases hx:k≤T - k
     ·have hc2k:c2=k:=by rw [HC2.out];exact Nat.min_eq_left hx
      left
      have e2:n * (2 * j)=k + k:=by rw [e,Nat.mul_left_comm];omega
      refine ⟨ab, ?_⟩
      have:n * (2 * j)≤n * count:=by rw [HT.out];omega
      exact Nat.le_of_mul_le_mul_left this hn0
     ·have hc2k:c2=T - k:=by rw [HC2.out];exact Nat.min_eq_right ab
      right;omega
    ·omega
   case measure=>simp [intOf];omega
  ·obtain rfl:k=T:=by omega
   rw [Nat.sub_self,List.replicate_zero,List.append_nil,List.take_of_length_le (Nat.le_of_eq HR.out)] at ho
   go_wp2
   go_ret
   exact ⟨_,_,rfl,ho,hb⟩
end Go.Proofs.Ytfpcfckocmmcnaa
namespace Go.Proofs.Ytfpcfckocmmcnaa
open Go.RowKit
theorem AQ {α:Type} (zs:List α) (j:Nat):dM zs (j + 1)=dM zs j ++ zs:=by rw [lK,sq]
theorem y5 {i:Nat} (h:i≤1048576):wrap64 (i:Int)=i:=by unfold wrap64;omega
theorem Bn {i:Nat} {z:Int} (h:z=(i:Int)):(intOf (.int .i64 z)).toNat < (intOf (.int .i64 ((i + 1:Nat):Int))).toNat:=by subst h;simp [intOf]
theorem jT (ao:Option Addr) (n c k:Nat) (zs:List Int) (w:World) (h:cW w ao n zs) (hk:k≤1048576) (hnk:n * k≤1048576):
  Calls Try.prog 23 #[.slice ao n c, .int .i64 k] w fun e w'=>∃ao' c',e= .returned (.slice ao' (n * k) c')∧Own w' w.heap.size 2 ao' (n * k) c' ((dM zs k).map (Value.int .i64))∧Below w.heap.size w w':=by
 go_enter Try.func23,Try.ntmps23
 go_wp2
 go_loopw [1,5] (fun i v wr=>∃(j a':Nat) (ao':Option Addr) (c':Nat),j≤k∧i= .int .i64 ((k - j:Nat):Int)∧v= .slice ao' a' c'∧a'=n * j∧Own wr w.heap.size 2 ao' a' c' ((dM zs j).map (Value.int .i64))∧Below w.heap.size w wr) (fun i _ _=>(intOf i).toNat)
 case atStart=>exact ⟨0,0,_,_,Nat.zero_le _,rfl,rfl,by simp,Own.dD w _ (Nat.le_refl _),(Below.refl _ _).alloc (Nat.le_refl _) _⟩
 case round=>
  obtain ⟨j,a',ao',c',hj,rfl,rfl,ha,ho,hb⟩:=hrel
  have HA:=Lib.hid ha
  clear ha
  by_cases hlt:j < k
  ·have hm:n * (j + 1)≤n * k:=Nat.mul_le_mul_left _ hlt
   have hm2:n * (j + 1)=n * j + n:=Nat.mul_succ _ _
   have hi:=h.below hb
   have hsz:a' + n≤4398046511104:=by have:=HA.out;omega
   have hbs:=hb.size
   have HE:=Lib.hid (show a' + n=n * (j + 1) by have:=HA.out;omega)
   obtain ⟨i,hi2⟩:∃i:Nat,k - j=i + 1:=⟨k - j - 1,ab⟩
   have HI:=Lib.hid (show k - (j + 1)=i by omega)
   have hj1:j + 1≤k:=hlt
   have HW:=Lib.hid (y5 (i:=i) ab)
   rw [hi2]
   clear hm hm2 hi2 h hnk hj hlt
   go_wp2_with (at_builtin;refine kL yi _ rfl _ _ rfl w.heap.size _ _ _ _ rfl ho ao n c zs rfl hi hsz hbs ?_;intro ao2 c2 w2 ho2 hg2 hblk)
   have hol:=ho.lt
   clear ho hi
   go_wp2
   go_roundw
   case rel=>
    refine ⟨j + 1,_,ao2,c2,hj1,by rw [HI.out,HW.out],rfl,HE.out, ?_,hb.grown hg2 hbs (fun g hg=>(hol g hg).1)⟩
    rw [AQ,List.map_append];exact ho2
   case measure=>exact Bn HW.out
  ·obtain rfl:j=k:=by omega
   rw [Nat.sub_self]
   go_wp2
   go_ret
   rw [←HA.out]
   exact ⟨_,_,rfl,ho,hb⟩
end Go.Proofs.Ytfpcfckocmmcnaa
namespace Go.Proofs.Ytfpcfckocmmcnaa
open Go.RowKit
theorem pd {w:World} {b:Nat} {u:Value} (h:w.cell? ⟨b,0,none⟩=some u):sV w (some ⟨b,0,none⟩) 1 [u]:=
 ⟨rfl,ab,fun _=>⟨b,0,rfl,fun j v hv=>by
  cases j with
  | zero=>simp at hv;subst hv;exact h
  | succ j=>simp at hv⟩⟩
theorem zE {T1 E lo hi:Nat} {w2 w3 w4:World} {ao ao' ao2:Option Addr} {m c n' c' c2:Nat} {us:List Value} {ds:List (List Int)} {zs:List Int}
  (hR:eT (jV T1) w2 lo hi E ao m c us ds) (hlo:lo≤hi) (hhi:hi≤w2.heap.size) (hu:Own w2 hi T1 ao' n' c' (zs.map (Value.int .i64))) (hb3:Below w2.heap.size w2 w3)
  (hown:Own w4 lo E ao2 (m + 1) c2 (us ++ [.slice ao' n' c'])) (hg:w3.grownBy w4 (bk ao)) (hat:bk ao2=bk ao∨bk ao2=some w3.heap.size):
  eT (jV T1) w4 lo w4.heap.size E ao2 (m + 1) c2 (us ++ [.slice ao' n' c']) (ds ++ [zs]):=by
 have hR3:eT (jV T1) w3 lo hi E ao m c us ds:=hR.below (cJ _) hb3
 have s2:=hb3.size
 have s3:=hg.size
 have hub:∀g,bk ao'=some g→hi≤g∧g < w2.heap.size:=hu.lt
 have hne:∀g,bk ao'=some g→bk ao≠some g:=fun g h1 h2=>by have:=hub g h1;have:=hR.top g h2;omega
 have hu4:jV T1 w4 (.slice ao' n' c') zs:=(cJ T1).loc (w:=w2) ⟨ao',n',c',rfl,hu.mono (Nat.zero_le _)⟩ fun g h=>by
  rw [bN] at h
  have:=hub g h
  rw [hg.block g ab (fun e=>hne g h e.symm)]
  exact hb3.block g this.2
 refine hR3.push (cJ _) hown hg hu4 (nE fun g h=>⟨by have:=hub g h;omega,by have:=hub g h;omega⟩) (fun g h=>(hown.lt g h).2) ab ?_ ?_
 ·intro g h
  rcases hat with h1 | h1
  ·exact .inl (h1 ▸ h)
  ·refine .inr fun j u hj e=> ?_
   rw [h1] at h;obtain rfl:=Option.some.inj h
   have:=(hR3.rng j u hj _ e).2
   omega
 ·intro g h
  rw [bN] at h
  have hh:=hub g h
  refine ⟨fun e=> ?_,fun j v hj e=> ?_⟩
  ·rcases hat with h1 | h1
   ·exact hne g h (h1 ▸ e)
   ·rw [h1] at e;have:=Option.some.inj e;omega
  ·have:=(hR3.rng j v hj _ e).2;omega
structure pb (w wr:World) (sb L0:Nat) (al:Option Addr) (nl cl:Nat) (zs:List Int) (ao:Option Addr) (m c:Nat) (us:List Value) (ds:List (List Int)):Prop where
 src:Src wr sb
 nn:Own wr w.heap.size 2 al nl cl (zs.map (Value.int .i64))
 ltl:∀g,bk al=some g→g < L0
 row:eT (jV 2) wr L0 wr.heap.size 24 ao m c us ds
 lo:sb < w.heap.size∧w.heap.size≤L0∧L0≤wr.heap.size
 only:fH sb (sb + 1) w wr
section
variable {w wr:World} {sb L0:Nat} {al:Option Addr} {nl cl:Nat} {zs:List Int} {ao:Option Addr} {m c:Nat} {us:List Value} {ds:List (List Int)}
theorem pb.next {w2:World} (st:pb w wr sb L0 al nl cl zs ao m c us ds) (s2:Src w2 sb) (o2:fH sb (sb + 1) wr w2):pb w w2 sb L0 al nl cl zs ao m c us ds:=
 have hl:=st.lo
 have hsz:=o2.size
 ⟨s2,st.nn.rU o2 ab,st.ltl,(st.row.only (cJ _) o2 (.inr ab)).mono (Nat.le_refl _) hsz,⟨hl.1,hl.2.1,ab⟩,st.only.trans o2⟩
theorem pb.below {w2:World} (st:pb w wr sb L0 al nl cl zs ao m c us ds) (b:Below wr.heap.size wr w2):pb w w2 sb L0 al nl cl zs ao m c us ds:=
 st.next (st.src.pV fun g hg=>b.block g (by have:=st.lo;omega)) (fe b)
theorem pb.push {w2 w3 w4:World} {n1 c1 c2:Nat} {a1 ao2:Option Addr} {ys:List Int} (st:pb w wr sb L0 al nl cl zs ao m c us ds)
  (s2:Src w2 sb) (q2:fH sb (sb + 1) wr w2) (o1:Own w2 wr.heap.size 2 a1 n1 c1 (ys.map (Value.int .i64))) (b3:Below w2.heap.size w2 w3) (o4:Own w4 L0 24 ao2 (m + 1) c2 (us ++ [.slice a1 n1 c1]))
  (g4:w3.grownBy w4 (bk ao)) (hat:bk ao2=bk ao∨bk ao2=some w3.heap.size):
  pb w w4 sb L0 al nl cl zs ao2 (m + 1) c2 (us ++ [.slice a1 n1 c1]) (ds ++ [ys]):=by
 have hl:=st.lo
 have z2:=q2.size
 have z3:=b3.size
 have z4:=g4.size
 have hR:=zE (st.row.only (cJ _) q2 (.inr ab)) ab z2 o1 b3 o4 g4 hat
 have B4:Below L0 w2 w4:=(b3.mono ab).grown g4 ab (fun g hg=>(st.row.own.lt g hg).1)
 have o:=st.only.trans q2
 refine ⟨s2.pV fun g hg=>B4.block g ab, ?_,st.ltl,hR,⟨hl.1,hl.2.1,ab⟩,⟨B4.os.trans o.os,B4.tape.trans o.tape,B4.output.trans o.output,by have:=o.size;omega,fun k hk hd=>(B4.block k ab).trans (o.block k hk hd)⟩⟩
 exact (st.nn.rU q2 ab).Gb B4 fun g hg=>st.ltl g hg
theorem pb.fin {w0:World} (st:pb w wr sb L0 al nl cl zs ao m c us ds) (b:Below w0.heap.size w0 w∧w0.heap.size≤sb):Below w0.heap.size w0 wr:=b.1.trans (st.only.below b.2 (by have:=st.lo;have:=b.1.size;omega))
end
def EI (w:World) (e:Ending) (w':World):Prop:=∃(al:Option Addr) (nl cl:Nat) (zs:List Int) (ao:Option Addr) (m c:Nat) (ws:List (List Int)),e= .returned (.tuple #[.slice al nl cl, .slice ao m c])∧FV zs∧Own w' w.heap.size 2 al nl cl (zs.map (Value.int .i64))∧ep w' ao m ws∧Below w.heap.size w w'
theorem yo (ai:Option Addr) (ni ci:Nat) (w:World) (h:Cp w ai ni w.heap.size):Calls Try.prog 5 #[.slice ai ni ci] w (EI w):=by
 go_enter Try.func5,Try.ntmps5
 go_wp2_with fail
 refine (D3 ai ni ci w h).mono ?_
 rintro e w1 ⟨rfl,s1,z1,b1⟩
 obtain ⟨sb,hsb⟩:∃sb,sb=w.heap.size:=⟨_,rfl⟩
 rw [←hsb] at s1 z1 ⊢
 have HB1:=Lib.hid (And.intro b1 (Nat.le_of_eq hsb.symm):Below w.heap.size w w1∧w.heap.size≤sb)
 clear b1 hsb
 go_wp2_with fail
 refine (uL sb w1 s1 z1).mono ?_
 rintro e w2 ⟨al,nl,cl,zs,rfl,hA,o2,s2,O2⟩
 have hnl:zs.length=nl:=by have:=o2.len;simpa using this
 have hfew:=DM hA
 have HA:=Lib.hid hA
 clear hA
 have z2:=O2.size
 obtain ⟨L0,hL0⟩:∃L0,L0=w2.heap.size:=⟨_,rfl⟩
 have st0:pb w1 (w2.alloc (.cells #[] 24)) sb L0 al nl cl zs (some ⟨L0,0,none⟩) 0 0 [] []:=by
  have b2:=below_alloc1 w2 (.cells #[] 24)
  have he:=Own.dD w2 (base:=L0) 24 ab
  rw [←hL0] at he
  exact ⟨s2.pV fun g hg=>b2.block g ab,o2.alloc _,fun g hg=>by have:=(o2.lt g hg).2;omega,eT.dD he (fun g hg=>by simp [bk] at hg;simp;omega),⟨z1,ab,by simp;omega⟩,O2.trans (fe b2)⟩
 go_upto_region 4 with fail
 rw [←hL0]
 clear hL0
 generalize w2.alloc (.cells #[] 24)=w3 at *
 have ST0:=Lib.hid st0
 clear st0 o2 s2 O2 s1 z1 z2 w2
 go_wp2_with fail
 refine (fm sb _ _ ST0.out.src (by have:=ST0.out.lo;omega)).mono ?_
 rintro e w4 ⟨r1,rfl, -, -,s4,o4⟩
 have ST4:=Lib.hid (ST0.out.next s4 o4)
 clear s4 o4 ST0 w3
 have lo4:=ST4.out.lo
 by_cases h1:r1=0
 ·have e1:((r1:Int) == 0)=true:=by rw [h1];rfl
  clear h1
  obtain ⟨L1,hL1⟩:∃L1,L1=w4.heap.size:=⟨_,rfl⟩
  have P5:=Own.dD w4 (base:=L1) 2 ab
  have B5:=below_alloc1 w4 (.cells #[] 2)
  rw [←hL1] at P5 B5
  clear lo4
  go_wp2_with fail
  go_loopw [7,8] (fun wv gv wr=>∃(g:Nat) (aw:Option Addr) (cw:Nat),g≤nl + 1∧gv= .int .i64 g∧wv= .slice aw g cw∧Own wr L1 2 aw g cw (((List.range g).map fun i:Nat=>(i:Int)).map (Value.int .i64))∧Below L1 w4 wr) (fun _ gv _=>nl + 1 - (intOf gv).toNat)
  case atStart=>exact ⟨0,_,_,ab,rfl,by rw [hL1],P5,B5⟩
  case round=>
   obtain ⟨g,aw,cw,hg,rfl,rfl,hw,hb⟩:=hrel
   clear P5 B5
   have sz:=hb.size
   by_cases hlt:g < nl + 1
   ·have hol:=hw.lt
    have PH:=Lib.hid hw
    have HB:=Lib.hid hb
    clear hw hb
    go_wp2_with (at_builtin;refine eL yi _ rfl _ _ rfl L1 aw g cw _ rfl PH.out (.int .i64 (g:Int)) rfl rfl ab ab ?_;intro ao2 c2 w6 ho2 hg2 hblk)
    have HO:=Lib.hid ho2
    have B6:=Lib.hid (HB.out.grown hg2 ab (fun g hg=>(hol g hg).1))
    clear ho2 hblk hg2 hol PH HB
    go_wp2
    go_roundw
    case rel=>exact ⟨g + 1,ao2,c2,ab,by go_num,rfl,by rw [List.range_succ,List.map_append,List.map_append];exact HO.out,B6.out⟩
    case measure=>simp [intOf];omega
   ·obtain rfl:g=nl + 1:=by omega
    have ST5:=Lib.hid (ST4.out.below (by rw [←hL1];exact hb))
    have lo5:=ST5.out.lo
    have HL:=Lib.hid (show L1=w4.heap.size from hL1)
    have hL4:=ST4.out.lo
    have hsL:sb + 1≤L1:=by omega
    have HW:=Lib.hid hw
    clear hw hb hlt sz hL1 hL4 ST4
    go_wp2_with fail
    refine (fm sb _ _ ST5.out.src ab).mono ?_
    rintro e w6 ⟨q,rfl, -,q2,s6,o6⟩
    have hq:=q2 ab
    have ST6:=Lib.hid (ST5.out.next s6 o6)
    have HW6:=Lib.hid (HW.out.rU o6 hsL)
    clear q2 s6 o6 ST5 HW
    have hmu:(nl + 1) * (2 + q)≤8 * 6:=Nat.mul_le_mul ab ab
    have hp:=jT aw (nl + 1) cw (2 + q) _ w6 HW6.out.ints ab ab
    rw [show (((2 + q:Nat)):Int)=2 + (q:Int) by simp] at hp
    generalize (nl + 1) * (2 + q)=n7 at *
    generalize dM ((List.range (nl + 1)).map fun i:Nat=>(i:Int)) (2 + q)=ys at *
    have HP:=Lib.hid hp
    clear hp HW6
    have z6:=ST6.out.lo
    go_wp2_with fail
    refine HP.out.mono ?_
    rintro e w7 ⟨a7,c7,rfl,o7,b7⟩
    have z7:=b7.size
    have O7:=Lib.hid o7
    have Q7:=Lib.hid (fe (lo:=sb) (hi:=sb + 1) b7)
    have S7:=Lib.hid (ST6.out.src.pV fun g hg=>b7.block g ab)
    have HV:=Lib.hid (pd ((bS rfl:dQ (w7.alloc (.cells #[.slice a7 n7 c7] 24)) w7.heap.size 24 #[.slice a7 n7 c7]).cell 0))
    have HO:=Lib.hid (((ST6.out.row.only (cJ _) Q7.out (.inr ab)).own).alloc (.cells #[.slice a7 n7 c7] 24))
    have hS:L0≤(w7.alloc (.cells #[.slice a7 n7 c7] 24)).heap.size:=by simp;omega
    clear o7 b7 HP
    go_wp2_with (at_builtin;refine gp kH _ rfl _ _ rfl L0 (some ⟨L0,0,none⟩) 0 0 [] rfl HO.out (some ⟨w7.heap.size,0,none⟩) 1 1 [.slice a7 n7 c7] rfl HV.out (by intro u hu;simp at hu;subst hu;rfl) ab hS ?_;intro ao8 c8 w8 o8 g8 hat)
    have ST8:=Lib.hid (show pb w1 w8 sb L0 al nl cl zs ao8 1 c8 [.slice a7 n7 c7] [ys] from ST6.out.push S7.out Q7.out O7.out (below_alloc1 _ _) o8 g8 hat)
    clear o8 g8 hat HO HV O7 Q7 S7 ST6 hS z6 z7 lo5
    go_wp2_with fail
    refine (fm sb _ _ ST8.out.src (by have:=ST8.out.lo;omega)).mono ?_
    rintro e w20 ⟨r2,rfl, -, -,s20,o20⟩
    have ST20:=Lib.hid (ST8.out.next s20 o20)
    clear s20 o20 ST8
    have lo20:=ST20.out.lo
    by_cases h20:r2=0
    ·have e20:((r2:Int) == 0)=true:=by rw [h20];rfl
     clear h20
     go_wp2_with fail
     refine (nR sb 6 4 _ ST20.out.src ab ab ab ab).mono ?_
     rintro e w21 ⟨a21,n21,c21,zs21,rfl,hn21, -,o21,s21,q21⟩
     have z21:=q21.size
     have O21:=Lib.hid o21
     have Q21:=Lib.hid q21
     have S21:=Lib.hid s21
     have HV:=Lib.hid (pd ((bS rfl:dQ (w21.alloc (.cells #[.slice a21 n21 c21] 24)) w21.heap.size 24 #[.slice a21 n21 c21]).cell 0))
     have HO:=Lib.hid (((ST20.out.row.only (cJ _) q21 (.inr ab)).own).alloc (.cells #[.slice a21 n21 c21] 24))
     have hS:L0≤(w21.alloc (.cells #[.slice a21 n21 c21] 24)).heap.size:=by simp;omega
     clear o21 q21 s21
     go_wp2_with (at_builtin;refine gp kH _ rfl _ _ rfl L0 ao8 1 c8 [.slice a7 n7 c7] rfl HO.out (some ⟨w21.heap.size,0,none⟩) 1 1 [.slice a21 n21 c21] rfl HV.out (by intro u hu;simp at hu;subst hu;rfl) ab hS ?_;intro ao2 c3 w28 o8 g8 hat)
     have st8:=Lib.hid (ST20.out.push S21.out Q21.out O21.out (below_alloc1 _ _) o8 g8 hat)
     clear o8 g8 hat HO HV O21 Q21 S21 ST20 hS
     go_wp2
     exact bodyPost_ret (v:= .tuple #[.slice al nl cl, .slice ao2 (1 + 1) c3]) (by simp [results,Try.f5,go_sem]) rfl ⟨_,_,_,_,_,_,_,_,rfl,HA.out,st8.out.nn.mono (by have:=HB1.out.1.size;omega),st8.out.row.fw,st8.out.fin HB1.out⟩
    ·have e20:((r2:Int) == 0)=false:=by rw [beq_eq_false_iff_ne];omega
     clear h20
     go_wp2
     exact bodyPost_ret (v:= .tuple #[.slice al nl cl, .slice ao8 1 c8]) (by simp [results,Try.f5,go_sem]) rfl ⟨_,_,_,_,_,_,_,_,rfl,HA.out,ST20.out.nn.mono (by have:=HB1.out.1.size;omega),ST20.out.row.fw,ST20.out.fin HB1.out⟩
 ·have e1:((r1:Int) == 0)=false:=by rw [beq_eq_false_iff_ne];omega
  clear h1
  go_wp2_with fail
  refine (fm sb _ _ ST4.out.src (by have:=ST4.out.lo;omega)).mono ?_
  rintro e w20 ⟨r2,rfl, -, -,s20,o20⟩
  have ST20:=Lib.hid (ST4.out.next s20 o20)
  clear s20 o20 ST4
  have lo20:=ST20.out.lo
  by_cases h20:r2=0
  ·have e20:((r2:Int) == 0)=true:=by rw [h20];rfl
   clear h20
   go_wp2_with fail
   refine (nR sb 6 4 _ ST20.out.src ab ab ab ab).mono ?_
   rintro e w21 ⟨a21,n21,c21,zs21,rfl,hn21, -,o21,s21,q21⟩
   have z21:=q21.size
   have O21:=Lib.hid o21
   have Q21:=Lib.hid q21
   have S21:=Lib.hid s21
   have HV:=Lib.hid (pd ((bS rfl:dQ (w21.alloc (.cells #[.slice a21 n21 c21] 24)) w21.heap.size 24 #[.slice a21 n21 c21]).cell 0))
   have HO:=Lib.hid (((ST20.out.row.only (cJ _) q21 (.inr ab)).own).alloc (.cells #[.slice a21 n21 c21] 24))
   have hS:L0≤(w21.alloc (.cells #[.slice a21 n21 c21] 24)).heap.size:=by simp;omega
   clear o21 q21 s21
   go_wp2_with (at_builtin;refine gp kH _ rfl _ _ rfl L0 (some ⟨L0,0,none⟩) 0 0 [] rfl HO.out (some ⟨w21.heap.size,0,none⟩) 1 1 [.slice a21 n21 c21] rfl HV.out (by intro u hu;simp at hu;subst hu;rfl) ab hS ?_;intro ao2 c3 w28 o8 g8 hat)
   have st8:=Lib.hid (ST20.out.push S21.out Q21.out O21.out (below_alloc1 _ _) o8 g8 hat)
   clear o8 g8 hat HO HV O21 Q21 S21 ST20 hS
   go_wp2
   exact bodyPost_ret (v:= .tuple #[.slice al nl cl, .slice ao2 (0 + 1) c3]) (by simp [results,Try.f5,go_sem]) rfl ⟨_,_,_,_,_,_,_,_,rfl,HA.out,st8.out.nn.mono (by have:=HB1.out.1.size;omega),st8.out.row.fw,st8.out.fin HB1.out⟩
  ·have e20:((r2:Int) == 0)=false:=by rw [beq_eq_false_iff_ne];omega
   clear h20
   go_wp2
   exact bodyPost_ret (v:= .tuple #[.slice al nl cl, .slice (some ⟨L0,0,none⟩) 0 0]) (by simp [results,Try.f5,go_sem]) rfl ⟨_,_,_,_,_,_,_,_,rfl,HA.out,ST20.out.nn.mono (by have:=HB1.out.1.size;omega),ST20.out.row.fw,ST20.out.fin HB1.out⟩
end Go.Proofs.Ytfpcfckocmmcnaa
namespace Go.Proofs.Ytfpcfckocmmcnaa
def mQ (ng:Nat) (im:List (List Int)) (n c g:Nat):List (List Int):=eo (eo (im ++ [List.replicate ng (-1)]) c g n) n g c
def bZ (ng:Nat) (im:List (List Int)) (less:List Int) (c g:Nat):List (List Int)×List Int×Bool×Nat:=
 if 0≤bT im c g then (im,less,false,root less (bT im c g).toNat)
 else if less.length=2000 then (im,less,true,0)
 else (mQ ng im less.length c g,less ++ [(less.length:Int)],false,less.length)
theorem WF.app {ng:Nat} {im:List (List Int)} {less:List Int} (h:WF ng im less):WF ng (im ++ [List.replicate ng (-1)]) (less ++ [(less.length:Int)]):=
 {len:=by simp [h.len],row:=fun c hc=>by
   by_cases e:c < im.length
   ·rw [eV e];exact h.row c e
   ·obtain rfl:c=im.length:=by simp at hc;omega
    rw [fF];simp,down:=fun c hc=>by
   by_cases e:c < less.length
   ·rw [cI e];exact h.down c e
   ·obtain rfl:c=less.length:=by simp at hc;omega
    rw [dS];omega,bT:=fun c g hc hg=>by
   unfold Proofs.Ytfpcfckocmmcnaa.bT
   by_cases e:c < im.length
   ·rw [eV e]
    have:=h.bT c g e hg
    unfold Proofs.Ytfpcfckocmmcnaa.bT at this
    simp;omega
   ·obtain rfl:c=im.length:=by simp at hc;omega
    rw [fF,fl hg];omega }
theorem WF.mQ {ng:Nat} {im:List (List Int)} {less:List Int} {c g:Nat} (h:WF ng im less) (hc:c < less.length) (hg:g < ng):WF ng (mQ ng im less.length c g) (less ++ [(less.length:Int)]):=by
 have h1:=h.app
 have hl:=h.len
 unfold Proofs.Ytfpcfckocmmcnaa.mQ
 refine (h1.gw (c:=c) (g:=g) (z:=(less.length:Int)) (by simp;omega) hg (by simp;omega)).gw (c:=less.length) (g:=g) (z:=(c:Int)) ?_ hg ?_
 ·rw [dE];simp;omega
 ·simp;omega
theorem gQ {ng:Nat} {im:List (List Int)} {less:List Int} {c g:Nat} (h:WF ng im less) (hc:c < less.length) (hg:g < ng) (hn:less.length≤2000):
  WF ng (bZ ng im less c g).1 (bZ ng im less c g).2.1∧less.length≤(bZ ng im less c g).2.1.length∧(bZ ng im less c g).2.1.length≤2000∧(bZ ng im less c g).2.2.2 < (bZ ng im less c g).2.1.length∧((bZ ng im less c g).2.2.1=true→(bZ ng im less c g).2.1.length=2000):=by
 unfold bZ
 split
 ·rename_i h1
  have:=h.bT c g (by rw [h.len];exact hc) hg
  exact ⟨h,Nat.le_refl _,hn,cZ h.down ab,by simp⟩
 ·split
  ·rename_i h2;exact ⟨h,Nat.le_refl _,hn,by dsimp only;omega,fun _=>h2⟩
  ·exact ⟨h.mQ hc hg,by simp,by simp;omega,by simp,by simp⟩
def gX (ng:Nat) (s:List (List Int)×List Int×Bool×Nat):List Nat→List (List Int)×List Int×Bool×Nat
 | []=>s
 | g :: r=>if s.2.2.1=true then s else gX ng (bZ ng s.1 s.2.1 s.2.2.2 g) r
def cV (ng:Nat) (im:List (List Int)) (less:List Int) (c:Nat) (w:List Nat):List (List Int)×List Int×Bool:=
 match w.getLast? with
 | none=>(im,less,false)
 | some g=>
  let s:=gX ng (im,less,false,c) w.dropLast
  if s.2.2.1=true then (s.1,s.2.1,true)
  else
   let e:=image s.1 s.2.1 s.2.2.2 g
   let f:=image s.1 s.2.1 c g
   if 0≤e then ((ident ng s.1 s.2.1 [(e,(c:Int))]).1,(ident ng s.1 s.2.1 [(e,(c:Int))]).2,false)
   else if 0≤f then ((ident ng s.1 s.2.1 [(f,(s.2.2.2:Int))]).1,(ident ng s.1 s.2.1 [(f,(s.2.2.2:Int))]).2,false)
   else (eo (eo s.1 s.2.2.2 g c) c g s.2.2.2,s.2.1,false)
theorem gZ {ng:Nat} {s:List (List Int)×List Int×Bool×Nat} (h:s.2.2.1=true):∀w,gX ng s w=s
 | []=>rfl
 | g :: r=>by unfold gX;rw [if_pos h]
theorem me {ng:Nat} :∀(a b:List Nat) (s:List (List Int)×List Int×Bool×Nat),gX ng s (a ++ b)=gX ng (gX ng s a) b
 | [],b,s=>rfl
 | g :: r,b,s=>by
  simp only [List.cons_append,gX]
  split
  ·rename_i h;rw [gZ h]
  ·exact me r b _
structure ux (ng n0:Nat) (s:List (List Int)×List Int×Bool×Nat):Prop where
 wf:WF ng s.1 s.2.1
 lo:n0≤s.2.1.length
 hi:s.2.1.length≤2000
 d:s.2.2.2 < s.2.1.length
theorem mO {ng n0:Nat} :∀(w:List Nat) (s:List (List Int)×List Int×Bool×Nat),ux ng n0 s→(∀g∈w,g < ng)→ux ng n0 (gX ng s w)
 | [],s,h,_=>h
 | g :: r,s,h,hg=>by
  unfold gX
  split
  ·exact h
  ·obtain ⟨h1,h2,h3,h4,_⟩:=gQ h.wf h.d (hg g (by simp)) h.hi
   exact mO r _ ⟨h1,Nat.le_trans h.lo h2,h3,h4⟩ fun x hx=>hg x (by simp [hx])
theorem kS {ng n:Nat} :∀(f:Nat) (im:List (List Int)) (less:List Int) (q:List (Int×Int)),WF ng im less→less.length=n→mD n q→WF ng (cH ng f im less q).1 (cH ng f im less q).2∧(cH ng f im less q).2.length=n
 | 0,im,less,q,h,hn,_=>⟨h,hn⟩
 | f + 1,im,less, [],h,hn,_=>⟨h,hn⟩
 | f + 1,im,less,p :: q,h,hn,hq=>by
  have hp:=hq p (by simp)
  have hq':mD less.length q:=fun x hx=>hn ▸ hq x (by simp [hx])
  have hr1:=cZ h.down (c:=p.1.toNat) ab
  have hr2:=cZ h.down (c:=p.2.toNat) ab
  simp only [cH]
  split
  ·exact kS f im less q h hn fun x hx=>hq x (by simp [hx])
  ·obtain ⟨h1,h2,h3,h4⟩:=eM h (lo:=min (root less p.1.toNat) (root less p.2.toNat)) (hi:=max (root less p.1.toNat) (root less p.2.toNat)) (by rw [h.len];omega) (by rw [h.len];omega) hq' ng (Nat.le_refl _)
   exact kS f _ _ _ (h1.kj ab) (by rw [List.length_set];exact hn) (hn ▸ h2)
theorem iG {ng n:Nat} {im:List (List Int)} {less:List Int} {q:List (Int×Int)} (h:WF ng im less) (hn:less.length=n) (hq:mD n q):WF ng (ident ng im less q).1 (ident ng im less q).2∧(ident ng im less q).2.length=n:=kS _ _ _ _ h hn hq
theorem eG {ng:Nat} {im:List (List Int)} {less:List Int} {c g:Nat} (h:WF ng im less) (hc:c < less.length) (hg:g < ng):image im less c g < less.length:=by
 unfold image
 split
 ·omega
 ·have:=h.bT c g (by rw [h.len];exact hc) hg
  have:=cZ h.down (c:=(bT im c g).toNat) ab
  omega
structure cy (ng n0:Nat) (s:List (List Int)×List Int×Bool):Prop where
 wf:WF ng s.1 s.2.1
 lo:n0≤s.2.1.length
 hi:s.2.1.length≤2000
theorem oW {ng:Nat} {im:List (List Int)} {less:List Int} {c:Nat} {w:List Nat} (h:WF ng im less) (hc:c < less.length) (hn:less.length≤2000) (hg:∀g∈w,g < ng):cy ng less.length (cV ng im less c w):=by
 unfold cV
 cases hw:w.getLast? with
 | none=>exact ⟨h,Nat.le_refl _,hn⟩
 | some g=>
  have hgl:g < ng:=hg g (List.mem_of_getLast? hw)
  have ok:=mO (n0:=less.length) w.dropLast (im,less,false,c) ⟨h,Nat.le_refl _,hn,hc⟩ fun x hx=>hg x (List.dropLast_subset _ hx)
  generalize gX ng (im,less,false,c) w.dropLast=s at *
  have hcs:c < s.2.1.length:=Nat.lt_of_lt_of_le hc ok.lo
  dsimp only
  split
  ·exact ⟨ok.wf,ok.lo,ok.hi⟩
  ·have e1:=eG ok.wf ok.d hgl
   have e2:=eG ok.wf hcs hgl
   have hd:=ok.d
   split
   ·rename_i he
    have:=iG (q:= [(image s.1 s.2.1 s.2.2.2 g,(c:Int))]) ok.wf rfl (fun p hp=>by simp at hp;subst hp;exact ⟨⟨he,e1⟩,ab,by dsimp only;omega⟩)
    exact ⟨this.1,by dsimp only;rw [this.2];exact ok.lo,by dsimp only;rw [this.2];exact ok.hi⟩
   ·split
    ·rename_i hf
     have:=iG (q:= [(image s.1 s.2.1 c g,(s.2.2.2:Int))]) ok.wf rfl (fun p hp=>by simp at hp;subst hp;exact ⟨⟨hf,e2⟩,ab,by dsimp only;omega⟩)
     exact ⟨this.1,by dsimp only;rw [this.2];exact ok.lo,by dsimp only;rw [this.2];exact ok.hi⟩
    ·have hl:=ok.wf.len
     exact ⟨(ok.wf.gw (c:=s.2.2.2) (g:=g) (z:=(c:Int)) ab hgl ab).gw (c:=c) (g:=g) (z:=(s.2.2.2:Int)) (by rw [dE];omega) hgl ab,ok.lo,ok.hi⟩
end Go.Proofs.Ytfpcfckocmmcnaa
namespace Go.Proofs.Ytfpcfckocmmcnaa
abbrev dR:=List (List Int)×List Int×Bool
def eQ (s:dR) (c:Nat):Bool:=decide (aD s.2.1 c=(c:Int)) && !s.2.2
def dF (ng:Nat) (s:dR) (w:List Int):dR:=if s.2.2=true then s else cV ng s.1 s.2.1 0 (w.map Int.toNat)
def cT (ng c:Nat) (s:dR) (w:List Int):dR:=if eQ s c=true then cV ng s.1 s.2.1 c (w.map Int.toNat) else s
def dk (ng c:Nat) (s:dR) (g:Nat):dR:=if eQ s c=true then ((bZ ng s.1 s.2.1 c g).1,(bZ ng s.1 s.2.1 c g).2.1,(bZ ng s.1 s.2.1 c g).2.2.1) else s
def eh (ng:Nat) (rels:List (List Int)) (c:Nat) (s:dR):dR:=(List.range ng).foldl (dk ng c) (rels.foldl (cT ng c) s)
def outer (ng:Nat) (rels:List (List Int)):Nat→Nat→dR→dR
 | 0,_,s=>s
 | f + 1,c,s=>if c < s.2.1.length∧s.2.2=false then outer ng rels f (c + 1) (eh ng rels c s) else s
def dH (ng:Nat):dR:=([List.replicate ng (-1)], [0],false)
def dq (ng:Nat) (rels words:List (List Int)):dR:=outer ng rels 2001 0 (words.foldl (dF ng) (dH ng))
theorem cy.le {ng n m:Nat} {s:dR} (h:cy ng n s) (hm:m≤n):cy ng m s:=⟨h.wf,Nat.le_trans hm h.lo,h.hi⟩
def bA (ng:Nat) (w:List Int):Prop:=∀z∈w,0≤z∧z < ng
theorem bA.nat {ng:Nat} {w:List Int} (h:bA ng w):∀g∈w.map Int.toNat,g < ng:=fun g hg=>by
 obtain ⟨z,hz,rfl⟩:=List.mem_map.1 hg
 have:=h z hz;omega
theorem j9 {ng n:Nat} {s:dR} {w:List Int} (h:cy ng n s) (hn:0 < n) (hw:bA ng w):cy ng n (dF ng s w):=by
 unfold dF
 split
 ·exact h
 ·exact (oW h.wf (Nat.lt_of_lt_of_le hn h.lo) h.hi hw.nat).le h.lo
theorem jc {ng n c:Nat} {s:dR} {w:List Int} (h:cy ng n s) (hn:c < n) (hw:bA ng w):cy ng n (cT ng c s w):=by
 unfold cT
 split
 ·exact (oW h.wf (Nat.lt_of_lt_of_le hn h.lo) h.hi hw.nat).le h.lo
 ·exact h
theorem ku {ng n c g:Nat} {s:dR} (h:cy ng n s) (hn:c < n) (hg:g < ng):cy ng n (dk ng c s g):=by
 unfold dk
 split
 ·obtain ⟨h1,h2,h3,_⟩:=gQ h.wf (Nat.lt_of_lt_of_le hn h.lo) hg h.hi
  exact ⟨h1,Nat.le_trans h.lo h2,h3⟩
 ·exact h
theorem kC {α:Type} {ng n:Nat} {f:dR→α→dR} {p:α→Prop} (hf:∀s x,cy ng n s→p x→cy ng n (f s x)):∀(l:List α) (s:dR),cy ng n s→(∀x∈l,p x)→cy ng n (l.foldl f s)
 | [],s,h,_=>h
 | x :: r,s,h,hp=>kC hf r _ (hf s x h (hp x (by simp))) fun y hy=>hp y (by simp [hy])
theorem tZ {ng n c:Nat} {rels:List (List Int)} {s:dR} (h:cy ng n s) (hn:c < n) (hr:∀w∈rels,bA ng w):cy ng n (eh ng rels c s):=
 kC (p:=fun g=>g < ng) (fun s g h hg=>ku h hn hg) _ _ (kC (p:=bA ng) (fun s w h hw=>jc h hn hw) _ _ h hr) fun g hg=>List.mem_range.1 hg
theorem wM {ng n:Nat} {rels:List (List Int)} (hr:∀w∈rels,bA ng w):∀(f c:Nat) (s:dR),cy ng n s→cy ng n (outer ng rels f c s)
 | 0,_,s,h=>h
 | f + 1,c,s,h=>by
  unfold outer
  split
  ·rename_i hc
   exact wM hr f _ _ ((tZ (n:=s.2.1.length) ⟨h.wf,Nat.le_refl _,h.hi⟩ hc.1 hr).le h.lo)
  ·exact h
theorem jb (ng:Nat):cy ng 1 (dH ng):=by
 refine ⟨{ len:=rfl,row:=fun c hc=> ?_,down:=fun c hc=> ?_,bT:=fun c g hc hg=> ?_ },Nat.le_refl _,by simp [dH]⟩
 ·obtain rfl:c=0:=by simp [dH] at hc;omega
  simp [dH,aT]
 ·obtain rfl:c=0:=by simp [dH] at hc;omega
  simp [dH,aD]
 ·obtain rfl:c=0:=by simp [dH] at hc;omega
  simp [dH,bT,aT,aD,hg]
theorem vi {ng:Nat} {rels words:List (List Int)} (hr:∀w∈rels,bA ng w) (hw:∀w∈words,bA ng w):cy ng 1 (dq ng rels words):=
 wM hr _ _ _ (kC (p:=bA ng) (fun s w h hw=>j9 h ab hw) _ _ (jb ng) hw)
theorem mX {α:Type} {f:dR→α→dR} {s:dR} (h:∀x,f s x=s):∀l:List α,l.foldl f s=s
 | []=>rfl
 | x :: r=>by rw [List.foldl_cons,h,mX h r]
theorem il {ng:Nat} {s:dR} (h:s.2.2=true) (w:List Int):dF ng s w=s:=if_pos h
theorem iH {ng c:Nat} {s:dR} (h:eQ s c=false) (w:List Int):cT ng c s w=s:=if_neg (by simp [h])
theorem jk {ng c:Nat} {s:dR} (h:eQ s c=false) (g:Nat):dk ng c s g=s:=if_neg (by simp [h])
theorem rT {ng c g:Nat} {s s':dR} (h:(List.range g).foldl (dk ng c) s=s') (hl:eQ s' c=false):∀n,g≤n→(List.range n).foldl (dk ng c) s=s'
 | 0,hn=>by
   obtain rfl:g=0:=by omega
   exact h
 | n + 1,hn=>by
  by_cases e:g=n + 1
  ·subst e;exact h
  ·rw [List.range_succ,List.foldl_append,rT h hl n ab]
   exact jk hl n
theorem B8 {ng c j:Nat} {rels:List (List Int)} {s s':dR} (h:(rels.take j).foldl (cT ng c) s=s') (hl:eQ s' c=false):rels.foldl (cT ng c) s=s':=by
 conv=>lhs;rw [←List.take_append_drop j rels,List.foldl_append,h]
 exact mX (iH hl) _
theorem wK {ng j:Nat} {words:List (List Int)} {s s':dR} (h:(words.take j).foldl (dF ng) s=s') (hl:s'.2.2=true):words.foldl (dF ng) s=s':=by
 conv=>lhs;rw [←List.take_append_drop j words,List.foldl_append,h]
 exact mX (il hl) _
end Go.Proofs.Ytfpcfckocmmcnaa
namespace Go.Proofs.Ytfpcfckocmmcnaa
structure Grow (ng:Nat) (im:List (List Int)) (less:List Int) (im':List (List Int)) (less':List Int):Prop where
 len:less.length≤less'.length
 bT:∀c g,c < less.length→g < ng→0≤bT im c g→0≤bT im' c g
 dead:∀c,c < less.length→aD less c≠c→aD less' c≠c
theorem Grow.refl (ng:Nat) (im:List (List Int)) (less:List Int):Grow ng im less im less:=⟨Nat.le_refl _,fun _ _ _ _ h=>h,fun _ _ h=>h⟩
theorem Grow.trans {ng:Nat} {a b c:List (List Int)} {x y z:List Int} (h:Grow ng a x b y) (k:Grow ng b y c z):Grow ng a x c z:=
 ⟨Nat.le_trans h.len k.len,fun i g hi hg h1=>k.bT i g (Nat.lt_of_lt_of_le hi h.len) hg (h.bT i g hi hg h1),fun i hi h1=>k.dead i (Nat.lt_of_lt_of_le hi h.len) (h.dead i hi h1)⟩
theorem WF.lC {ng:Nat} {im:List (List Int)} {less:List Int} (h:WF ng im less) {c g:Nat} {z:Int} (hc:c < im.length) (hg:g < ng) (hz:0≤z):Grow ng im less (eo im c g z) less:=
 ⟨Nat.le_refl _,fun i j _ _ h1=>by
  rw [eI hc (by rw [h.row c hc];exact hg)]
  split
  ·exact hz
  ·exact h1,fun _ _ h=>h⟩
theorem WF.Ct {ng:Nat} {im:List (List Int)} {less:List Int} (h:WF ng im less) (r:List Int) (z:Int):Grow ng im less (im ++ [r]) (less ++ [z]):=
 ⟨by simp,fun i j hi _ h1=>by
  have hi':i < im.length:=by rw [h.len];exact hi
  unfold Proofs.Ytfpcfckocmmcnaa.bT at h1 ⊢
  rw [eV hi'];exact h1,fun i hi h1=>by rw [cI hi];exact h1⟩
theorem rJ {ng:Nat} {im:List (List Int)} {less:List Int} {c g:Nat} (h:WF ng im less) (hc:c < less.length) (hg:g < ng):Grow ng im less (bZ ng im less c g).1 (bZ ng im less c g).2.1:=by
 unfold bZ
 split
 ·exact Grow.refl _ _ _
 ·split
  ·exact Grow.refl _ _ _
  ·have h1:=h.app
   have hl:=h.len
   have g1:=h.Ct (List.replicate ng (-1)) (less.length:Int)
   have h2:=h1.gw (c:=c) (g:=g) (z:=(less.length:Int)) (by simp;omega) hg (by simp;omega)
   have g2:=h1.lC (c:=c) (g:=g) (z:=(less.length:Int)) (by simp;omega) hg ab
   have g3:=h2.lC (c:=less.length) (g:=g) (z:=(c:Int)) (by rw [dE];simp;omega) hg ab
   exact (g1.trans g2).trans g3
theorem AZ {ng:Nat} {im:List (List Int)} {less:List Int} {c g:Nat} (h:WF ng im less) (hc:c < less.length) (hg:g < ng) (hf:(bZ ng im less c g).2.2.1=false):0≤bT (bZ ng im less c g).1 c g:=by
 unfold bZ at hf ⊢
 split
 ·rename_i h0;exact h0
 ·rename_i h0
  rw [if_neg h0] at hf
  split
  ·rename_i h1;rw [if_pos h1] at hf;cases hf
  ·have h1:=h.app
   have hl:=h.len
   have h2:=h1.gw (c:=c) (g:=g) (z:=(less.length:Int)) (by simp;omega) hg (by simp;omega)
   unfold mQ
   dsimp only
   rw [eI (by rw [dE];simp;omega) (by rw [h2.row _ (by rw [dE];simp;omega)];exact hg)]
   split
   ·omega
   ·rw [eI (by simp;omega) (by rw [h1.row _ (by simp;omega)];exact hg),if_pos ⟨rfl,rfl⟩];omega
theorem wu {ng n0:Nat} :∀(w:List Nat) (s:List (List Int)×List Int×Bool×Nat),ux ng n0 s→(∀g∈w,g < ng)→Grow ng s.1 s.2.1 (gX ng s w).1 (gX ng s w).2.1
 | [],s,_,_=>Grow.refl _ _ _
 | g :: r,s,h,hg=>by
  unfold gX
  split
  ·exact Grow.refl _ _ _
  ·have k:=rJ h.wf h.d (hg g (by simp))
   obtain ⟨h1,h2,h3,h4,_⟩:=gQ h.wf h.d (hg g (by simp)) h.hi
   exact k.trans (wu (n0:=n0) r _ ⟨h1,Nat.le_trans h.lo h2,h3,h4⟩ fun x hx=>hg x (by simp [hx]))
theorem nW {ng lo hi:Nat} {im:List (List Int)} {less:List Int} {q:List (Int×Int)} (h:WF ng im less) (hlo:lo < im.length) (hhi:hi < im.length) (hq:mD less.length q):∀g,g≤ng→Grow ng im less (bE lo hi (im,q) g).1 less
 | 0,_=>Grow.refl _ _ _
 | g + 1,hg=>by
  have ih:=nW h hlo hhi hq g ab
  obtain ⟨h1,_,_,h4⟩:=eM h hlo hhi hq g ab
  simp only [bE,stepG]
  split
  ·exact ih
  ·rename_i hn
   split
   ·exact ih
   ·exact ih.trans (h1.lC ab ab ab)
theorem Bb {ng:Nat} {im:List (List Int)} {less:List Int} {lo hi:Nat} (h:lo < hi):Grow ng im less im (less.set hi (lo:Int)):=
 ⟨by simp,fun _ _ _ _ h=>h,fun c hc h1=>by
  rw [cO]
  split
  ·rename_i e;rw [←e.1];omega
  ·exact h1⟩
theorem gM {ng n:Nat} :∀(f:Nat) (im:List (List Int)) (less:List Int) (q:List (Int×Int)),WF ng im less→less.length=n→mD n q→Grow ng im less (cH ng f im less q).1 (cH ng f im less q).2
 | 0,im,less,q,h,hn,_=>Grow.refl _ _ _
 | f + 1,im,less, [],h,hn,_=>Grow.refl _ _ _
 | f + 1,im,less,p :: q,h,hn,hq=>by
  have hp:=hq p (by simp)
  have hq':mD less.length q:=fun x hx=>hn ▸ hq x (by simp [hx])
  have hr1:=cZ h.down (c:=p.1.toNat) ab
  have hr2:=cZ h.down (c:=p.2.toNat) ab
  simp only [cH]
  split
  ·exact gM f im less q h hn fun x hx=>hq x (by simp [hx])
  ·rename_i hne
   obtain ⟨h1,h2,h3,h4⟩:=eM h (lo:=min (root less p.1.toNat) (root less p.2.toNat)) (hi:=max (root less p.1.toNat) (root less p.2.toNat)) (by rw [h.len];omega) (by rw [h.len];omega) hq' ng (Nat.le_refl _)
   have g1:=nW h (lo:=min (root less p.1.toNat) (root less p.2.toNat)) (hi:=max (root less p.1.toNat) (root less p.2.toNat)) (by rw [h.len];omega) (by rw [h.len];omega) hq' ng (Nat.le_refl _)
   refine (g1.trans (Bb ab)).trans (gM f _ _ _ (h1.kj ab) (by rw [List.length_set];exact hn) (hn ▸ h2))
theorem wm {ng:Nat} {im:List (List Int)} {less:List Int} {c:Nat} {w:List Nat} (h:WF ng im less) (hc:c < less.length) (hn:less.length≤2000) (hg:∀g∈w,g < ng):Grow ng im less (cV ng im less c w).1 (cV ng im less c w).2.1:=by
 unfold cV
 cases hw:w.getLast? with
 | none=>exact Grow.refl _ _ _
 | some g=>
  have hgl:g < ng:=hg g (List.mem_of_getLast? hw)
  have ok:=mO (n0:=less.length) w.dropLast (im,less,false,c) ⟨h,Nat.le_refl _,hn,hc⟩ fun x hx=>hg x (List.dropLast_subset _ hx)
  have gr:=wu (n0:=less.length) w.dropLast (im,less,false,c) ⟨h,Nat.le_refl _,hn,hc⟩ fun x hx=>hg x (List.dropLast_subset _ hx)
  generalize gX ng (im,less,false,c) w.dropLast=s at *
  have hcs:c < s.2.1.length:=Nat.lt_of_lt_of_le hc ok.lo
  have gr:Grow ng im less s.1 s.2.1:=gr
  dsimp only
  split
  ·exact gr
  ·have e1:=eG ok.wf ok.d hgl
   have e2:=eG ok.wf hcs hgl
   have hd:=ok.d
   have hl:=ok.wf.len
   split
   ·rename_i he
    exact gr.trans (gM _ _ _ _ ok.wf rfl (fun p hp=>by simp at hp;subst hp;exact ⟨⟨he,e1⟩,ab,by dsimp only;omega⟩))
   ·split
    ·rename_i hf
     exact gr.trans (gM _ _ _ _ ok.wf rfl (fun p hp=>by simp at hp;subst hp;exact ⟨⟨hf,e2⟩,ab,by dsimp only;omega⟩))
    ·have k1:=ok.wf.gw (c:=s.2.2.2) (g:=g) (z:=(c:Int)) ab hgl ab
     exact (gr.trans (ok.wf.lC (c:=s.2.2.2) (g:=g) (z:=(c:Int)) ab hgl ab)).trans (k1.lC (c:=c) (g:=g) (z:=(s.2.2.2:Int)) (by rw [dE];omega) hgl ab)
def Dn (ng:Nat) (s:dR) (c:Nat):Prop:=aD s.2.1 c≠(c:Int)∨∀g,g < ng→0≤bT s.1 c g
abbrev px (ng:Nat) (s s':dR):Prop:=Grow ng s.1 s.2.1 s'.1 s'.2.1
theorem Grow.dn {ng:Nat} {s s':dR} {c:Nat} (h:px ng s s') (hc:c < s.2.1.length) (hd:Dn ng s c):Dn ng s' c:=
 hd.imp (h.dead c hc) fun hd g hg=>h.bT c g hc hg (hd g hg)
theorem xL {ng n c:Nat} {s:dR} {w:List Int} (h:cy ng n s) (hn:c < n) (hw:bA ng w):px ng s (cT ng c s w):=by
 unfold cT
 split
 ·exact wm h.wf (Nat.lt_of_lt_of_le hn h.lo) h.hi hw.nat
 ·exact Grow.refl _ _ _
theorem zA {ng n c g:Nat} {s:dR} (h:cy ng n s) (hn:c < n) (hg:g < ng):px ng s (dk ng c s g):=by
 unfold dk
 split
 ·exact rJ h.wf (Nat.lt_of_lt_of_le hn h.lo) hg
 ·exact Grow.refl _ _ _
theorem rY {α:Type} {ng n:Nat} {f:dR→α→dR} {p:α→Prop} (hf:∀s x,cy ng n s→p x→cy ng n (f s x)) (hg:∀s x,cy ng n s→p x→px ng s (f s x)):∀(l:List α) (s:dR),cy ng n s→(∀x∈l,p x)→px ng s (l.foldl f s)
 | [],s,_,_=>Grow.refl _ _ _
 | x :: r,s,h,hp=>(hg s x h (hp x (by simp))).trans (rY hf hg r _ (hf s x h (hp x (by simp))) fun y hy=>hp y (by simp [hy]))
theorem uo {ng n c:Nat} {s:dR} (h:cy ng n s) (hn:c < n):∀m,m≤ng→cy ng n ((List.range m).foldl (dk ng c) s)∧px ng s ((List.range m).foldl (dk ng c) s)∧(((List.range m).foldl (dk ng c) s).2.2=false→
  aD ((List.range m).foldl (dk ng c) s).2.1 c≠(c:Int)∨∀g,g < m→0≤bT ((List.range m).foldl (dk ng c) s).1 c g)
 | 0,_=>⟨h,Grow.refl _ _ _,fun _=> .inr fun g hg=>by omega⟩
 | m + 1,hm=>by
  obtain ⟨h1,h2,h3⟩:=uo h hn m ab
  rw [List.range_succ,List.foldl_append]
  generalize (List.range m).foldl (dk ng c) s=t at *
  show cy ng n (dk ng c t m)∧px ng s (dk ng c t m)∧((dk ng c t m).2.2=false→aD (dk ng c t m).2.1 c≠(c:Int)∨∀g,g < m + 1→0≤bT (dk ng c t m).1 c g)
  have g1:=zA (g:=m) h1 hn ab
  refine ⟨ku h1 hn ab,h2.trans g1,fun hf=> ?_⟩
  have hct:c < t.2.1.length:=Nat.lt_of_lt_of_le hn h1.lo
  cases hl:eQ t c with
  | false=>
   rw [jk hl] at hf ⊢
   left
   unfold eQ at hl
   rw [hf] at hl
   simpa using hl
  | true=>
   have hlv:aD t.2.1 c=(c:Int)∧t.2.2=false:=by unfold eQ at hl;simpa using hl
   rcases h3 hlv.2 with h4 | h4
   ·exact absurd hlv.1 h4
   ·by_cases e:aD (dk ng c t m).2.1 c=(c:Int)
    ·right
     intro g hg
     by_cases e2:g=m
     ·subst e2
      unfold dk at hf ⊢
      rw [if_pos hl] at hf ⊢
      exact AZ h1.wf hct ab hf
     ·exact g1.bT c g hct ab (h4 g ab)
    ·exact .inl e
theorem vY {ng n c:Nat} {rels:List (List Int)} {s:dR} (h:cy ng n s) (hn:c < n) (hr:∀w∈rels,bA ng w):px ng s (eh ng rels c s)∧((eh ng rels c s).2.2=false→Dn ng (eh ng rels c s) c):=by
 have h1:=kC (p:=bA ng) (fun s w h hw=>jc h hn hw) rels s h hr
 have g1:=rY (p:=bA ng) (fun s w h hw=>jc h hn hw) (fun s w h hw=>xL h hn hw) rels s h hr
 obtain ⟨_,g2,h3⟩:=uo h1 hn ng (Nat.le_refl _)
 exact ⟨g1.trans g2,h3⟩
theorem gP {ng:Nat} {rels:List (List Int)} {s:dR} (h:s.2.2=true):∀f c,outer ng rels f c s=s
 | 0,_=>rfl
 | f + 1,c=>by unfold outer;rw [if_neg (by rw [h];simp)]
theorem sa {ng:Nat} {rels:List (List Int)} (hr:∀w∈rels,bA ng w):∀(f c:Nat) (s:dR),cy ng 1 s→2001≤f + c→c≤s.2.1.length→(∀i,i < c→Dn ng s i)→(outer ng rels f c s).2.2=false→∀i,i < (outer ng rels f c s).2.1.length→Dn ng (outer ng rels f c s) i
 | 0,c,s,h,hf,hc,_,_=>by have:=h.hi;omega
 | f + 1,c,s,h,hf,hc,hd,hnf=>by
  unfold outer at hnf ⊢
  by_cases hcond:c < s.2.1.length∧s.2.2=false
  ·rw [if_pos hcond] at hnf ⊢
   have hk:=tZ (n:=s.2.1.length) ⟨h.wf,Nat.le_refl _,h.hi⟩ hcond.1 hr
   obtain ⟨g1,d1⟩:=vY (n:=s.2.1.length) ⟨h.wf,Nat.le_refl _,h.hi⟩ hcond.1 hr
   have hnf1:(eh ng rels c s).2.2=false:=by
    cases e:(eh ng rels c s).2.2 with
    | false=>rfl
    | true=>rw [gP e,e] at hnf;cases hnf
   refine sa hr f (c + 1) _ (hk.le h.lo) ab (by have:=g1.len;omega) (fun i hi=> ?_) hnf
   by_cases e:i=c
   ·subst e;exact d1 hnf1
   ·exact g1.dn ab (hd i ab)
  ·rw [if_neg hcond] at hnf ⊢
   intro i hi
   refine hd i ?_
   by_cases e:c < s.2.1.length
   ·exact absurd ⟨e,hnf⟩ hcond
   ·omega
theorem Bd {ng:Nat} {rels words:List (List Int)} (hr:∀w∈rels,bA ng w) (hw:∀w∈words,bA ng w) (hnf:(dq ng rels words).2.2=false):∀c,c < (dq ng rels words).2.1.length→Dn ng (dq ng rels words) c:=
 sa hr _ _ _ (kC (p:=bA ng) (fun s w h hw=>j9 h ab hw) _ _ (jb ng) hw) (Nat.le_refl _) (Nat.zero_le _) (fun i hi=>by omega) hnf
end Go.Proofs.Ytfpcfckocmmcnaa
namespace Go.Proofs.Ytfpcfckocmmcnaa
abbrev jR:=List Int×List Int
def visit (s:jR) (d:Nat):jR:=if aD s.2 d < 0 then (s.1 ++ [(d:Int)],s.2.set d (s.1.length:Int)) else s
def dz (im:List (List Int)) (less:List Int) (i:Nat) (s:jR) (g:Nat):jR:=visit s (image im less (aD s.1 i).toNat g).toNat
def l4 (ng:Nat) (im:List (List Int)) (less:List Int) (i:Nat) (s:jR):jR:=(List.range ng).foldl (dz im less i) s
def dw (ng:Nat) (im:List (List Int)) (less:List Int):Nat→Nat→jR→jR
 | 0,_,s=>s
 | f + 1,i,s=>if i < s.1.length then dw ng im less f (i + 1) (l4 ng im less i s) else s
def ez (n:Nat):jR:=([0],(List.replicate n (-1)).set 0 0)
def cq (ng:Nat) (im:List (List Int)) (less:List Int):jR:=dw ng im less (less.length + 1) 0 (ez less.length)
def dv (ng:Nat) (im:List (List Int)) (less:List Int):List (List Int):=
 (List.range ng).map fun g=>(cq ng im less).1.map fun c=>aD (cq ng im less).2 (image im less c.toNat g).toNat
def yj (l:List Int):Nat:=(l.filter fun z=>decide (0≤z)).length
theorem GC (l:List Int):yj l≤l.length:=List.length_filter_le _ _
theorem vt:∀(l:List Int) (d:Nat) (z:Int),d < l.length→aD l d < 0→0≤z→yj (l.set d z)=yj l + 1
 | [],d,z,h,_,_=>by simp at h
 | x :: r,0,z,_,h,hz=>by
  have h:x < 0:=by simpa [aD] using h
  simp [yj,show ¬0≤x by omega,hz]
 | x :: r,d + 1,z,hd,h,hz=>by
  have ih:=vt r d z (by simpa using hd) (by simpa [aD] using h) hz
  unfold yj at ih ⊢
  simp only [List.set_cons_succ,List.filter_cons]
  split
  ·simp only [List.length_cons];omega
  ·exact ih
structure Full (ng:Nat) (im:List (List Int)) (less:List Int):Prop where
 wf:WF ng im less
 pos:0 < less.length
 full:∀c,c < less.length→aD less c=(c:Int)→∀g,g < ng→0≤bT im c g
theorem Full.zero {ng:Nat} {im:List (List Int)} {less:List Int} (h:Full ng im less):aD less 0=((0:Nat):Int):=by
 have:=h.wf.down 0 h.pos;omega
theorem Full.image {ng:Nat} {im:List (List Int)} {less:List Int} (h:Full ng im less) {c g:Nat} (hc:c < less.length) (hl:aD less c=(c:Int)) (hg:g < ng):
  ∃d:Nat,image im less c g=(d:Int)∧d < less.length∧aD less d=(d:Int):=by
 have h1:=h.full c hc hl g hg
 have h2:=h.wf.bT c g (by rw [h.wf.len];exact hc) hg
 refine ⟨root less (bT im c g).toNat,by unfold Proofs.Ytfpcfckocmmcnaa.image;rw [if_neg ab],cZ h.wf.down ab, ?_⟩
 exact (eE h.wf.down _ ab).1
structure p7 (n:Nat) (less:List Int) (s:jR):Prop where
 len:s.2.length=n
 yj:yj s.2=s.1.length
 live:∀k,k < s.1.length→∃d:Nat,aD s.1 k=(d:Int)∧d < n∧aD less d=(d:Int)∧aD s.2 d=(k:Int)
 num:∀d,d < n→0≤aD s.2 d→aD s.2 d < s.1.length
theorem p7.le {n:Nat} {less:List Int} {s:jR} (h:p7 n less s):s.1.length≤n:=by
 have:=GC s.2;rw [h.yj,h.len] at this;exact this
theorem DL {n:Nat} {less:List Int} {s:jR} {d:Nat} (h:p7 n less s) (hd:d < n) (hl:aD less d=(d:Int)):p7 n less (visit s d):=by
 unfold visit
 split
 ·rename_i hn
  refine ⟨by rw [List.length_set];exact h.len, ?_,fun k hk=> ?_,fun e he h0=> ?_⟩
  ·dsimp only;rw [vt _ _ _ (by rw [h.len];exact hd) hn ab,h.yj];simp
  ·dsimp only at hk ⊢
   by_cases e:k < s.1.length
   ·obtain ⟨d',h1,h2,h3,h4⟩:=h.live k e
    refine ⟨d',by rw [cI e];exact h1,h2,h3, ?_⟩
    rw [cO]
    split
    ·rename_i e2;rw [e2.1] at hn;omega
    ·exact h4
   ·obtain rfl:k=s.1.length:=by simp at hk;omega
    exact ⟨d,dS,hd,hl,by rw [cO,if_pos ⟨rfl,by rw [h.len];exact hd⟩]⟩
  ·dsimp only at h0 ⊢
   rw [cO] at h0 ⊢
   rw [List.length_append]
   split
   ·simp;omega
   ·rename_i hne
    rw [if_neg hne] at h0
    have:=h.num e he h0
    simp;omega
 ·exact h
structure iR (s s':jR):Prop where
 pre:∀k,k < s.1.length→aD s'.1 k=aD s.1 k
 len:s.1.length≤s'.1.length
 num:∀d,0≤aD s.2 d→aD s'.2 d=aD s.2 d
theorem iR.refl (s:jR):iR s s:=⟨fun _ _=>rfl,Nat.le_refl _,fun _ _=>rfl⟩
theorem iR.trans {a b c:jR} (h:iR a b) (k:iR b c):iR a c:=
 ⟨fun i hi=>(k.pre i (Nat.lt_of_lt_of_le hi h.len)).trans (h.pre i hi),Nat.le_trans h.len k.len,fun d hd=>(k.num d (by rw [h.num d hd];exact hd)).trans (h.num d hd)⟩
theorem jA (s:jR) (d:Nat):iR s (visit s d):=by
 unfold visit
 split
 ·rename_i hn
  refine ⟨fun k hk=>cI hk,by simp,fun e he=> ?_⟩
  dsimp only
  rw [cO,if_neg]
  rintro ⟨rfl,_⟩
  omega
 ·exact iR.refl s
theorem uw {n:Nat} {less:List Int} {s:jR} {d:Nat} (h:p7 n less s) (hd:d < n):0≤aD (visit s d).2 d:=by
 unfold visit
 split
 ·dsimp only;rw [cO,if_pos ⟨rfl,by rw [h.len];exact hd⟩];omega
 ·rename_i hn;omega
theorem AK {ng:Nat} {im:List (List Int)} {less:List Int} (hF:Full ng im less) {i g:Nat} {s:jR} (h:p7 less.length less s) (hi:i < s.1.length) (hg:g < ng):
  p7 less.length less (dz im less i s g)∧iR s (dz im less i s g)∧0≤aD (dz im less i s g).2 (image im less (aD s.1 i).toNat g).toNat:=by
 obtain ⟨d,h1,h2,h3,_⟩:=h.live i hi
 obtain ⟨e,e1,e2,e3⟩:=hF.image h2 h3 hg
 unfold dz
 rw [h1,Int.toNat_natCast,e1,Int.toNat_natCast]
 exact ⟨DL h e2 e3,jA s e,uw h e2⟩
theorem fI {ng:Nat} {im:List (List Int)} {less:List Int} (hF:Full ng im less) {i:Nat} {s:jR} (h:p7 less.length less s) (hi:i < s.1.length):∀m,m≤ng→
  p7 less.length less ((List.range m).foldl (dz im less i) s)∧iR s ((List.range m).foldl (dz im less i) s)∧∀g,g < m→0≤aD ((List.range m).foldl (dz im less i) s).2 (image im less (aD s.1 i).toNat g).toNat
 | 0,_=>⟨h,iR.refl s,fun g hg=>by omega⟩
 | m + 1,hm=>by
  obtain ⟨h1,h2,h3⟩:=fI hF h hi m ab
  rw [List.range_succ,List.foldl_append]
  generalize (List.range m).foldl (dz im less i) s=t at *
  obtain ⟨k1,k2,k3⟩:=AK hF (i:=i) (g:=m) h1 (Nat.lt_of_lt_of_le hi h2.len) ab
  rw [h2.pre i hi] at k3
  refine ⟨k1,h2.trans k2,fun g hg=> ?_⟩
  by_cases e:g=m
  ·subst e;exact k3
  ·have:=h3 g ab
   show 0≤aD (dz im less i t m).2 _
   rw [k2.num _ this];exact this
def Seen (ng:Nat) (im:List (List Int)) (less:List Int) (i:Nat) (s:jR):Prop:=∀k,k < i→∀g,g < ng→0≤aD s.2 (image im less (aD s.1 k).toNat g).toNat
theorem Seen.row {ng:Nat} {im:List (List Int)} {less:List Int} (hF:Full ng im less) {i:Nat} {s:jR} (h:p7 less.length less s) (hi:i < s.1.length) (hs:Seen ng im less i s):Seen ng im less (i + 1) (l4 ng im less i s):=by
 obtain ⟨_,h2,h3⟩:=fI hF h hi ng (Nat.le_refl _)
 intro k hk g hg
 show 0≤aD (l4 ng im less i s).2 _
 have e:aD (l4 ng im less i s).1 k=aD s.1 k:=h2.pre k ab
 rw [e]
 by_cases e2:k=i
 ·subst e2;exact h3 g hg
 ·have:=hs k ab g hg
  have e3:=h2.num _ this
  unfold l4
  rw [e3];exact this
theorem sf {ng:Nat} {im:List (List Int)} {less:List Int} (hF:Full ng im less):∀(f i:Nat) (s:jR),p7 less.length less s→Seen ng im less i s→i≤s.1.length→less.length + 1≤f + i→
  p7 less.length less (dw ng im less f i s)∧Seen ng im less (dw ng im less f i s).1.length (dw ng im less f i s)
 | 0,i,s,h,hs,hi,hf=>by have:=h.le;omega
 | f + 1,i,s,h,hs,hi,hf=>by
  unfold dw
  split
  ·rename_i hlt
   obtain ⟨h1,h2,_⟩:=fI hF h hlt ng (Nat.le_refl _)
   exact sf hF f (i + 1) _ h1 (hs.row hF h hlt) (Nat.le_trans hlt h2.len) ab
  ·rename_i hlt
   obtain rfl:i=s.1.length:=by omega
   exact ⟨h,hs⟩
theorem Af:∀n,yj (List.replicate n (-1))=0
 | 0=>rfl
 | n + 1=>by have:=Af n;unfold yj at this ⊢;rw [List.replicate_succ,List.filter_cons,if_neg (by decide)];exact this
theorem ix {ng:Nat} {im:List (List Int)} {less:List Int} (hF:Full ng im less):p7 less.length less (ez less.length):=by
 have hp:=hF.pos
 have hr:∀d,d < less.length→aD (List.replicate less.length (-1)) d= -1:=fun d hd=>fl hd
 refine ⟨by simp [ez], ?_,fun k hk=> ?_,fun d hd h0=> ?_⟩
 ·show yj ((List.replicate less.length (-1)).set 0 0)=1
  rw [vt _ _ _ (by simpa using hp) (by rw [hr 0 hp];decide) (by decide),Af]
 ·obtain rfl:k=0:=by simp [ez] at hk;omega
  exact ⟨0,rfl,hp,hF.zero,by show aD ((List.replicate less.length (-1)).set 0 0) 0=_;rw [cO,if_pos ⟨rfl,by simpa using hp⟩];rfl⟩
 ·have h0:0≤aD ((List.replicate less.length (-1)).set 0 0) d:=h0
  show aD ((List.replicate less.length (-1)).set 0 0) d < ((1:Nat):Int)
  rw [cO] at h0 ⊢
  split
  ·decide
  ·rename_i hne;rw [if_neg hne,hr d hd] at h0;omega
theorem jL {ng:Nat} {im:List (List Int)} {less:List Int} (hF:Full ng im less):p7 less.length less (cq ng im less)∧Seen ng im less (cq ng im less).1.length (cq ng im less):=
 sf hF _ _ _ (ix hF) (fun k hk=>by omega) (Nat.zero_le _) ab
theorem lF {ng:Nat} {rels words:List (List Int)} (hr:∀w∈rels,bA ng w) (hw:∀w∈words,bA ng w) (hnf:(dq ng rels words).2.2=false):Full ng (dq ng rels words).1 (dq ng rels words).2.1:=
 ⟨(vi hr hw).wf,(vi hr hw).lo,fun c hc hl g hg=>(Bd hr hw hnf c hc).elim (fun h=>absurd hl h) fun h=>h g hg⟩
theorem uM {ng:Nat} {im:List (List Int)} {less:List Int} (hF:Full ng im less) {k g:Nat} (hk:k < (cq ng im less).1.length) (hg:g < ng):
  0≤aD (cq ng im less).2 (image im less (aD (cq ng im less).1 k).toNat g).toNat∧aD (cq ng im less).2 (image im less (aD (cq ng im less).1 k).toNat g).toNat < (cq ng im less).1.length:=by
 obtain ⟨h,hs⟩:=jL hF
 have h0:=hs k hk g hg
 obtain ⟨d,h1,h2,h3,_⟩:=h.live k hk
 obtain ⟨e,e1,e2,_⟩:=hF.image h2 h3 hg
 rw [h1,Int.toNat_natCast,e1,Int.toNat_natCast] at h0 ⊢
 exact ⟨h0,h.num e e2 h0⟩
end Go.Proofs.Ytfpcfckocmmcnaa
namespace Go.Proofs.Ytfpcfckocmmcnaa
theorem ij {less:List Int} (h:Down less) {c:Nat} (hc:c < less.length):root less (root less c)=root less c:=de (eE h c hc).1
theorem qM {less:List Int} (h:Down less) {lo hi:Nat} (hlt:lo < hi) (hh:hi < less.length) (hl0:aD less lo=(lo:Int)) (hh0:aD less hi=(hi:Int)):∀c,c < less.length→root (less.set hi (lo:Int)) c=if root less c=hi then lo else root less c:=by
 have hd:=sA h (lo:=lo) (hi:=hi) ab
 have hlo:aD (less.set hi (lo:Int)) lo=(lo:Int):=by rw [cO,if_neg ab];exact hl0
 intro c
 induction c using Nat.strongRecOn with
 | _ c ih=>
  intro hc
  by_cases e:aD less c=(c:Int)
  ·rw [de e]
   by_cases e2:c=hi
   ·subst e2
    rw [if_pos rfl]
    have h1:aD (less.set c (lo:Int)) c=(lo:Int):=by rw [cO,if_pos ⟨rfl,hh⟩]
    rw [fO hd (by rw [List.length_set];exact hc) (by rw [h1];omega),h1,Int.toNat_natCast]
    exact de hlo
   ·rw [if_neg e2]
    exact de (by rw [cO,if_neg ab];exact e)
  ·have hb:=h c hc
   have hne:c≠hi:=fun e2=>by subst e2;exact e hh0
   have h1:aD (less.set hi (lo:Int)) c=aD less c:=by rw [cO,if_neg ab]
   rw [fO hd (by rw [List.length_set];exact hc) (by rw [h1];exact e),h1,fO h hc e]
   exact ih _ ab ab
theorem wy {less:List Int} (h:Down less):∀c,c < less.length→root (less ++ [(less.length:Int)]) c=root less c:=by
 have hd:Down (less ++ [(less.length:Int)]):=fun c hc=>by
  by_cases e:c < less.length
  ·rw [cI e];exact h c e
  ·obtain rfl:c=less.length:=by simp at hc;omega
   rw [dS];omega
 intro c
 induction c using Nat.strongRecOn with
 | _ c ih=>
  intro hc
  have h1:aD (less ++ [(less.length:Int)]) c=aD less c:=cI hc
  by_cases e:aD less c=(c:Int)
  ·rw [de e,de (h1.trans e)]
  ·have hb:=h c hc
   rw [fO hd (by simp;omega) (by rw [h1];exact e),h1,fO h hc e]
   exact ih _ ab ab
inductive iN (less:List Int) (q:List (Int×Int)):Nat→Nat→Prop where
 | refl (a:Nat):iN less q a a
 | symm {a b:Nat} (h:iN less q a b):iN less q b a
 | trans {a b c:Nat} (h:iN less q a b) (k:iN less q b c):iN less q a c
 | root (a:Nat) (h:a < less.length):iN less q a (root less a)
 | pair (p:Int×Int) (h:p∈q):iN less q p.1.toNat p.2.toNat
theorem iN.mono {less less':List Int} {q q':List (Int×Int)} (h1:∀a,a < less.length→iN less' q' a (Proofs.Ytfpcfckocmmcnaa.root less a)) (h2:∀p∈q,iN less' q' p.1.toNat p.2.toNat) {a b:Nat} (h:iN less q a b):iN less' q' a b:=by
 induction h with
 | refl a=>exact .refl a
 | symm _ ih=>exact .symm ih
 | trans _ _ ih1 ih2=>exact .trans ih1 ih2
 | root a h=>exact h1 a h
 | pair p h=>exact h2 p h
theorem iN.qg {less:List Int} (hd:Down less) {a b:Nat} (h:iN less [] a b):Proofs.Ytfpcfckocmmcnaa.root less a=Proofs.Ytfpcfckocmmcnaa.root less b:=by
 induction h with
 | refl a=>rfl
 | symm _ ih=>exact ih.symm
 | trans _ _ ih1 ih2=>exact ih1.trans ih2
 | root a h=>exact (ij hd h).symm
 | pair p h=>simp at h
def fE (ng:Nat) (im:List (List Int)) (less:List Int) (q:List (Int×Int)):Prop:=
 ∀c g,c < less.length→aD less c=(c:Int)→g < ng→0≤bT im c g→0≤bT im (root less (bT im c g).toNat) g∧iN less q (bT im (root less (bT im c g).toNat) g).toNat c
theorem kN {ng lo hi:Nat} {im:List (List Int)} {less:List Int} {q:List (Int×Int)} (h:WF ng im less) (hlo:lo < im.length) (hne:lo≠hi):∀g,g≤ng→
  (∀c k,(c≠lo∨g≤k)→bT (bE lo hi (im,q) g).1 c k=bT im c k)∧(∀k,k < g→bT (bE lo hi (im,q) g).1 lo k=if bT im hi k < 0 then bT im lo k else if 0≤bT im lo k then bT im lo k else bT im hi k)∧
  (∀p∈q,p∈(bE lo hi (im,q) g).2)∧(∀k,k < g→0≤bT im hi k→0≤bT im lo k→(bT im hi k,bT im lo k)∈(bE lo hi (im,q) g).2)∧((bE lo hi (im,q) g).1.length=im.length∧∀c,(aT (bE lo hi (im,q) g).1 c).length=(aT im c).length)
 | 0,_=>⟨fun _ _ _=>rfl,fun k hk=>by omega,fun _ h=>h,fun k hk=>by omega,rfl,fun _=>rfl⟩
 | g + 1,hg=>by
  obtain ⟨h1,h2,h3,h4,h5,h6⟩:=kN h hlo hne g ab (q:=q)
  have ehi:bT (bE lo hi (im,q) g).1 hi g=bT im hi g:=h1 hi g (.inl (fun e=>hne e.symm))
  have elo:bT (bE lo hi (im,q) g).1 lo g=bT im lo g:=h1 lo g (.inr (Nat.le_refl _))
  simp only [bE,stepG,ehi,elo]
  split
  ·rename_i hn
   refine ⟨fun c k hk=>h1 c k (hk.imp id fun h=>by omega),fun k hk=> ?_,h3,fun k hk a b=> ?_,h5,h6⟩
   ·by_cases e:k=g
    ·subst e;rw [elo,if_pos hn]
    ·exact h2 k ab
   ·by_cases e:k=g
    ·subst e;omega
    ·exact h4 k ab a b
  ·rename_i hn
   split
   ·rename_i hp
    refine ⟨fun c k hk=>h1 c k (hk.imp id fun h=>by omega),fun k hk=> ?_,fun p hp'=>by simp [h3 p hp'],fun k hk a b=> ?_,h5,h6⟩
    ·by_cases e:k=g
     ·subst e;rw [elo,if_neg hn,if_pos hp]
     ·exact h2 k ab
    ·by_cases e:k=g
     ·subst e;simp
     ·simp [h4 k ab a b]
   ·rename_i hp
    have hlen:lo < (bE lo hi (im,q) g).1.length:=by rw [h5];exact hlo
    have hrow:g < (aT (bE lo hi (im,q) g).1 lo).length:=by rw [h6,h.row lo hlo];omega
    refine ⟨fun c k hk=> ?_,fun k hk=> ?_,h3,fun k hk a b=> ?_,by rw [dE];exact h5,fun c=>by rw [iA];exact h6 c⟩
    ·dsimp only
     rw [eI hlen hrow,if_neg (by rcases hk with hk | hk<;>omega)]
     exact h1 c k (hk.imp id fun h=>by omega)
    ·dsimp only
     rw [eI hlen hrow]
     by_cases e:k=g
     ·subst e;rw [if_pos ⟨rfl,rfl⟩,if_neg hn,if_neg hp]
     ·rw [if_neg ab];exact h2 k ab
    ·by_cases e:k=g
     ·subst e;omega
     ·exact h4 k ab a b
theorem fE.merge {ng lo hi:Nat} {im:List (List Int)} {less:List Int} {p:Int×Int} {q:List (Int×Int)} (h:WF ng im less) (hB:fE ng im less (p :: q)) (hp:p.1.toNat < less.length∧p.2.toNat < less.length) (hlt:lo < hi) (hhi:hi < less.length) (hl0:aD less lo=(lo:Int)) (hh0:aD less hi=(hi:Int))
  (hr:(root less p.1.toNat=lo∧root less p.2.toNat=hi)∨(root less p.1.toNat=hi∧root less p.2.toNat=lo)):fE ng (bE lo hi (im,q) ng).1 (less.set hi (lo:Int)) (bE lo hi (im,q) ng).2:=by
 have hil:lo < im.length:=by rw [h.len];omega
 obtain ⟨m1,m2,m3,m4,_⟩:=kN (q:=q) h hil (by omega:lo≠hi) ng (Nat.le_refl _)
 have hrs:=qM h.down hlt hhi hl0 hh0
 have hd:=sA h.down (lo:=lo) (hi:=hi) ab
 generalize (bE lo hi (im,q) ng).1=im' at *
 generalize (bE lo hi (im,q) ng).2=q' at *
 have hlh:iN (less.set hi (lo:Int)) q' hi lo:=by
  have:=iN.root (less:=less.set hi (lo:Int)) (q:=q') hi (by rw [List.length_set];exact hhi)
  rwa [hrs hi hhi,de hh0,if_pos rfl] at this
 have hroot:∀a,a < less.length→iN (less.set hi (lo:Int)) q' a (root less a):=fun a ha=>by
  have:=iN.root (less:=less.set hi (lo:Int)) (q:=q') a (by rw [List.length_set];exact ha)
  rw [hrs a ha] at this
  by_cases e:root less a=hi
  ·rw [if_pos e] at this;rw [e];exact this.trans hlh.symm
  ·rwa [if_neg e] at this
 have hmono:∀ {a b:Nat},iN less (p :: q) a b→iN (less.set hi (lo:Int)) q' a b:=fun hab=>by
  refine iN.mono hroot (fun x hx=> ?_) hab
  rcases List.mem_cons.1 hx with rfl | hx
  ·have k1:=hroot _ hp.1
   have k2:=hroot _ hp.2
   rcases hr with ⟨r1,r2⟩ | ⟨r1,r2⟩
   ·rw [r1] at k1;rw [r2] at k2;exact k1.trans (hlh.symm.trans k2.symm)
   ·rw [r1] at k1;rw [r2] at k2;exact k1.trans (hlh.trans k2.symm)
  ·exact .pair x (m3 x hx)
 have elo:∀g,g < ng→(0≤bT im lo g→bT im' lo g=bT im lo g)∧(0≤bT im hi g→0≤bT im' lo g∧iN (less.set hi (lo:Int)) q' (bT im' lo g).toNat (bT im hi g).toNat):=fun g hg=>by
  have e:=m2 g hg
  refine ⟨fun h0=> ?_,fun h0=> ?_⟩
  ·rw [e];split<;>first | rfl | rw [if_pos h0]
  ·by_cases h1:0≤bT im lo g
   ·rw [e,if_neg ab,if_pos h1]
    exact ⟨h1,(iN.pair _ (m4 g hg h0 h1)).symm⟩
   ·rw [e,if_neg ab,if_neg h1]
    exact ⟨h0, .refl _⟩
 have key:∀r g,r < less.length→g < ng→0≤bT im r g→0≤bT im' (if r=hi then lo else r) g∧iN (less.set hi (lo:Int)) q' (bT im' (if r=hi then lo else r) g).toNat (bT im r g).toNat:=fun r g hr' hg h0=>by
  by_cases e:r=hi
  ·subst e;rw [if_pos rfl];exact (elo g hg).2 h0
  ·rw [if_neg e]
   by_cases e2:r=lo
   ·subst e2;rw [(elo g hg).1 h0];exact ⟨h0, .refl _⟩
   ·rw [m1 r g (.inl e2)];exact ⟨h0, .refl _⟩
 intro c g hc hlive hg h0
 rw [List.length_set] at hc
 have hch:c≠hi:=fun e=>by subst e;rw [cO,if_pos ⟨rfl,hhi⟩] at hlive;omega
 have hlv:aD less c=(c:Int):=by rw [cO,if_neg (fun e=>hch e.1.symm)] at hlive;exact hlive
 have src:(0≤bT im c g∧bT im' c g=bT im c g)∨(c=lo∧bT im c g < 0∧0≤bT im hi g∧bT im' c g=bT im hi g):=by
  by_cases e:c=lo
  ·subst e
   have e':=m2 g hg
   by_cases h1:0≤bT im c g
   ·exact .inl ⟨h1,(elo g hg).1 h1⟩
   ·right
    rw [e'] at h0 ⊢
    split at h0
    ·omega
    ·rename_i h2
     rw [if_neg h2,if_neg h1]
     exact ⟨rfl,ab,ab,rfl⟩
  ·rw [m1 c g (.inl e)] at h0
   exact .inl ⟨h0,m1 c g (.inl e)⟩
 have hcl:c < im.length:=by rw [h.len];exact hc
 rcases src with ⟨h1,h2⟩ | ⟨rfl,h1,h2,h3⟩
 ·rw [h2]
  obtain ⟨k1,k2⟩:=hB c g hc hlv hg h1
  have hel:=h.bT c g hcl hg
  have hrl:=cZ h.down (c:=(bT im c g).toNat) ab
  rw [hrs _ ab]
  obtain ⟨k3,k4⟩:=key _ g hrl hg k1
  exact ⟨k3,k4.trans (hmono k2)⟩
 ·rw [h3]
  obtain ⟨k1,k2⟩:=hB hi g hhi hh0 hg h2
  have hel:=h.bT hi g (by rw [h.len];exact hhi) hg
  have hrl:=cZ h.down (c:=(bT im hi g).toNat) ab
  rw [hrs _ ab]
  obtain ⟨k3,k4⟩:=key _ g hrl hg k1
  exact ⟨k3,(k4.trans (hmono k2)).trans hlh⟩
theorem fE.CJ {ng:Nat} {im:List (List Int)} {less:List Int} {q q':List (Int×Int)} (hB:fE ng im less q) (hq:∀p∈q,iN less q' p.1.toNat p.2.toNat):fE ng im less q':=fun c g hc hl hg h0=>by
 obtain ⟨k1,k2⟩:=hB c g hc hl hg h0
 exact ⟨k1,k2.mono (fun a ha=> .root a ha) hq⟩
theorem js {ng n:Nat} :∀(f:Nat) (im:List (List Int)) (less:List Int) (q:List (Int×Int)),WF ng im less→less.length=n→mD n q→fuel ng less q≤f→fE ng im less q→fE ng (cH ng f im less q).1 (cH ng f im less q).2 []
 | 0,im,less,q,h,hn,hq,hf,hB=>by
  have:q= []:=List.eq_nil_of_length_eq_zero (by unfold fuel at hf;omega)
  subst this;exact hB
 | f + 1,im,less, [],h,hn,hq,hf,hB=>hB
 | f + 1,im,less,p :: q,h,hn,hq,hf,hB=>by
  have hp:=hq p (by simp)
  have hq':mD less.length q:=fun x hx=>hn ▸ hq x (by simp [hx])
  have hr1:=eE h.down p.1.toNat ab
  have hr2:=eE h.down p.2.toNat ab
  have hfu:fuel ng less (p :: q)=fuel ng less q + 1:=by unfold fuel;simp;omega
  simp only [cH]
  split
  ·rename_i he
   refine js f im less q h hn (fun x hx=>hq x (by simp [hx])) ab (hB.CJ fun x hx=> ?_)
   rcases List.mem_cons.1 hx with rfl | hx
   ·have k1:=iN.root (less:=less) (q:=q) x.1.toNat ab
    have k2:=iN.root (less:=less) (q:=q) x.2.toNat ab
    rw [he] at k1;exact k1.trans k2.symm
   ·exact .pair x hx
  ·rename_i hne
   have hid:=jQ h (hn ▸ hq) hne
   unfold gg at hid
   obtain ⟨_,w1,w2,w3⟩:=hid
   have hroots:aD less (min (root less p.1.toNat) (root less p.2.toNat))=((min (root less p.1.toNat) (root less p.2.toNat):Nat):Int)∧aD less (max (root less p.1.toNat) (root less p.2.toNat))=((max (root less p.1.toNat) (root less p.2.toNat):Nat):Int):=by
    rcases Nat.le_total (root less p.1.toNat) (root less p.2.toNat) with h5 | h5
    ·rw [Nat.min_eq_left h5,Nat.max_eq_right h5];exact ⟨hr1.1,hr2.1⟩
    ·rw [Nat.min_eq_right h5,Nat.max_eq_left h5];exact ⟨hr2.1,hr1.1⟩
   have hbk:=hB.merge h ab (lo:=min (root less p.1.toNat) (root less p.2.toNat)) (hi:=max (root less p.1.toNat) (root less p.2.toNat)) ab ab hroots.1 hroots.2 (by
    rcases Nat.le_total (root less p.1.toNat) (root less p.2.toNat) with h5 | h5
    ·left;rw [Nat.min_eq_left h5,Nat.max_eq_right h5];exact ⟨rfl,rfl⟩
    ·right;rw [Nat.min_eq_right h5,Nat.max_eq_left h5];exact ⟨rfl,rfl⟩)
   exact js f _ _ _ w1 (by rw [List.length_set];exact hn) (hn ▸ w2) ab hbk
theorem mM {ng:Nat} {im:List (List Int)} {less:List Int} {p:Int×Int} (h:WF ng im less) (hq:mD less.length [p]) (hB:fE ng im less []):fE ng (ident ng im less [p]).1 (ident ng im less [p]).2 []:=
 js _ im less [p] h rfl hq (Nat.le_refl _) (hB.CJ fun x hx=>by simp at hx)
section
variable {ng:Nat} {im:List (List Int)} {less:List Int}
theorem fE.fix (hB:fE ng im less []) (h:WF ng im less) {c g:Nat} (hc:c < less.length) (hl:aD less c=(c:Int)) (hg:g < ng) (h0:0≤bT im c g):0≤bT im (root less (bT im c g).toNat) g∧root less (bT im (root less (bT im c g).toNat) g).toNat=c:=by
 obtain ⟨k1,k2⟩:=hB c g hc hl hg h0
 exact ⟨k1,(k2.qg h.down).trans (de hl)⟩
theorem fE.of (h:∀c g,c < less.length→aD less c=(c:Int)→g < ng→0≤bT im c g→0≤bT im (root less (bT im c g).toNat) g∧root less (bT im (root less (bT im c g).toNat) g).toNat=c) (hw:WF ng im less):fE ng im less []:=fun c g hc hl hg h0=>by
 obtain ⟨k1,k2⟩:=h c g hc hl hg h0
 refine ⟨k1, ?_⟩
 have he:=hw.bT c g (by rw [hw.len];exact hc) hg
 have hrl:=cZ hw.down (c:=(bT im c g).toNat) ab
 have he2:=hw.bT (root less (bT im c g).toNat) g (by rw [hw.len];exact hrl) hg
 have:=iN.root (less:=less) (q:= []) (bT im (root less (bT im c g).toNat) g).toNat ab
 rwa [k2] at this
theorem fE.link (hB:fE ng im less []) (hw:WF ng im less) {c d g:Nat} (hc:c < less.length) (hd:d < less.length) (hlc:aD less c=(c:Int)) (hld:aD less d=(d:Int)) (hg:g < ng) (h1:bT im c g < 0) (h2:bT im d g < 0):fE ng (eo (eo im d g (c:Int)) c g (d:Int)) less []:=by
 have hl:=hw.len
 have w1:=hw.gw (c:=d) (g:=g) (z:=(c:Int)) ab hg ab
 have w2:=w1.gw (c:=c) (g:=g) (z:=(d:Int)) (by rw [dE];omega) hg ab
 have ee:∀a k,bT (eo (eo im d g (c:Int)) c g (d:Int)) a k=if c=a∧g=k then (d:Int) else if d=a∧g=k then (c:Int) else bT im a k:=fun a k=>by
  rw [eI (by rw [dE];omega) (by rw [iA,hw.row c ab];exact hg),eI ab (by rw [hw.row d ab];exact hg)]
 refine fE.of (fun a k ha hla hk h0=> ?_) w2
 have e0:=ee a k
 by_cases e1:c=a∧g=k
 ·obtain ⟨rfl,rfl⟩:=e1
  rw [if_pos ⟨rfl,rfl⟩] at e0
  rw [e0,Int.toNat_natCast,de hld]
  have e3:=ee d g
  by_cases e2:c=d
  ·subst e2;rw [if_pos ⟨rfl,rfl⟩] at e3;rw [e3,Int.toNat_natCast];exact ⟨ab,de hlc⟩
  ·rw [if_neg (fun h=>e2 h.1),if_pos ⟨rfl,rfl⟩] at e3;rw [e3,Int.toNat_natCast];exact ⟨ab,de hlc⟩
 ·rw [if_neg e1] at e0
  by_cases e2:d=a∧g=k
  ·obtain ⟨rfl,rfl⟩:=e2
   rw [if_pos ⟨rfl,rfl⟩] at e0
   rw [e0,Int.toNat_natCast,de hlc]
   have e3:=ee c g
   rw [if_pos ⟨rfl,rfl⟩] at e3
   rw [e3,Int.toNat_natCast];exact ⟨ab,de hld⟩
  ·rw [if_neg e2] at e0
   rw [e0] at h0 ⊢
   obtain ⟨k1,k2⟩:=hB.fix hw ha hla hk h0
   have n1:¬(c=root less (bT im a k).toNat∧g=k):=fun h=>by rw [←h.1,←h.2] at k1;omega
   have n2:¬(d=root less (bT im a k).toNat∧g=k):=fun h=>by rw [←h.1,←h.2] at k1;omega
   have e3:=ee (root less (bT im a k).toNat) k
   rw [if_neg n1,if_neg n2] at e3
   rw [e3]
   exact ⟨k1,k2⟩
theorem fE.app (hB:fE ng im less []) (hw:WF ng im less):fE ng (im ++ [List.replicate ng (-1)]) (less ++ [(less.length:Int)]) []:=by
 have hl:=hw.len
 have hra:=wy hw.down
 refine fE.of (fun a k ha hla hk h0=> ?_) hw.app
 by_cases e:a < less.length
 ·have e1:∀b,b < less.length→bT (im ++ [List.replicate ng (-1)]) b k=bT im b k:=fun b hb=>by unfold bT;rw [eV ab]
  rw [e1 a e] at h0 ⊢
  rw [cI e] at hla
  obtain ⟨k1,k2⟩:=hB.fix hw e hla hk h0
  have he:=hw.bT a k ab hk
  have hrl:=cZ hw.down (c:=(bT im a k).toNat) ab
  have he2:=hw.bT (root less (bT im a k).toNat) k ab hk
  rw [hra _ ab,e1 _ hrl,hra _ ab]
  exact ⟨k1,k2⟩
 ·obtain rfl:a=less.length:=by simp at ha;omega
  exfalso
  unfold bT at h0
  rw [←hl,fF,fl hk] at h0
  omega
theorem fE.next (hB:fE ng im less []) (hw:WF ng im less) {c g:Nat} (hc:c < less.length) (hlc:aD less c=(c:Int)) (hg:g < ng) (hn:less.length≤2000):
  fE ng (bZ ng im less c g).1 (bZ ng im less c g).2.1 []∧((bZ ng im less c g).2.2.1=false→aD (bZ ng im less c g).2.1 (bZ ng im less c g).2.2.2=((bZ ng im less c g).2.2.2:Int))∧(∀a,a < less.length→aD (bZ ng im less c g).2.1 a=aD less a):=by
 unfold bZ
 split
 ·rename_i h0
  have he:=hw.bT c g (by rw [hw.len];exact hc) hg
  exact ⟨hB,fun _=>(eE hw.down _ ab).1,fun _ _=>rfl⟩
 ·rename_i h0
  split
  ·exact ⟨hB,(fun h=>nomatch h),fun _ _=>rfl⟩
  ·have hl:=hw.len
   have b1:=hB.app hw
   have w1:=hw.app
   refine ⟨?_,fun _=>dS,fun a ha=>cI ha⟩
   have hcc:c < (less ++ [(less.length:Int)]).length:=by simp;omega
   have:=b1.link w1 (c:=less.length) (d:=c) (g:=g) (by simp) hcc dS (by rw [cI hc];exact hlc) hg (by unfold bT;rw [←hl,fF,fl hg];omega) (by unfold bT at h0 ⊢;rw [eV ab];omega)
   exact this
end
theorem rz {ng n0:Nat} :∀(w:List Nat) (s:List (List Int)×List Int×Bool×Nat),ux ng n0 s→fE ng s.1 s.2.1 []→(s.2.2.1=false→aD s.2.1 s.2.2.2=(s.2.2.2:Int))→(∀g∈w,g < ng)→
  fE ng (gX ng s w).1 (gX ng s w).2.1 []∧((gX ng s w).2.2.1=false→aD (gX ng s w).2.1 (gX ng s w).2.2.2=((gX ng s w).2.2.2:Int))∧(∀a,a < s.2.1.length→aD (gX ng s w).2.1 a=aD s.2.1 a)
 | [],s,h,hB,hl,_=>⟨hB,hl,fun _ _=>rfl⟩
 | g :: r,s,h,hB,hl,hg=>by
  unfold gX
  split
  ·exact ⟨hB,hl,fun _ _=>rfl⟩
  ·rename_i hf
   obtain ⟨b1,b2,b3⟩:=hB.next h.wf h.d (hl (by simpa using hf)) (hg g (by simp)) h.hi
   obtain ⟨h1,h2,h3,h4,_⟩:=gQ h.wf h.d (hg g (by simp)) h.hi
   obtain ⟨c1,c2,c3⟩:=rz (n0:=n0) r _ ⟨h1,Nat.le_trans h.lo h2,h3,h4⟩ b1 b2 fun x hx=>hg x (by simp [hx])
   exact ⟨c1,c2,fun a ha=>(c3 a ab).trans (b3 a ha)⟩
theorem pG {ng:Nat} {im:List (List Int)} {less:List Int} {c:Nat} {w:List Nat} (h:WF ng im less) (hB:fE ng im less []) (hc:c < less.length) (hl:aD less c=(c:Int)) (hn:less.length≤2000) (hg:∀g∈w,g < ng):fE ng (cV ng im less c w).1 (cV ng im less c w).2.1 []:=by
 unfold cV
 cases hw:w.getLast? with
 | none=>exact hB
 | some g=>
  have hgl:g < ng:=hg g (List.mem_of_getLast? hw)
  have ok:=mO (n0:=less.length) w.dropLast (im,less,false,c) ⟨h,Nat.le_refl _,hn,hc⟩ fun x hx=>hg x (List.dropLast_subset _ hx)
  obtain ⟨b1,b2,b3⟩:=rz (n0:=less.length) w.dropLast (im,less,false,c) ⟨h,Nat.le_refl _,hn,hc⟩ hB (fun _=>hl) fun x hx=>hg x (List.dropLast_subset _ hx)
  generalize gX ng (im,less,false,c) w.dropLast=s at *
  have hcs:c < s.2.1.length:=Nat.lt_of_lt_of_le hc ok.lo
  have hlc:aD s.2.1 c=(c:Int):=(b3 c hc).trans hl
  dsimp only
  split
  ·exact b1
  ·rename_i hf
   have e1:=eG ok.wf ok.d hgl
   have e2:=eG ok.wf hcs hgl
   have hd:=ok.d
   split
   ·rename_i he
    exact mM ok.wf (fun p hp=>by simp at hp;subst hp;exact ⟨⟨he,e1⟩,ab,by dsimp only;omega⟩) b1
   ·rename_i he
    split
    ·rename_i hf
     exact mM ok.wf (fun p hp=>by simp at hp;subst hp;exact ⟨⟨hf,e2⟩,ab,by dsimp only;omega⟩) b1
    ·rename_i hf2
     refine b1.link ok.wf hcs hd hlc (b2 (by simpa using hf)) hgl ?_ ?_
     ·unfold image at hf2;split at hf2<;>omega
     ·unfold image at he;split at he<;>omega
def BK (ng n:Nat) (s:dR):Prop:=cy ng n s∧fE ng s.1 s.2.1 []
theorem pr {ng n:Nat} {s:dR} {w:List Int} (h:BK ng n s) (hn:0 < n) (hw:bA ng w):BK ng n (dF ng s w):=by
 refine ⟨j9 h.1 hn hw, ?_⟩
 have h0:0 < s.2.1.length:=Nat.lt_of_lt_of_le hn h.1.lo
 unfold dF
 split
 ·exact h.2
 ·exact pG h.1.wf h.2 h0 (by have:=h.1.wf.down 0 h0;omega) h.1.hi hw.nat
theorem pF {ng n c:Nat} {s:dR} {w:List Int} (h:BK ng n s) (hn:c < n) (hw:bA ng w):BK ng n (cT ng c s w):=by
 refine ⟨jc h.1 hn hw, ?_⟩
 unfold cT
 split
 ·rename_i hl
  exact pG h.1.wf h.2 (Nat.lt_of_lt_of_le hn h.1.lo) (by unfold eQ at hl;simp at hl;exact hl.1) h.1.hi hw.nat
 ·exact h.2
theorem qH {ng n c g:Nat} {s:dR} (h:BK ng n s) (hn:c < n) (hg:g < ng):BK ng n (dk ng c s g):=by
 refine ⟨ku h.1 hn hg, ?_⟩
 unfold dk
 split
 ·rename_i hl
  exact (h.2.next h.1.wf (Nat.lt_of_lt_of_le hn h.1.lo) (by unfold eQ at hl;simp at hl;exact hl.1) hg h.1.hi).1
 ·exact h.2
theorem kX {α:Type} {ng n:Nat} {f:dR→α→dR} {p:α→Prop} (hf:∀s x,BK ng n s→p x→BK ng n (f s x)):∀(l:List α) (s:dR),BK ng n s→(∀x∈l,p x)→BK ng n (l.foldl f s)
 | [],s,h,_=>h
 | x :: r,s,h,hp=>kX hf r _ (hf s x h (hp x (by simp))) fun y hy=>hp y (by simp [hy])
theorem xT {ng n c:Nat} {rels:List (List Int)} {s:dR} (h:BK ng n s) (hn:c < n) (hr:∀w∈rels,bA ng w):BK ng n (eh ng rels c s):=
 kX (p:=fun g=>g < ng) (fun s g h hg=>qH h hn hg) _ _ (kX (p:=bA ng) (fun s w h hw=>pF h hn hw) _ _ h hr) fun g hg=>List.mem_range.1 hg
theorem rI {ng n:Nat} {rels:List (List Int)} (hr:∀w∈rels,bA ng w):∀(f c:Nat) (s:dR),BK ng n s→BK ng n (outer ng rels f c s)
 | 0,_,s,h=>h
 | f + 1,c,s,h=>by
  unfold outer
  split
  ·rename_i hc
   have:=xT (n:=s.2.1.length) ⟨⟨h.1.wf,Nat.le_refl _,h.1.hi⟩,h.2⟩ hc.1 hr
   exact rI hr f _ _ ⟨this.1.le h.1.lo,this.2⟩
  ·exact h
theorem pL (ng:Nat):BK ng 1 (dH ng):=⟨jb ng,fun c g hc _ hg h0=>by
 exfalso
 obtain rfl:c=0:=by simp [dH] at hc;omega
 simp [dH,bT,aT,aD,hg] at h0⟩
theorem A4 {ng:Nat} {rels words:List (List Int)} (hr:∀w∈rels,bA ng w) (hw:∀w∈words,bA ng w):BK ng 1 (dq ng rels words):=
 rI hr _ _ _ (kX (p:=bA ng) (fun s w h hw=>pr h ab hw) _ _ (pL ng) hw)
theorem yJ {ng:Nat} {im:List (List Int)} {less:List Int} (hF:Full ng im less) (hB:fE ng im less []) {c g:Nat} (hc:c < less.length) (hl:aD less c=(c:Int)) (hg:g < ng):image im less (image im less c g).toNat g=(c:Int):=by
 have h0:=hF.full c hc hl g hg
 obtain ⟨k1,k2⟩:=hB.fix hF.wf hc hl hg h0
 have e:image im less c g=(root less (bT im c g).toNat:Nat):=by unfold image;rw [if_neg ab]
 rw [e,Int.toNat_natCast]
 unfold image
 rw [if_neg ab,k2]
def pO (n:Nat) (s:jR):Prop:=∀d,d < n→0≤aD s.2 d→aD s.1 (aD s.2 d).toNat=(d:Int)
theorem wo {n:Nat} {less:List Int} {s:jR} {d:Nat} (h:p7 n less s) (hb:pO n s) (hd:d < n):pO n (visit s d):=by
 unfold visit
 split
 ·rename_i hn
  intro e he h0
  dsimp only at h0 ⊢
  rw [cO] at h0 ⊢
  split
  ·rename_i h1;rw [Int.toNat_natCast,dS,h1.1]
  ·rename_i h1
   rw [if_neg h1] at h0
   rw [cI (by have:=h.num e he h0;omega)]
   exact hb e he h0
 ·exact hb
theorem uh {ng:Nat} {im:List (List Int)} {less:List Int} (hF:Full ng im less) {i:Nat} {s:jR} (h:p7 less.length less s) (hb:pO less.length s) (hi:i < s.1.length):∀m,m≤ng→pO less.length ((List.range m).foldl (dz im less i) s)
 | 0,_=>hb
 | m + 1,hm=>by
  have ih:=uh hF h hb hi m ab
  obtain ⟨h1,h2,_⟩:=fI hF h hi m ab
  rw [List.range_succ,List.foldl_append]
  generalize (List.range m).foldl (dz im less i) s=t at *
  obtain ⟨d,k1,k2,k3,_⟩:=h1.live i (Nat.lt_of_lt_of_le hi h2.len)
  obtain ⟨e,e1,e2,_⟩:=hF.image k2 k3 (g:=m) ab
  show pO less.length (dz im less i t m)
  unfold dz
  rw [k1,Int.toNat_natCast,e1,Int.toNat_natCast]
  exact wo h1 ih e2
theorem rB {ng:Nat} {im:List (List Int)} {less:List Int} (hF:Full ng im less):∀(f i:Nat) (s:jR),p7 less.length less s→pO less.length s→pO less.length (dw ng im less f i s)
 | 0,i,s,_,hb=>hb
 | f + 1,i,s,h,hb=>by
  unfold dw
  split
  ·rename_i hlt
   exact rB hF f (i + 1) _ (fI hF h hlt ng (Nat.le_refl _)).1 (uh hF h hb hlt ng (Nat.le_refl _))
  ·exact hb
theorem lS {ng:Nat} {im:List (List Int)} {less:List Int} (hF:Full ng im less):pO less.length (cq ng im less):=
 rB hF _ _ _ (ix hF) fun d hd h0=>by
  have hp:=hF.pos
  have h0:0≤aD ((List.replicate less.length (-1)).set 0 0) d:=h0
  show aD [0] (aD ((List.replicate less.length (-1)).set 0 0) d).toNat=_
  rw [cO] at h0 ⊢
  split
  ·rename_i h1;rw [←h1.1];rfl
  ·rename_i h1;rw [if_neg h1,fl hd] at h0;omega
def m0 (ng:Nat) (im:List (List Int)) (less:List Int) (k g:Nat):Int:=aD (cq ng im less).2 (image im less (aD (cq ng im less).1 k).toNat g).toNat
theorem AT {ng:Nat} {im:List (List Int)} {less:List Int} (hF:Full ng im less) (hB:fE ng im less []) {k g:Nat} (hk:k < (cq ng im less).1.length) (hg:g < ng):m0 ng im less (m0 ng im less k g).toNat g=(k:Int):=by
 obtain ⟨h,hs⟩:=jL hF
 obtain ⟨d,h1,h2,h3,h4⟩:=h.live k hk
 obtain ⟨e,e1,e2,e3⟩:=hF.image h2 h3 hg
 have h0:=hs k hk g hg
 have hn:=lS hF e e2
 have hi:=yJ hF hB h2 h3 hg
 unfold m0
 rw [h1,Int.toNat_natCast,e1,Int.toNat_natCast] at h0 ⊢
 rw [e1,Int.toNat_natCast] at hi
 rw [hn h0,Int.toNat_natCast,hi,Int.toNat_natCast,h4]
end Go.Proofs.Ytfpcfckocmmcnaa
namespace Go.Proofs.Ytfpcfckocmmcnaa
structure sT {X:Type} (ng:Nat) (f:Nat→X→X) (im:List (List Int)) (less:List Int) (h:Nat→X):Prop where
 entv:∀c g,c < less.length→g < ng→0≤bT im c g→h (bT im c g).toNat=f g (h c)
 lessv:∀c,c < less.length→h (aD less c).toNat=h c
def cU {X:Type} (f:Nat→X→X) (x:X) (w:List Nat):X:=w.foldl (fun y g=>f g y) x
section
variable {X:Type} {ng:Nat} {f:Nat→X→X} {im:List (List Int)} {less:List Int} {h:Nat→X}
theorem sT.root (H:sT ng f im less h) (hd:Down less):∀c,c < less.length→h (root less c)=h c:=by
 intro c
 induction c using Nat.strongRecOn with
 | _ c ih=>
  intro hc
  by_cases e:aD less c=(c:Int)
  ·rw [de e]
  ·have hb:=hd c hc
   rw [fO hd hc e,ih _ ab ab]
   exact H.lessv c hc
theorem sT.zM (H:sT ng f im less h) (hw:WF ng im less) {c g:Nat} (hc:c < less.length) (hg:g < ng) (h0:0≤image im less c g):h (image im less c g).toNat=f g (h c):=by
 unfold image at h0 ⊢
 by_cases e:bT im c g < 0
 ·rw [if_pos e] at h0;omega
 ·rw [if_neg e]
  have:=hw.bT c g (by rw [hw.len];exact hc) hg
  rw [Int.toNat_natCast,H.root hw.down _ ab,H.entv c g hc hg ab]
theorem sT.set (H:sT ng f im less h) (hw:WF ng im less) {c g z:Nat} (hc:c < less.length) (hg:g < ng) (hz:h z=f g (h c)):sT ng f (eo im c g (z:Int)) less h:=
 ⟨fun a k ha hk h0=>by
  have e:=eI (im:=im) (c:=c) (g:=g) (k:=a) (j:=k) (z:=(z:Int)) (by rw [hw.len];exact hc) (by rw [hw.row c (by rw [hw.len];exact hc)];exact hg)
  rw [e] at h0 ⊢
  by_cases e2:c=a∧g=k
  ·rw [if_pos e2,Int.toNat_natCast,hz,e2.1,e2.2]
  ·rw [if_neg e2] at h0 ⊢;exact H.entv a k ha hk h0,H.lessv⟩
theorem sT.next (H:sT ng f im less h) (hinv:∀g x,g < ng→f g (f g x)=x) (hw:WF ng im less) {c g:Nat} (hc:c < less.length) (hg:g < ng):
  ∃h',sT ng f (bZ ng im less c g).1 (bZ ng im less c g).2.1 h'∧(∀a,a < less.length→h' a=h a)∧((bZ ng im less c g).2.2.1=false→h' (bZ ng im less c g).2.2.2=f g (h c)):=by
 unfold bZ
 split
 ·rename_i h0
  have he:=hw.bT c g (by rw [hw.len];exact hc) hg
  exact ⟨h,H,fun _ _=>rfl,fun _=>by rw [H.root hw.down _ ab];exact H.entv c g hc hg h0⟩
 ·split
  ·exact ⟨h,H,fun _ _=>rfl,fun h=>nomatch h⟩
  ·have hl:=hw.len
   have w1:=hw.app
   have ha:∀a,a < less.length→(fun a=>if a=less.length then f g (h c) else h a) a=h a:=fun a ha=>if_neg ab
   have hn:(fun a=>if a=less.length then f g (h c) else h a) less.length=f g (h c):=if_pos rfl
   refine ⟨fun a=>if a=less.length then f g (h c) else h a, ?_,ha,fun _=>hn⟩
   generalize (fun a=>if a=less.length then f g (h c) else h a)=h' at *
   have H1:sT ng f (im ++ [List.replicate ng (-1)]) (less ++ [(less.length:Int)]) h':=by
    refine ⟨fun a k hka hk h0=> ?_,fun a hka=> ?_⟩
    ·by_cases e:a < less.length
     ·have e1:bT (im ++ [List.replicate ng (-1)]) a k=bT im a k:=by unfold Proofs.Ytfpcfckocmmcnaa.bT;rw [eV ab]
      rw [e1] at h0 ⊢
      have:=hw.bT a k ab hk
      rw [ha _ ab,ha a e];exact H.entv a k e hk h0
     ·obtain rfl:a=less.length:=by simp at hka;omega
      exfalso
      unfold Proofs.Ytfpcfckocmmcnaa.bT at h0
      rw [←hl,fF,fl hk] at h0
      omega
    ·by_cases e:a < less.length
     ·have:=hw.down a e
      rw [cI e,ha _ ab,ha a e];exact H.lessv a e
     ·obtain rfl:a=less.length:=by simp at hka;omega
      rw [dS,Int.toNat_natCast]
   have H2:=H1.set w1 (c:=c) (g:=g) (z:=less.length) (by simp;omega) hg (by rw [hn,ha c hc])
   have w2:=w1.gw (c:=c) (g:=g) (z:=(less.length:Int)) (by simp;omega) hg (by simp;omega)
   exact H2.set w2 (c:=less.length) (g:=g) (z:=c) (by simp) hg (by rw [hn,ha c hc,hinv g _ hg])
end
section
variable {X:Type} {ng:Nat} {f:Nat→X→X}
theorem zP (hinv:∀g x,g < ng→f g (f g x)=x) {n0:Nat} :∀(w:List Nat) (s:List (List Int)×List Int×Bool×Nat) (h:Nat→X),ux ng n0 s→sT ng f s.1 s.2.1 h→(∀g∈w,g < ng)→
  ∃h',sT ng f (gX ng s w).1 (gX ng s w).2.1 h'∧(∀a,a < s.2.1.length→h' a=h a)∧((gX ng s w).2.2.1=false→h' (gX ng s w).2.2.2=cU f (h s.2.2.2) w)
 | [],s,h,_,H,_=>⟨h,H,fun _ _=>rfl,fun _=>rfl⟩
 | g :: r,s,h,ok,H,hg=>by
  unfold gX
  split
  ·rename_i hf
   exact ⟨h,H,fun _ _=>rfl,fun h0=>by rw [hf] at h0;cases h0⟩
  ·obtain ⟨h1,H1,a1,v1⟩:=H.next hinv ok.wf ok.d (hg g (by simp))
   obtain ⟨k1,k2,k3,k4,_⟩:=gQ ok.wf ok.d (hg g (by simp)) ok.hi
   obtain ⟨h2,H2,a2,v2⟩:=zP hinv (n0:=n0) r _ h1 ⟨k1,Nat.le_trans ok.lo k2,k3,k4⟩ H1 fun x hx=>hg x (by simp [hx])
   refine ⟨h2,H2,fun a ha=>(a2 a ab).trans (a1 a ha),fun hf=> ?_⟩
   have hf1:(bZ ng s.1 s.2.1 s.2.2.2 g).2.2.1=false:=by
    cases e:(bZ ng s.1 s.2.1 s.2.2.2 g).2.2.1 with
    | false=>rfl
    | true=>rw [gZ e] at hf;rw [e] at hf;cases hf
   rw [v2 hf,v1 hf1];rfl
theorem pw {lo hi:Nat} {im:List (List Int)} {less:List Int} {q:List (Int×Int)} {h:Nat→X} (hw:WF ng im less) (H:sT ng f im less h) (hlo:lo < im.length) (hhi:hi < im.length) (hq:mD less.length q) (he:h lo=h hi) (hp:∀p∈q,h p.1.toNat=h p.2.toNat):
  ∀g,g≤ng→sT ng f (bE lo hi (im,q) g).1 less h∧∀p∈(bE lo hi (im,q) g).2,h p.1.toNat=h p.2.toNat
 | 0,_=>⟨H,hp⟩
 | g + 1,hg=>by
  obtain ⟨H1,p1⟩:=pw hw H hlo hhi hq he hp g ab
  obtain ⟨w1,_,_,w4⟩:=eM hw hlo hhi hq g ab
  have hl:=hw.len
  simp only [bE,stepG]
  split
  ·exact ⟨H1,p1⟩
  ·rename_i hn
   have e1:=w1.bT hi g ab ab
   have v1:=H1.entv hi g ab ab ab
   split
   ·rename_i hpos
    refine ⟨H1,fun p hp'=> ?_⟩
    rcases List.mem_append.1 hp' with h5 | h5
    ·exact p1 p h5
    ·simp at h5;subst h5
     dsimp only
     rw [v1,H1.entv lo g ab ab hpos,he]
   ·refine ⟨?_,p1⟩
    have hz:bT (bE lo hi (im,q) g).1 hi g=(((bT (bE lo hi (im,q) g).1 hi g).toNat:Nat):Int):=by omega
    have:=H1.set w1 (c:=lo) (g:=g) (z:=(bT (bE lo hi (im,q) g).1 hi g).toNat) ab ab (by rw [v1,he])
    rw [←hz] at this
    exact this
theorem ir {h:Nat→X} {n:Nat} :∀(k:Nat) (im:List (List Int)) (less:List Int) (q:List (Int×Int)),WF ng im less→less.length=n→mD n q→sT ng f im less h→(∀p∈q,h p.1.toNat=h p.2.toNat)→sT ng f (cH ng k im less q).1 (cH ng k im less q).2 h
 | 0,im,less,q,_,_,_,H,_=>H
 | k + 1,im,less, [],_,_,_,H,_=>H
 | k + 1,im,less,p :: q,hw,hn,hq,H,hp=>by
  have hpp:=hq p (by simp)
  have hq':mD less.length q:=fun x hx=>hn ▸ hq x (by simp [hx])
  have hr1:=cZ hw.down (c:=p.1.toNat) ab
  have hr2:=cZ hw.down (c:=p.2.toNat) ab
  have v1:=H.root hw.down p.1.toNat ab
  have v2:=H.root hw.down p.2.toNat ab
  have v3:=hp p (by simp)
  simp only [cH]
  split
  ·exact ir k im less q hw hn (fun x hx=>hq x (by simp [hx])) H fun x hx=>hp x (by simp [hx])
  ·rename_i hne
   have hl:=hw.len
   have hlh:h (min (root less p.1.toNat) (root less p.2.toNat))=h (max (root less p.1.toNat) (root less p.2.toNat)):=by
    rcases Nat.le_total (root less p.1.toNat) (root less p.2.toNat) with h5 | h5
    ·rw [Nat.min_eq_left h5,Nat.max_eq_right h5,v1,v2,v3]
    ·rw [Nat.min_eq_right h5,Nat.max_eq_left h5,v1,v2,v3]
   obtain ⟨w1,w2,w3,w4⟩:=eM hw (lo:=min (root less p.1.toNat) (root less p.2.toNat)) (hi:=max (root less p.1.toNat) (root less p.2.toNat)) (by rw [hw.len];omega) (by rw [hw.len];omega) hq' ng (Nat.le_refl _)
   obtain ⟨H1,p1⟩:=pw hw H (lo:=min (root less p.1.toNat) (root less p.2.toNat)) (hi:=max (root less p.1.toNat) (root less p.2.toNat)) (by rw [hw.len];omega) (by rw [hw.len];omega) hq' hlh (fun x hx=>hp x (by simp [hx])) ng (Nat.le_refl _)
   refine ir k _ _ _ (w1.kj ab) (by rw [List.length_set];exact hn) (hn ▸ w2) ⟨fun c g hc=>H1.entv c g (by rwa [List.length_set] at hc),fun c hc=> ?_⟩ p1
   rw [List.length_set] at hc
   rw [cO]
   split
   ·rename_i e;rw [Int.toNat_natCast,hlh,e.1]
   ·exact H1.lessv c hc
theorem qY (hinv:∀g x,g < ng→f g (f g x)=x) {im:List (List Int)} {less:List Int} {h:Nat→X} {c:Nat} {w:List Nat} (hw:WF ng im less) (H:sT ng f im less h) (hc:c < less.length) (hn:less.length≤2000) (hg:∀g∈w,g < ng) (hcl:cU f (h c) w=h c):
  ∃h',sT ng f (cV ng im less c w).1 (cV ng im less c w).2.1 h'∧∀a,a < less.length→h' a=h a:=by
 unfold cV
 cases hlast:w.getLast? with
 | none=>exact ⟨h,H,fun _ _=>rfl⟩
 | some g=>
  have hgl:g < ng:=hg g (List.mem_of_getLast? hlast)
  have ok:=mO (n0:=less.length) w.dropLast (im,less,false,c) ⟨hw,Nat.le_refl _,hn,hc⟩ fun x hx=>hg x (List.dropLast_subset _ hx)
  obtain ⟨h1,H1,a1,v1⟩:=zP hinv (n0:=less.length) w.dropLast (im,less,false,c) h ⟨hw,Nat.le_refl _,hn,hc⟩ H fun x hx=>hg x (List.dropLast_subset _ hx)
  have hww:w=w.dropLast ++ [g]:=by
   obtain ⟨ys,rfl⟩:=List.getLast?_eq_some_iff.1 hlast
   simp
  generalize gX ng (im,less,false,c) w.dropLast=s at *
  have hcs:c < s.2.1.length:=Nat.lt_of_lt_of_le hc ok.lo
  dsimp only at a1 v1 ⊢
  split
  ·exact ⟨h1,H1,a1⟩
  ·rename_i hf
   have vd:f g (h1 s.2.2.2)=h1 c:=by
    rw [v1 (by simpa using hf),a1 c hc]
    have:=hcl
    rw [hww] at this
    unfold cU at this
    rw [List.foldl_append] at this
    exact this
   have e1:=eG ok.wf ok.d hgl
   have e2:=eG ok.wf hcs hgl
   have hd:=ok.d
   split
   ·rename_i he
    refine ⟨h1,ir _ _ _ _ ok.wf rfl (fun p hp=>by simp at hp;subst hp;exact ⟨⟨he,e1⟩,ab,by dsimp only;omega⟩) H1 (fun p hp=>by simp at hp;subst hp;dsimp only;rw [Int.toNat_natCast,H1.zM ok.wf ok.d hgl he,vd]),a1⟩
   ·split
    ·rename_i hf2
     refine ⟨h1,ir _ _ _ _ ok.wf rfl (fun p hp=>by simp at hp;subst hp;exact ⟨⟨hf2,e2⟩,ab,by dsimp only;omega⟩) H1 (fun p hp=>by simp at hp;subst hp;dsimp only;rw [Int.toNat_natCast,H1.zM ok.wf hcs hgl hf2,←vd,hinv g _ hgl]),a1⟩
    ·have k1:=ok.wf.gw (c:=s.2.2.2) (g:=g) (z:=(c:Int)) (by rw [ok.wf.len];exact hd) hgl ab
     exact ⟨h1,(H1.set ok.wf hd hgl vd.symm).set k1 hcs hgl (by rw [←vd,hinv g _ hgl]),a1⟩
def nQ (ng:Nat) (f:Nat→X→X) (x0:X) (n:Nat) (s:dR):Prop:=cy ng n s∧∃h,sT ng f s.1 s.2.1 h∧h 0=x0
theorem yI (hinv:∀g x,g < ng→f g (f g x)=x) {x0:X} {n:Nat} {s:dR} {w:List Int} (h:nQ ng f x0 n s) (hn:0 < n) (hw:bA ng w∧cU f x0 (w.map Int.toNat)=x0):nQ ng f x0 n (dF ng s w):=by
 refine ⟨j9 h.1 hn hw.1, ?_⟩
 obtain ⟨h0,H,e0⟩:=h.2
 have hl:0 < s.2.1.length:=Nat.lt_of_lt_of_le hn h.1.lo
 unfold dF
 split
 ·exact ⟨h0,H,e0⟩
 ·obtain ⟨h1,H1,a1⟩:=qY hinv h.1.wf H hl h.1.hi hw.1.nat (by rw [e0];exact hw.2)
  exact ⟨h1,H1,(a1 0 hl).trans e0⟩
theorem zj (hinv:∀g x,g < ng→f g (f g x)=x) {x0:X} {n c:Nat} {s:dR} {w:List Int} (h:nQ ng f x0 n s) (hn:c < n) (hw:bA ng w∧∀x,cU f x (w.map Int.toNat)=x):nQ ng f x0 n (cT ng c s w):=by
 refine ⟨jc h.1 hn hw.1, ?_⟩
 obtain ⟨h0,H,e0⟩:=h.2
 have hl:c < s.2.1.length:=Nat.lt_of_lt_of_le hn h.1.lo
 unfold cT
 split
 ·obtain ⟨h1,H1,a1⟩:=qY hinv h.1.wf H hl h.1.hi hw.1.nat (hw.2 _)
  exact ⟨h1,H1,(a1 0 ab).trans e0⟩
 ·exact ⟨h0,H,e0⟩
theorem A7 (hinv:∀g x,g < ng→f g (f g x)=x) {x0:X} {n c g:Nat} {s:dR} (h:nQ ng f x0 n s) (hn:c < n) (hg:g < ng):nQ ng f x0 n (dk ng c s g):=by
 refine ⟨ku h.1 hn hg, ?_⟩
 obtain ⟨h0,H,e0⟩:=h.2
 have hl:c < s.2.1.length:=Nat.lt_of_lt_of_le hn h.1.lo
 unfold dk
 split
 ·obtain ⟨h1,H1,a1,_⟩:=H.next hinv h.1.wf hl hg
  exact ⟨h1,H1,(a1 0 ab).trans e0⟩
 ·exact ⟨h0,H,e0⟩
theorem foldl_hom {α:Type} {x0:X} {n:Nat} {k:dR→α→dR} {p:α→Prop} (hf:∀s x,nQ ng f x0 n s→p x→nQ ng f x0 n (k s x)):∀(l:List α) (s:dR),nQ ng f x0 n s→(∀x∈l,p x)→nQ ng f x0 n (l.foldl k s)
 | [],s,h,_=>h
 | x :: r,s,h,hp=>foldl_hom hf r _ (hf s x h (hp x (by simp))) fun y hy=>hp y (by simp [hy])
theorem uj (hinv:∀g x,g < ng→f g (f g x)=x) {x0:X} {n:Nat} {rels:List (List Int)} (hr:∀w∈rels,bA ng w∧∀x,cU f x (w.map Int.toNat)=x):∀(k c:Nat) (s:dR),nQ ng f x0 n s→nQ ng f x0 n (outer ng rels k c s)
 | 0,_,s,h=>h
 | k + 1,c,s,h=>by
  unfold outer
  split
  ·rename_i hc
   have h':nQ ng f x0 s.2.1.length s:=⟨⟨h.1.wf,Nat.le_refl _,h.1.hi⟩,h.2⟩
   have:=foldl_hom (p:=fun g=>g < ng) (fun s g h hg=>A7 hinv h hc.1 hg) (List.range ng) _ (foldl_hom (p:=fun w=>bA ng w∧∀x,cU f x (w.map Int.toNat)=x) (fun s w h hw=>zj hinv h hc.1 hw) _ _ h' hr) fun g hg=>List.mem_range.1 hg
   exact uj hinv hr k _ _ ⟨this.1.le h.1.lo,this.2⟩
  ·exact h
theorem Dd (hinv:∀g x,g < ng→f g (f g x)=x) {x0:X} {rels words:List (List Int)} (hr:∀w∈rels,bA ng w∧∀x,cU f x (w.map Int.toNat)=x) (hw:∀w∈words,bA ng w∧cU f x0 (w.map Int.toNat)=x0):nQ ng f x0 1 (dq ng rels words):=
 uj hinv hr _ _ _ (foldl_hom (p:=fun w=>bA ng w∧cU f x0 (w.map Int.toNat)=x0) (fun s w h hw=>yI hinv h ab hw) _ _ ⟨jb ng,fun _=>x0,⟨fun _ _ _ _ _=>rfl.trans (by
  rename_i c g hc hg h0
  exfalso
  obtain rfl:c=0:=by simp [dH] at hc;omega
  simp [dH,bT,aT,aD,hg] at h0),fun _ _=>rfl⟩,rfl⟩ hw)
end
end Go.Proofs.Ytfpcfckocmmcnaa
namespace Go.Proofs.Ytfpcfckocmmcnaa
inductive RT where
 | l (n:Nat)
 | n (a b:RT)
def RT.row:RT→Nat→Nat
 | .l k,_=>k
 | .n a b,d=>match d % 2 with
  | 0=>a.row (d / 2)
  | _=>b.row (d / 2)
structure Lv where
 N:Nat
 W:Nat
 T:RT
def ev (L:Lv) (d g:Nat):Nat:=(L.T.row d >>> (L.W * g)) % 2 ^ L.W
def tf:List Lv→Nat→List Nat→List Nat
 | L :: r,g,d :: u=>if ev L d g < L.N then ev L d g :: u else d :: tf r (ev L d g - L.N) u
 | _,_,x=>x
def jC:List Lv→List Nat→Bool
 | [], []=>true
 | L :: r,d :: u=>decide (d < L.N) && jC r u
 | _,_=>false
def gN (i j:Nat):Nat→List Nat
 | 0=> []
 | m + 1=>i :: j :: gN i j m
def td (L:Lv):List Nat→Nat→Nat×List Nat
 | [],d=>(d, [])
 | g :: w,d=>if ev L d g < L.N then td L w (ev L d g) else ((td L w d).1,(ev L d g - L.N) :: (td L w d).2)
def pN (lb:Nat→Nat→Nat) (k:Nat):List Nat→Bool
 | []=>true
 | [s,t]=>s == t && Nat.blt s k
 | s :: t :: E=>Nat.blt s k && (Nat.blt t k && (s != t && (s :: t :: E == gN s t (lb s t))))
 | _=>false
def Jf (lb:Nat→Nat→Nat) (k:Nat) (L:Lv):Bool:=
 (List.range L.N).all fun d=>(List.range (k + 1)).all fun g=>
  (if ev L d g < L.N then ev L (ev L d g) g == d && ev L d g != d else Nat.blt (ev L d g - L.N) k)
  && (List.range (k + 1)).all fun j=>g == j || ((td L (gN g j (lb g j)) d).1 == d && pN lb k (td L (gN g j (lb g j)) d).2)
def Bq (lb:Nat→Nat→Nat):List Lv→Bool
 | []=>true
 | L :: r=>Jf lb r.length L && Bq lb r
theorem qz (L:Lv) (r:List Lv):∀(w:List Nat) (d:Nat) (u:List Nat),cU (tf (L :: r)) (d :: u) w=(td L w d).1 :: cU (tf r) u (td L w d).2
 | [],d,u=>rfl
 | g :: w,d,u=>by
  show cU (tf (L :: r)) (tf (L :: r) g (d :: u)) w=_
  rw [tf,td]
  split
  ·exact qz L r w _ u
  ·rw [qz L r w d _];rfl
theorem dO {n:Nat} {p:Nat→Bool} :(List.range n).all p=true↔∀d,d < n→p d=true:=by
 rw [List.all_eq_true];exact ⟨fun h d hd=>h d (List.mem_range.2 hd),fun h d hd=>h d (List.mem_range.1 hd)⟩
structure Br (lb:Nat→Nat→Nat) (tw:List Lv):Prop where
 ok:∀g u,g < tw.length→jC tw u=true→jC tw (tf tw g u)=true
 inv:∀g u,g < tw.length→jC tw u=true→tf tw g (tf tw g u)=u
 rel:∀i j u,i < tw.length→j < tw.length→i≠j→jC tw u=true→cU (tf tw) u (gN i j (lb i j))=u
theorem jq {lb:Nat→Nat→Nat} {k:Nat} {L:Lv} (h:Jf lb k L=true) {d g:Nat} (hd:d < L.N) (hg:g < k + 1):
  (ev L d g < L.N→ev L (ev L d g) g=d∧ev L d g≠d)∧(¬ev L d g < L.N→ev L d g - L.N < k)∧∀j,j < k + 1→g≠j→(td L (gN g j (lb g j)) d).1=d∧pN lb k (td L (gN g j (lb g j)) d).2=true:=by
 have h1:=dO.1 (dO.1 h d hd) g hg
 rw [Bool.and_eq_true] at h1
 refine ⟨fun hl=> ?_,fun hl=> ?_,fun j hj hne=> ?_⟩
 ·have:=h1.1;rw [if_pos hl,Bool.and_eq_true] at this;exact ⟨by simpa using this.1,by simpa using this.2⟩
 ·have:=h1.1;rw [if_neg hl] at this;simpa [Nat.blt_eq] using this
 ·have:=dO.1 h1.2 j hj
  rw [Bool.or_eq_true,Bool.and_eq_true] at this
  rcases this with h2 | h2
  ·exact absurd (by simpa using h2) hne
  ·exact ⟨by simpa using h2.1,h2.2⟩
theorem CZ {lb:Nat→Nat→Nat} {tw:List Lv} (H:Br lb tw) {E:List Nat} (h:pN lb tw.length E=true) {u:List Nat} (hu:jC tw u=true):cU (tf tw) u E=u:=by
 unfold pN at h
 split at h
 ·rfl
 ·rename_i s t
  rw [Bool.and_eq_true] at h
  have h1:s=t:=by simpa using h.1
  have h2:s < tw.length:=by simpa [Nat.blt_eq] using h.2
  subst h1
  exact H.inv s u h2 hu
 ·rename_i s t E _
  simp only [Bool.and_eq_true] at h
  obtain ⟨h1,h2,h3,h4⟩:=h
  rw [eq_of_beq h4]
  exact H.rel s t u (by simpa [Nat.blt_eq] using h1) (by simpa [Nat.blt_eq] using h2) (by simpa using h3) hu
 ·cases h
theorem mS {lb:Nat→Nat→Nat} :∀(tw:List Lv),Bq lb tw=true→Br lb tw
 | [],_=>⟨fun g u hg=>by simp at hg,fun g u hg=>by simp at hg,fun i j u hi=>by simp at hi⟩
 | L :: r,h=>by
  rw [Bq,Bool.and_eq_true] at h
  have ih:=mS r h.2
  refine ⟨fun g u hg hu=> ?_,fun g u hg hu=> ?_,fun i j u hi hj hij hu=> ?_⟩
  ·match u,hu with
   | [],hu=>cases hu
   | d :: u,hu=>
    rw [jC,Bool.and_eq_true] at hu
    have hd:d < L.N:=by simpa using hu.1
    obtain ⟨s1,s2,_⟩:=jq h.1 hd hg
    rw [tf]
    split
    ·rename_i hl;rw [jC,Bool.and_eq_true];exact ⟨by simpa using hl,hu.2⟩
    ·rename_i hl;rw [jC,Bool.and_eq_true];exact ⟨hu.1,ih.ok _ u (s2 hl) hu.2⟩
  ·match u,hu with
   | [],hu=>cases hu
   | d :: u,hu=>
    rw [jC,Bool.and_eq_true] at hu
    have hd:d < L.N:=by simpa using hu.1
    obtain ⟨s1,s2,_⟩:=jq h.1 hd hg
    by_cases hl:ev L d g < L.N
    ·have e:tf (L :: r) g (d :: u)=ev L d g :: u:=by rw [tf,if_pos hl]
     rw [e,tf,(s1 hl).1,if_pos hd]
    ·have e:tf (L :: r) g (d :: u)=d :: tf r (ev L d g - L.N) u:=by rw [tf,if_neg hl]
     rw [e,tf,if_neg hl,ih.inv _ u (s2 hl) hu.2]
  ·match u,hu with
   | [],hu=>cases hu
   | d :: u,hu=>
    rw [jC,Bool.and_eq_true] at hu
    have hd:d < L.N:=by simpa using hu.1
    obtain ⟨_,_,s3⟩:=jq h.1 hd hi
    obtain ⟨r1,r2⟩:=s3 j hj hij
    rw [qz,r1,CZ ih r2 hu.2]
structure ot {Y:Type} (lb:Nat→Nat→Nat) (n:Nat) (F:Nat→Y→Y):Prop where
 inv:∀g y,g < n→F g (F g y)=y
 rel:∀i j y,i < n→j < n→i≠j→cU F y (gN i j (lb i j))=y
def par (L:Lv) (d:Nat):Nat:=((List.range 5).find? fun g=>Nat.blt (ev L d g) d).getD 0
def runK (L:Lv) (d t:Nat):List Nat→Nat→Option (Nat×List Nat)
 | [],c=>some (c, [])
 | g :: w,c=>
  if ev L c g < L.N then
   (if (g=t∧c≤d∧ev L c g≤d)∨(c < d∧ev L c g < d) then runK L d t w (ev L c g) else none)
  else (if c < d then (runK L d t w c).map fun p=>(p.1,(ev L c g - L.N) :: p.2) else none)
def uz (t g:Nat) (m:Nat):List Nat:=(gN t g m).dropLast
def Fl (lb:Nat→Nat→Nat) (k:Nat) (L:Lv):Bool:=
 Nat.blt 0 L.N && (Nat.blt (ev L 0 k) L.N && ((List.range k).all (fun g=>ev L 0 g == L.N + g) && (List.range L.N).all fun d=>d == 0 || (Nat.blt (ev L d (par L d)) d && (Nat.blt (par L d) (k + 1) && (List.range (k + 1)).all fun g=>
  g == par L d || (if ev L d g < L.N then (Nat.blt d (ev L d g) || runK L d (par L d) (uz (par L d) g (lb (par L d) g)) d == some (ev L d g, []))
   else runK L d (par L d) (uz (par L d) g (lb (par L d) g)) d == some (d, [ev L d g - L.N]))))))
def nI (lb:Nat→Nat→Nat):List Lv→Bool
 | []=>true
 | L :: r=>Fl lb r.length L && nI lb r
section
variable {Y:Type} (F:Nat→Y→Y)
def D8 (L:Lv) (y:Y) (d:Nat):Y:=if _h:ev L d (par L d) < d then F (par L d) (D8 L y (ev L d (par L d))) else y
termination_by d
def nj (y0:Y):List Lv→List Nat→Y
 | L :: r,d :: u=>D8 F L (nj y0 r u) d
 | _,_=>y0
end
theorem rZ {Y:Type} (F:Nat→Y→Y) (L:Lv) (y:Y):D8 F L y 0=y:=by rw [D8,dif_neg ab]
theorem Fb {Y:Type} {F:Nat→Y→Y} {L:Lv} {y:Y} {d:Nat} (h:ev L d (par L d) < d):D8 F L y d=F (par L d) (D8 F L y (ev L d (par L d))):=by
 rw [D8,dif_pos h]
theorem nB {X:Type} (f:Nat→X→X) (x:X) (v w:List Nat):cU f x (v ++ w)=cU f (cU f x v) w:=List.foldl_append
theorem tL (t g:Nat):∀m,0 < m→gN t g m=uz t g m ++ [g]
 | 0,h=>absurd h ab
 | 1,_=>rfl
 | m + 2,_=>by
  have ih:=tL t g (m + 1) ab
  show t :: g :: gN t g (m + 1)=uz t g (m + 2) ++ [g]
  have e:uz t g (m + 2)=t :: g :: uz t g (m + 1):=rfl
  rw [e,ih];rfl
theorem z9 {Y:Type} {F:Nat→Y→Y} {lb:Nat→Nat→Nat} {n:Nat} {y0:Y} (hl:∀i j,0 < lb i j) (A:ot lb n F):∀(tw:List Lv),tw.length≤n→Bq lb tw=true→nI lb tw=true→
  ∀g u,g < tw.length→jC tw u=true→F g (nj F y0 tw u)=nj F y0 tw (tf tw g u)
 | [],_,_,_=>fun g u hg=>by simp at hg
 | L :: r,hn,h,hu=>by
  have H:=mS _ h
  rw [Bq,Bool.and_eq_true] at h
  rw [nI,Bool.and_eq_true] at hu
  have hn':r.length + 1≤n:=hn
  have Hr:=mS r h.2
  have ih:=z9 (y0:=y0) hl A r ab h.2 hu.2
  have hub:=hu.1
  unfold Fl at hub
  simp only [Bool.and_eq_true] at hub
  obtain ⟨hN,hk0,hz,hd⟩:=hub
  have hk0:ev L 0 r.length < L.N:=by simpa [Nat.blt_eq] using hk0
  have hN:0 < L.N:=by simpa [Nat.blt_eq] using hN
  have Q:∀d,d < L.N→∀g u,g < r.length + 1→jC r u=true→(¬ev L d g < L.N∨ev L d g < d)→F g (nj F y0 (L :: r) (d :: u))=nj F y0 (L :: r) (tf (L :: r) g (d :: u)):=by
   intro d
   induction d using Nat.strongRecOn with
   | _ d IH=>
    intro hdN g u hg hok he
    by_cases d0:d=0
    ·subst d0
     have hnl:¬ev L 0 g < L.N:=by
      rcases he with he | he
      ·exact he
      ·omega
     obtain ⟨_,s2,_⟩:=jq h.1 hN hg
     by_cases hgk:g < r.length
     ·have e:=dO.1 hz g hgk
      have e:ev L 0 g=L.N + g:=by simpa using e
      have e2:tf (L :: r) g (0 :: u)=0 :: tf r g u:=by rw [tf,if_neg hnl,e,Nat.add_sub_cancel_left]
      rw [e2]
      show F g (D8 F L (nj F y0 r u) 0)=D8 F L (nj F y0 r (tf r g u)) 0
      rw [rZ,rZ]
      exact ih g u hgk hok
     ·obtain rfl:g=r.length:=by omega
      exact absurd hk0 hnl
    ·have hdd:=dO.1 hd d hdN
     rw [Bool.or_eq_true] at hdd
     rcases hdd with hdd | hdd
     ·exact absurd (by simpa using hdd) d0
     simp only [Bool.and_eq_true] at hdd
     obtain ⟨ht,htk,hgs⟩:=hdd
     have ht:ev L d (par L d) < d:=by simpa [Nat.blt_eq] using ht
     have htk:par L d < r.length + 1:=by simpa [Nat.blt_eq] using htk
     have hpos:∀v,nj F y0 (L :: r) (d :: v)=F (par L d) (nj F y0 (L :: r) (ev L d (par L d) :: v)):=fun v=>Fb ht
     generalize htt:par L d=t at *
     by_cases hgt:g=t
     ·subst hgt
      have e:tf (L :: r) g (d :: u)=ev L d g :: u:=by rw [tf,if_pos ab]
      rw [e,hpos,A.inv _ _ ab]
     ·
      have inv1:∀g y,g < r.length + 1→F g (F g y)=y:=fun g y hg=>A.inv g y ab
      have run:∀(w:List Nat) (c:Nat) (v:List Nat) (p:Nat×List Nat),c < L.N→jC r v=true→(∀x∈w,x < r.length + 1)→runK L d t w c=some p→cU F (nj F y0 (L :: r) (c :: v)) w=nj F y0 (L :: r) (p.1 :: cU (tf r) v p.2):=by
       intro w
       induction w with
       | nil=>intro c v p _ _ _ hp;rw [runK] at hp;obtain rfl:=Option.some.inj hp;rfl
       | cons x w ihw=>
        intro c v p hc hv hw hp
        have hx:=hw x (by simp)
        have hw':∀y∈w,y < r.length + 1:=fun y hy=>hw y (by simp [hy])
        obtain ⟨s1,s2,_⟩:=jq h.1 hc hx
        rw [runK] at hp
        show cU F (F x (nj F y0 (L :: r) (c :: v))) w=_
        split at hp
        ·rename_i hlt
         split at hp
         ·rename_i hk
          have step:F x (nj F y0 (L :: r) (c :: v))=nj F y0 (L :: r) (ev L c x :: v):=by
           have low:c < d→ev L c x < d→F x (nj F y0 (L :: r) (c :: v))=nj F y0 (L :: r) (ev L c x :: v):=fun h1 h2=>by
            rcases Nat.lt_trichotomy (ev L c x) c with h3 | h3 | h3
            ·have:=IH c h1 hc x v hx hv (.inr h3)
             rw [this,tf,if_pos hlt]
            ·exact absurd h3 (s1 hlt).2
            ·have:=IH (ev L c x) h2 hlt x v hx hv (.inr (by rw [(s1 hlt).1];exact h3))
             have e2:tf (L :: r) x (ev L c x :: v)=c :: v:=by rw [tf,(s1 hlt).1,if_pos hc]
             rw [e2] at this
             rw [←this,inv1 x _ hx]
           rcases hk with ⟨k1,k2,k3⟩ | ⟨k1,k2⟩
           ·subst k1
            by_cases hcd:c=d
            ·subst hcd
             rw [hpos,inv1 x _ hx]
            ·by_cases hed:ev L c x=d
             ·rw [hed,hpos]
              have:=(s1 hlt).1
              rw [hed] at this
              rw [this]
             ·exact low ab ab
           ·exact low k1 k2
          rw [step]
          exact ihw _ v p hlt hv hw' hp
         ·cases hp
        ·rename_i hnl
         split at hp
         ·rename_i hcd
          cases hq:runK L d t w c with
          | none=>rw [hq] at hp;cases hp
          | some q=>
           rw [hq] at hp
           obtain rfl:=Option.some.inj hp
           have:=IH c hcd hc x v hx hv (.inl hnl)
           rw [this,tf,if_neg hnl]
           exact ihw c _ q hc (Hr.ok _ v (s2 hnl) hv) hw' hq
         ·cases hp
      have hlb:=hl t g
      have hrel:=A.rel t g (nj F y0 (L :: r) (d :: u)) ab ab (fun e=>hgt e.symm)
      rw [tL t g _ hlb,nB] at hrel
      have hlet:∀x∈uz t g (lb t g),x < r.length + 1:=by
       have hal:∀m,∀x∈gN t g m,x < r.length + 1:=by
        intro m
        induction m with
        | zero=>intro x hx;simp [gN] at hx
        | succ m ihm=>
         intro x hx
         simp [gN] at hx
         rcases hx with rfl | rfl | hx
         ·exact htk
         ·exact hg
         ·exact ihm x hx
       intro x hx
       exact hal _ x (List.dropLast_subset _ hx)
      have hback:cU F (nj F y0 (L :: r) (d :: u)) (uz t g (lb t g))=F g (nj F y0 (L :: r) (d :: u)):=by
       have h1:F g (cU F (nj F y0 (L :: r) (d :: u)) (uz t g (lb t g)))=nj F y0 (L :: r) (d :: u):=hrel
       rw [←h1,inv1 g _ hg,h1]
      have hgg:=dO.1 hgs g hg
      rw [Bool.or_eq_true] at hgg
      rcases hgg with hgg | hgg
      ·exact absurd (by simpa using hgg) hgt
      by_cases hlt:ev L d g < L.N
      ·rw [if_pos hlt,Bool.or_eq_true] at hgg
       rcases hgg with hgg | hgg
       ·have:d < ev L d g:=by simpa [Nat.blt_eq] using hgg
        rcases he with he | he
        ·exact absurd hlt he
        ·omega
       ·have:=run _ d u _ hdN hok hlet (eq_of_beq hgg)
        rw [hback] at this
        rw [this,tf,if_pos hlt];rfl
      ·rw [if_neg hlt] at hgg
       have:=run _ d u _ hdN hok hlet (eq_of_beq hgg)
       rw [hback] at this
       rw [this,tf,if_neg hlt];rfl
  intro g x hg hx
  match x,hx with
  | [],hx=>cases hx
  | d :: u,hx=>
   rw [jC,Bool.and_eq_true] at hx
   have hdN:d < L.N:=by simpa using hx.1
   obtain ⟨s1,s2,_⟩:=jq h.1 hdN hg
   by_cases hlt:ev L d g < L.N
   ·rcases Nat.lt_trichotomy (ev L d g) d with h3 | h3 | h3
    ·exact Q d hdN g u hg hx.2 (.inr h3)
    ·exact absurd h3 (s1 hlt).2
    ·have:=Q (ev L d g) hlt g u hg hx.2 (.inr (by rw [(s1 hlt).1];exact h3))
     have e2:tf (L :: r) g (ev L d g :: u)=d :: u:=by rw [tf,(s1 hlt).1,if_pos hdN]
     have e3:tf (L :: r) g (d :: u)=ev L d g :: u:=by rw [tf,if_pos hlt]
     rw [e2] at this
     rw [←this,A.inv _ _ ab,e3]
   ·exact Q d hdN g u hg hx.2 (.inl hlt)
end Go.Proofs.Ytfpcfckocmmcnaa
namespace Go.Proofs.Ytfpcfckocmmcnaa
def je:List Lv→List Nat
 | []=> []
 | _ :: r=>0 :: je r
def ta (tw:List Lv) (g:Nat) (x:List Nat):List Nat:=if jC tw x=true∧g < tw.length then tf tw g x else x
theorem se {lb:Nat→Nat→Nat} :∀(tw:List Lv),nI lb tw=true→∀L∈tw,0 < L.N
 | [],_=>fun L h=>nomatch h
 | M :: r,h=>fun L hL=>by
  rw [nI,Bool.and_eq_true] at h
  rcases List.mem_cons.1 hL with rfl | hL
  ·have:=h.1;unfold Fl at this
   rw [Bool.and_eq_true] at this
   simpa [Nat.blt_eq] using this.1
  ·exact se r h.2 L hL
theorem oo:∀(tw:List Lv),(∀L∈tw,0 < L.N)→jC tw (je tw)=true
 | [],_=>rfl
 | L :: r,h=>by
  rw [je,jC,Bool.and_eq_true]
  exact ⟨decide_eq_true (h L (by simp)),oo r fun M hM=>h M (by simp [hM])⟩
theorem xe {lb:Nat→Nat→Nat} {tw:List Lv} (H:Br lb tw) {g:Nat} {x:List Nat} (hg:g < tw.length) (hx:jC tw x=true):ta tw g x=tf tw g x∧jC tw (ta tw g x)=true:=by
 have:ta tw g x=tf tw g x:=by unfold ta;rw [if_pos ⟨hx,hg⟩]
 rw [this];exact ⟨rfl,H.ok g x hg hx⟩
theorem Dp {lb:Nat→Nat→Nat} {tw:List Lv} (H:Br lb tw):∀(w:List Nat) (x:List Nat),(∀g∈w,g < tw.length)→jC tw x=true→cU (ta tw) x w=cU (tf tw) x w∧jC tw (cU (ta tw) x w)=true
 | [],x,_,hx=>⟨rfl,hx⟩
 | g :: w,x,hw,hx=>by
  obtain ⟨e,h1⟩:=xe H (hw g (by simp)) hx
  have ih:=Dp H w (ta tw g x) (fun y hy=>hw y (by simp [hy])) h1
  show cU (ta tw) (ta tw g x) w=cU (tf tw) (tf tw g x) w∧jC tw (cU (ta tw) (ta tw g x) w)=true
  rw [←e];exact ih
theorem C5 {tw:List Lv} {x:List Nat} (hx:¬jC tw x=true):∀(w:List Nat),cU (ta tw) x w=x
 | []=>rfl
 | g :: w=>by
  show cU (ta tw) (ta tw g x) w=x
  have:ta tw g x=x:=by unfold ta;rw [if_neg fun h=>hx h.1]
  rw [this];exact C5 hx w
theorem Gq {lb:Nat→Nat→Nat} {tw:List Lv} (H:Br lb tw) (g:Nat) (x:List Nat):ta tw g (ta tw g x)=x:=by
 by_cases h:jC tw x=true∧g < tw.length
 ·obtain ⟨e,h1⟩:=xe H h.2 h.1
  rw [(xe H h.2 h1).1,e];exact H.inv g x h.2 h.1
 ·have e:ta tw g x=x:=by unfold ta;rw [if_neg h]
  rw [e,e]
theorem re {i j:Nat} :∀ {m x:Nat},x∈gN i j m→x=i∨x=j
 | 0,x,h=>nomatch h
 | m + 1,x,h=>by
  rcases List.mem_cons.1 h with h | h
  ·exact .inl h
  rcases List.mem_cons.1 h with h | h
  ·exact .inr h
  ·exact re h
theorem DZ {lb:Nat→Nat→Nat} {tw:List Lv} (H:Br lb tw):ot lb tw.length (ta tw):=by
 refine ⟨fun g x _=>Gq H g x,fun i j x hi hj hij=> ?_⟩
 by_cases hx:jC tw x=true
 ·rw [(Dp H _ x (fun g hg=>by rcases re hg with rfl | rfl<;>assumption) hx).1]
  exact H.rel i j x hi hj hij hx
 ·exact C5 hx _
def G8 (L:Lv) (d:Nat):Nat:=L.T.row d >>> (L.W * 5)
def I4 (I s:Nat):Bool:=s ||| I == I
def Jk (k:Nat) (L:Lv):Bool:=
 (List.range L.N).all fun d=>(if Nat.blt 0 d then G8 L d == (G8 L (ev L d (par L d)) ||| 2 ^ par L d) else G8 L d == 0) && (List.range (k + 1)).all fun g=>
  if ev L d g < L.N then I4 (G8 L d ||| 2 ^ g) (G8 L (ev L d g)) else I4 (G8 L d ||| 2 ^ g) (2 ^ (ev L d g - L.N))
def E2:List Lv→Bool
 | []=>true
 | L :: r=>Jk r.length L && E2 r
theorem ER {lb:Nat→Nat→Nat} {k:Nat} {L:Lv} (h:Fl lb k L=true) {d:Nat} (h0:0 < d) (hd:d < L.N):ev L d (par L d) < d∧par L d < k + 1:=by
 unfold Fl at h
 simp only [Bool.and_eq_true] at h
 have:=dO.1 h.2.2.2 d hd
 rw [Bool.or_eq_true] at this
 rcases this with h1 | h1
 ·have:d=0:=by simpa using h1
  omega
 ·simp only [Bool.and_eq_true] at h1
  exact ⟨by simpa [Nat.blt_eq] using h1.1,by simpa [Nat.blt_eq] using h1.2.1⟩
theorem vV {lb:Nat→Nat→Nat} {k:Nat} {L:Lv} (h:Fl lb k L=true) {g:Nat} (hg:g < k):ev L 0 g=L.N + g:=by
 unfold Fl at h
 simp only [Bool.and_eq_true] at h
 simpa using dO.1 h.2.2.1 g hg
theorem Dl {lb:Nat→Nat→Nat} :∀(tw:List Lv),Bq lb tw=true→nI lb tw=true→∀x,jC tw x=true→∃w,(∀g∈w,g < tw.length)∧cU (tf tw) (je tw) w=x
 | [],_,_=>fun x hx=>⟨[],by simp,by cases x with
  | nil=>rfl
  | cons _ _=>cases hx⟩
 | L :: r,hB,h=>fun x hx=>by
  rw [Bq,Bool.and_eq_true] at hB
  rw [nI,Bool.and_eq_true] at h
  match x,hx with
  | [],hx=>cases hx
  | d :: u,hx=>
   rw [jC,Bool.and_eq_true] at hx
   have hd:d < L.N:=by simpa using hx.1
   have h0N:0 < L.N:=by omega
   obtain ⟨w,hw,e⟩:=Dl r hB.2 h.2 u hx.2
   have low:∀(w:List Nat) (v:List Nat),(∀g∈w,g < r.length)→cU (tf (L :: r)) (0 :: v) w=0 :: cU (tf r) v w:=by
    intro w
    induction w with
    | nil=>intro v _;rfl
    | cons g w ihw=>
     intro v hg
     show cU (tf (L :: r)) (tf (L :: r) g (0 :: v)) w=0 :: cU (tf r) (tf r g v) w
     have e0:=vV h.1 (hg g (by simp))
     rw [tf,if_neg ab,e0,Nat.add_sub_cancel_left]
     exact ihw _ fun y hy=>hg y (by simp [hy])
   have base:cU (tf (L :: r)) (je (L :: r)) w=0 :: u:=by
    have:=low w (je r) hw
    rw [e] at this;exact this
   suffices ∃v,(∀g∈v,g < r.length + 1)∧cU (tf (L :: r)) (0 :: u) v=d :: u by
    obtain ⟨v,v1,v2⟩:=this
    refine ⟨w ++ v,fun g hg=> ?_,by rw [nB,base];exact v2⟩
    rcases List.mem_append.1 hg with hg | hg
    ·have:=hw g hg;show g < r.length + 1;omega
    ·exact v1 g hg
   clear hx base low e w hw
   induction d using Nat.strongRecOn with
   | _ d ih=>
    by_cases d0:d=0
    ·subst d0;exact ⟨[],by simp,rfl⟩
    ·obtain ⟨p1,p2⟩:=ER h.1 ab hd
     obtain ⟨v,v1,v2⟩:=ih _ p1 ab
     refine ⟨v ++ [par L d],fun g hg=> ?_, ?_⟩
     ·rcases List.mem_append.1 hg with hg | hg
      ·exact v1 g hg
      ·simp at hg;subst hg;exact p2
     ·rw [nB,v2]
      show tf (L :: r) (par L d) (ev L d (par L d) :: u)=d :: u
      have s1:=((jq hB.1 hd p2).1 ab).1
      rw [tf,s1,if_pos hd]
theorem wU {Y:Type} (F:Nat→Y→Y) (y0:Y):∀tw:List Lv,nj F y0 tw (je tw)=y0
 | []=>rfl
 | L :: r=>by
  show D8 F L (nj F y0 r (je r)) 0=y0
  rw [rZ];exact wU F y0 r
theorem tz (i j:Nat):∀m,gN i j (m + 1)=gN i j m ++ [i,j]
 | 0=>rfl
 | m + 1=>by
  show i :: j :: gN i j (m + 1)=i :: j :: gN i j m ++ [i,j]
  rw [tz i j m];rfl
theorem xo (i j:Nat):∀m,(gN i j m).reverse=gN j i m
 | 0=>rfl
 | m + 1=>by
  rw [tz,List.reverse_append,xo i j m];rfl
theorem oe {X:Type} {f:Nat→X→X} {n:Nat} (hi:∀g x,g < n→f g (f g x)=x):∀(w:List Nat) (x:X),(∀g∈w,g < n)→cU f (cU f x w) w.reverse=x
 | [],x,_=>rfl
 | g :: w,x,hw=>by
  rw [List.reverse_cons,nB]
  show f g (cU f (cU f (f g x) w) w.reverse)=x
  rw [oe hi w _ fun y hy=>hw y (by simp [hy])]
  exact hi g x (hw g (by simp))
end Go.Proofs.Ytfpcfckocmmcnaa
