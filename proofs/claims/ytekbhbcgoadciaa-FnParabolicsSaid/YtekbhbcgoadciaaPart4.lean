/- The laws' own helpers on []int64: the copy, the comparison, the marks. -/
import Derived.Test.YtekbhbcgoadciaaProg
import Derived.Test.YtekbhbcgoadciaaPart1
import Derived.Laws.CopyOwn
import Derived.Deep.RegionLaw
import Derived.RegionTactic
import Derived.Deep.RegionHeld3
import Derived.Test.YtekbhbcgoadciaaPart3
import Derived.Maps.AppendAt
import Derived.Deep.DeepCutAuto
import Derived.Deep.CutBlock
import Derived.Test.YtekbhbcgoadciaaPart2
import Derived.Lib.LazyBuf
import Derived.Lib.SliceRun
namespace Go.Proofs.Ytekbhbcgoadciaa
open Go.RowKit
theorem A3:ET Try.prog 24 2 (.int .i64 0) 8:=⟨Try.underlying24,by kernel_rfl,rfl,by omega⟩
end Go.Proofs.Ytekbhbcgoadciaa
namespace Go.Proofs.Ytekbhbcgoadciaa
open Go.RowKit
theorem ofInt_u64 (a:Nat) (ha:a < 18446744073709551616):(BitVec.ofInt 64 (a:Int)).toNat=a:=by
 rw [BitVec.ofInt_natCast,BitVec.toNat_ofNat];exact Nat.mod_eq_of_lt (by omega)
theorem vE (a:Nat) (ha:a≤1048576):bits .and .u64 (a:Int) 4294967295=(a:Int):=by
 show IntKind.u64.wrap ((BitVec.ofInt 64 (a:Int) &&& BitVec.ofInt 64 ((4294967295:Nat):Int)).toNat:Int)=_
 rw [BitVec.toNat_and,ofInt_u64 a (by omega),ofInt_u64 4294967295 (by omega),show (4294967295:Nat)=2 ^ 32 - 1 from rfl,Nat.and_two_pow_sub_one_eq_mod,Nat.mod_eq_of_lt (by omega)]
 simp [IntKind.wrap,IntKind.signed,IntKind.bits];omega
theorem jz (a:Nat) (ha:a≤4294967295):IntKind.u64.wrap ((a:Nat):Int)=(a:Int):=by
 simp [IntKind.wrap,IntKind.signed,IntKind.bits];omega
set_option maxHeartbeats 400000 in
theorem sq (a b:Nat) (w:World) (ha:a≤1048576) (hb:b≤1048576) (hab:a * b≤4294967295):
  Calls Try.prog 61 #[.int .u64 a, .int .u64 b] w fun e w'=>e= .returned (.tuple #[.int .u64 0, .int .u64 ((a * b:Nat):Int)])∧w=w':=by
 have e1:(a:Int) / 4294967296=0:=by omega
 have e2:(b:Int) / 4294967296=0:=by omega
 have e3:bits .and .u64 (a:Int) 4294967295=(a:Int):=vE a ha
 have e4:bits .and .u64 (b:Int) 4294967295=(b:Int):=vE b hb
 have e5:(a:Int) * (b:Int)=((a * b:Nat):Int):=by rw [Int.natCast_mul]
 have e6:IntKind.u64.wrap ((a:Int) * (b:Int))=((a * b:Nat):Int):=by rw [e5];exact jz _ hab
 have e7:((a:Int) * (b:Int)) / 4294967296=0:=by rw [e5];omega
 have e8:bits .and .u64 0 4294967295=0:=by decide +kernel
 have e9:IntKind.u64.wrap 0=0:=by decide +kernel
 have H6:=Lib.hid e6
 have H5:=Lib.hid e5
 clear e5 e6
 have e10:IntKind.u64.wrap ((a:Int) * (b:Int))=(a:Int) * (b:Int):=by rw [H6.out,H5.out]
 go_enter Try.func61,Try.ntmps61
 go_wp2
 go_ret2
 exact ⟨by simp,rfl⟩
def dw {α:Type} (zs:List α) (count:Nat):List α:=(List.replicate count zs).flatten
theorem kj {α:Type} (zs:List α) (count:Nat):(dw zs count).length=zs.length * count:=by
 unfold dw;rw [List.length_flatten];simp;exact Nat.mul_comm _ _
theorem pD {α:Type} (zs:List α) (a b:Nat):dw zs (a + b)=dw zs a ++ dw zs b:=by
 unfold dw;rw [←List.replicate_append_replicate,List.flatten_append]
theorem yC {α:Type} (zs:List α):dw zs 1=zs:=by simp [dw]
theorem sR {α:Type} {zs:List α} {count j c:Nat} (hj:j≤count) (hc:c≤zs.length * (count - j)):(dw zs count).take (zs.length * j + c)=(dw zs count).take (zs.length * j) ++ (dw zs count).take c:=by
 have h1:dw zs count=dw zs j ++ dw zs (count - j):=by rw [←pD];congr 1;omega
 have h2:dw zs count=dw zs (count - j) ++ dw zs j:=by rw [←pD];congr 1;omega
 have l1:=kj zs j
 have l2:=kj zs (count - j)
 have e3:(dw zs count).take c=(dw zs (count - j)).take c:=by rw [h2,List.take_append_of_le_length (by omega)]
 have e4:(dw zs count).take (zs.length * j)=dw zs j:=by rw [h1,←l1,List.take_left'];rfl
 rw [e3,e4,h1,List.take_append,List.take_of_length_le (by omega)]
 congr 2;omega
theorem nZ {α:Type} {R:List α} {z:α} {k c T:Nat} (hR:R.length=T) (hk:k + c≤T) (h:R.take (k + c)=R.take k ++ R.take c):splice (R.take k ++ List.replicate (T - k) z) k (R.take c)=R.take (k + c) ++ List.replicate (T - (k + c)) z:=by
 unfold splice
 have l1:(R.take k).length=k:=by simp;omega
 have l2:(R.take c).length=c:=by simp;omega
 rw [List.take_append_of_le_length (by omega),List.take_of_length_le (by omega),l2,List.drop_append,List.drop_of_length_le (by omega),l1,h]
 simp
 omega
theorem uy {α β:Type} (f:α→β) (xs:List α) (k:Nat) (ys:List α):(splice xs k ys).map f=splice (xs.map f) k (ys.map f):=by
 unfold splice;simp
theorem Own.Bj {w:World} {base E g T:Nat} {xs:List Value} (h:Own w base E (some ⟨g,0,none⟩) T T xs):w.heap[g]? =some (.cells xs.toArray E (0,0)):=by
 rcases h.1.2 with ⟨h2,_⟩ | ⟨g',cap,cur,hv,_,hh,_,_,hs,ht⟩
 ·cases h2
 ·injection hv with h1 h2 h3
  injection h1 with h1;injection h1 with h1
  subst h1 h3
  have:cur.toList=xs:=by rw [←ht,List.take_of_length_le];rw [Array.length_toList,hs];exact Nat.le_refl _
  rw [hh,←this,Array.toArray_toList]
theorem Own.of_heap {w w':World} {base E g T:Nat} {xs ys:List Value} (h:Own w base E (some ⟨g,0,none⟩) T T xs) (hh:w'.heap[g]? =some (.cells ys.toArray E (0,0))) (hl:ys.length=T):Own w' base E (some ⟨g,0,none⟩) T T ys:=by
 refine ⟨⟨by rw [hl,Nat.mul_one], .inr ⟨g,T,ys.toArray,rfl,(h.lt g rfl).1,hh,Nat.le_refl _,by have:=h.2;simp [maxLen];omega,by simp [hl], ?_⟩⟩,h.2⟩
 simp [←hl]
section
variable {P:Program} {ops:Array Oper} {rest:List Oper} {o:Oper} {a:Act} {Q:Exit→Act→World→Prop}
theorem xz {S E:TypeId} {z:Value} {bytes:Nat} (et:ET P S E z bytes) (w:World) (hg:o.guard=none) (d s:Operand) (ho:o.op= .call { callee:= .builtin .copy,args:= #[d,s],argTypes:= #[S,S] })
  (base g T off:Nat) (xs cs:List Value) (hown:Own w base E (some ⟨g,0,none⟩) T T xs) (dp:Option Addr) (dLen dCap:Nat) (hd:a.eval d= .slice dp dLen dCap) (sp:Option Addr) (sLen sCap:Nat) (hs:a.eval s= .slice sp sLen sCap)
  (hn:cs.length=Nat.min sLen dLen) (hpos:0 < cs.length→dp=some ⟨g,off,none⟩∧∃ad,sp=some ad∧∀j v,cs[j]? =some v→w.cell? (ad.add j)=some v) (hfit:off + cs.length≤T) (h1:∀v∈cs,v.oneCell'=true)
  (h:∀w',Own w' base E (some ⟨g,0,none⟩) T T (splice xs off cs)→Below g w w'→wpList P ops Q rest (a.put o.dst (goInt cs.length)) w'):wpList P ops Q (o :: rest) a w:=by
 obtain ⟨i,hi,hz,hsz,hby⟩:=info_parts et.info
 refine wpList_copy_splice hg d s S S ho E et.und (by rw [hi];simp [hsz]) dp sp dLen dCap sLen sCap hd hs g off xs E hown.Bj cs hn hpos (by rw [hown.len];exact hfit) h1 g w (Below.refl _ _) (Nat.le_refl _) ?_
 intro w' hh hb
 exact h w' (hown.of_heap hh.out (by rw [length_splice _ _ _ (by rw [hown.len];exact hfit),hown.len])) hb
theorem An {S E:TypeId} {z:Value} {bytes:Nat} (et:ET P S E z bytes) {w:World} {K:Act→World→Prop} {X:Prop} (hg:o.guard=none) (d s:Operand) (ho:o.op= .call { callee:= .builtin .copy,args:= #[d,s],argTypes:= #[S,S] })
  (base g T off:Nat) (xs cs:List Value) (hown:Own w base E (some ⟨g,0,none⟩) T T xs) (dp:Option Addr) (dLen dCap:Nat) (hd:a.eval d= .slice dp dLen dCap) (sp:Option Addr) (sLen sCap:Nat) (hs:a.eval s= .slice sp sLen sCap)
  (hn:cs.length=Nat.min sLen dLen) (hpos:0 < cs.length→dp=some ⟨g,off,none⟩∧∃ad,sp=some ad∧∀j v,cs[j]? =some v→w.cell? (ad.add j)=some v) (hfit:off + cs.length≤T) (h1:∀v∈cs,v.oneCell'=true)
  (h:∀w',Own w' base E (some ⟨g,0,none⟩) T T (splice xs off cs)→Below g w w'→K (a.put o.dst (goInt cs.length)) w'):if Region.wanted o (yielded ops a.tmps)=true then Oper.wp P o a w K Q else X:=by
 obtain ⟨i,hi,hz,hsz,hby⟩:=info_parts et.info
 refine step_copy_splice hg d s S S ho E et.und (by rw [hi];simp [hsz]) dp sp dLen dCap sLen sCap hd hs g off xs E hown.Bj cs hn hpos (by rw [hown.len];exact hfit) h1 g w (Below.refl _ _) (Nat.le_refl _) ?_
 intro w' hh hb
 exact h w' (hown.of_heap hh.out (by rw [length_splice _ _ _ (by rw [hown.len];exact hfit),hown.len])) hb
end
set_option maxRecDepth 100000 in
set_option maxHeartbeats 3200000 in
theorem lj (ao:Option Addr) (n c count:Nat) (zs:List Int) (w:World) (h:cY w ao n zs) (hn:n≤1048576) (hc:count≤1048576) (hnc:n * count≤1048576) (hpos:0 < n * count):
  Calls Try.prog 37 #[.slice ao n c, .int .i64 count] w fun e w'=>∃ao' c',e= .returned (.slice ao' (n * count) c')∧Own w' w.heap.size 2 ao' (n * count) c' ((dw zs count).map (Value.int .i64))∧Below w.heap.size w w':=by
 have HL:=Lib.hid h.1
 have hn0:0 < n:=Nat.pos_of_mul_pos_right hpos
 have hc0:0 < count:=Nat.pos_of_mul_pos_left hpos
 have hle:n≤n * count:=Nat.le_mul_of_pos_right _ hc0
 obtain ⟨T,hT⟩:∃T,n * count=T:=⟨_,rfl⟩
 rw [hT] at hpos hle ⊢
 have HT:=Lib.hid hT
 have hT2:T≤1048576:=by omega
 clear hT hnc
 have hRl:((dw zs count)).length=T:=by rw [kj,HL.out,HT.out]
 have HR:=Lib.hid hRl
 clear hRl
 obtain ⟨b,off,rfl,hb0,hcells⟩:=h.Dc hn0
 obtain ⟨cs,hcs⟩:∃cs:List Value,cs=((dw zs count).take n).map (Value.int .i64):=⟨_,rfl⟩
 have hcl:cs.length=n:=by rw [hcs];simp [HR.out];omega
 have hc1:∀v∈cs,v.oneCell'=true:=by rw [hcs];exact ints_oneCell _ _
 have hcsv:∀j v,cs[j]? =some v→w.cell? ⟨b,off + j,none⟩=some v:=by
  intro j v hv
  have hj:j < n:=by have:=(List.getElem?_eq_some_iff.1 hv).1;omega
  have hrn:(dw zs count).take n=zs:=by
   have e:dw zs count=zs ++ dw zs (count - 1):=by
    have:count=1 + (count - 1):=by omega
    conv=>lhs;rw [this]
    rw [pD,yC]
   rw [e,←HL.out,List.take_left'];rfl
  rw [hcs,hrn,List.getElem?_map,List.getElem?_eq_getElem (by rw [HL.out];exact hj)] at hv
  rw [hcells j hj,←hv,cG (by rw [HL.out];exact hj)];rfl
 have HCS:=Lib.hid hcs
 have HCL:=Lib.hid hcl
 have HC1:=Lib.hid hc1
 have HCV:=Lib.hid hcsv
 have x1:=jz n (by omega)
 have x2:=jz count (by omega)
 clear hcs hcl hc1 hcsv hcells
 go_enter Try.func37,Try.ntmps37
 go_wp2_with (first | (go_at_call 61;refine (sq n count _ hn hc (by rw [HT.out];omega)).mono ?_;rintro e w' ⟨rfl,rfl⟩;rw [HT.out]) | (at_make;refine xl A3 _ rfl _ _ rfl w.heap.size _ _ _ _ T rfl rfl rfl rfl (by omega) (Nat.le_refl _) ?_;intro w1 hown hgrow hsz;have hb1:Below w.heap.size w w1:=(Below.refl _ _).grown hgrow (Nat.le_refl _) (by simp);clear hgrow) | (with_reducible refine xz (o:=⟨some 33,_,_,_,_,_⟩) A3 _ rfl (.tmp 31) (.tmp 32) rfl w.heap.size w.heap.size T 0 _ cs hown _ _ _ rfl _ _ _ rfl ?_ ?_ ?_ HC1.out ?_))
 ·rw [HCL.out];exact (Nat.min_eq_left hle).symm
 ·exact fun _ j v hv=>(hb1.cell (p:=⟨b,off + j,none⟩) hb0).trans (HCV.out j v hv)
 ·rw [HCL.out];omega
 intro w2 o2 b2
 have hb2:Below w.heap.size w w2:=hb1.trans b2
 have e0:splice (List.replicate T (Value.int .i64 0)) 0 cs=((dw zs count).take n ++ List.replicate (T - n) 0).map (Value.int .i64):=by
  rw [HCS.out,←List.map_replicate]
  have:=nZ (R:=dw zs count) (z:=(0:Int)) (k:=0) (c:=n) HR.out (by omega) (by simp)
  simp only [List.take_zero,List.nil_append,Nat.zero_add,Nat.sub_zero] at this
  rw [←this]
  simp [splice]
 rw [e0] at o2
 rw [HCL.out]
 clear e0 hown hsz hb1 b2 HCV HC1 HCS HCL
 go_wp2
 go_loopw [8] (fun i wr=>∃k j:Nat,i= .int .i64 k∧0 < k∧k≤T∧(k=n * j∧j≤count∨k=T)∧Own wr w.heap.size 2 (some ⟨w.heap.size,0,none⟩) T T (((dw zs count).take k ++ List.replicate (T - k) 0).map (Value.int .i64))∧Below w.heap.size w wr) (fun i _=>T - (intOf i).toNat)
 case atStart=>exact ⟨n,1,by simp,hn0,hle, .inl ⟨by omega,by omega⟩,o2,hb2⟩
 case round=>
  obtain ⟨k,j,rfl,hk0,hkT,hkj,ho,hb⟩:=hrel
  clear o2 hb2
  have HK:=Lib.hid hkj
  clear hkj
  by_cases hlt:k < T
  ·obtain ⟨c2,hc2⟩:∃c2,c2=Nat.min k (T - k):=⟨_,rfl⟩
   have hc2a:c2≤k:=by rw [hc2];exact Nat.min_le_left _ _
   have hc2b:c2≤T - k:=by rw [hc2];exact Nat.min_le_right _ _
   have hc2c:0 < c2:=by rw [hc2];exact Nat.lt_min.2 ⟨hk0,by omega⟩
   have hdb:(dw zs count).take (k + c2)=(dw zs count).take k ++ (dw zs count).take c2:=by
    rcases HK.out with ⟨e,hj⟩ | e
    ·have hx:c2≤zs.length * (count - j):=by rw [HL.out,Nat.mul_sub,HT.out,←e];exact hc2b
     have:=sR (zs:=zs) hj hx
     rwa [HL.out,←e] at this
    ·omega
   obtain ⟨cs,hcs⟩:∃cs:List Value,cs=((dw zs count).take c2).map (Value.int .i64):=⟨_,rfl⟩
   have hcl:cs.length=c2:=by rw [hcs];simp [HR.out];omega
   have hc1:∀v∈cs,v.oneCell'=true:=by rw [hcs];exact ints_oneCell _ _
   have hcsv:∀j v,cs[j]? =some v→wr.cell? ⟨w.heap.size,j,none⟩=some v:=by
    intro j v hv
    have hj:j < c2:=by have:=(List.getElem?_eq_some_iff.1 hv).1;omega
    obtain ⟨g',eg, -, -, -,hcell, -⟩:=ho.form (by omega)
    injection eg with eg;injection eg with eg;subst eg
    rw [hcell j (by omega),←hv,hcs,List.getElem?_map,List.getElem?_map,List.getElem?_append_left (by simp [HR.out];omega),List.getElem?_take,List.getElem?_take,if_pos (by omega),if_pos (by omega)]
   have HD:=Lib.hid hdb
   have HC:=Lib.hid hcs
   have HCL:=Lib.hid hcl
   have HC1:=Lib.hid hc1
   have HCV:=Lib.hid hcsv
   have HC2:=Lib.hid hc2
   have hTk:((T - k:Nat):Int)=(T:Int) - k:=by omega
   clear hdb hcs hcl hc1 hcsv hc2 hTk
   go_wp2_with fail
   have HB:=Lib.hid hb
   have HS:=Lib.hid (show ((k:Nat):Int) + ((c2:Nat):Int)=((k + c2:Nat):Int) by omega)
   have hw:IntKind.i64.wrap (((k + c2:Nat):Nat):Int)=((k + c2:Nat):Int):=by simp [IntKind.wrap,IntKind.signed,IntKind.bits];omega
   have HW:=Lib.hid hw
   clear hw
   go_region_held3 (fun w'=>Below w.heap.size w w') (first | exact HB.out.drew | assumption) (first | (refine An (o:=⟨some 45,_,_,_,_,_⟩) A3 rfl (.tmp 41) (.tmp 44) rfl w.heap.size w.heap.size T k _ cs (ho.drewN 1) _ _ _ rfl _ _ _ rfl ?_ ?_ ?_ HC1.out ?_;(rw [HCL.out,HC2.out]);(intro _;exact ⟨if_neg (by omega),_,rfl,fun j v hv=>by have hx:=HCV.out j v hv;by_cases e:j=0<;>simp_all [Addr.add]⟩);(rw [HCL.out];omega);intro w3 o3 b3;have b4:Below w.heap.size w w3:=HB.out.drew.trans b3))
   rw [HCL.out,HS.out,HW.out]
   have o4:Own w3 w.heap.size 2 (some ⟨w.heap.size,0,none⟩) T T (((dw zs count).take (k + c2) ++ List.replicate (T - (k + c2)) 0).map (Value.int .i64)):=by
    have e:=nZ (R:=dw zs count) (z:=(0:Int)) (k:=k) (c:=c2) HR.out (by omega) HD.out
    rw [←e]
    rw [HC.out] at o3
    rw [uy]
    exact o3
   go_roundw
   case rel=>
    refine ⟨_,_,_,_,_,_,_,_,_,_,_,_,_,_,⟨k + c2,2 * j,rfl,by omega,by omega, ?_,o4,b4⟩,rfl⟩
    rcases HK.out with ⟨e,hj⟩ | e
    ·by_cases hx:k≤T - k
     ·have hc2k:c2=k:=by rw [HC2.out];exact Nat.min_eq_left hx
      left
      have e2:n * (2 * j)=k + k:=by rw [e,Nat.mul_left_comm];omega
      refine ⟨by omega, ?_⟩
      have:n * (2 * j)≤n * count:=by rw [HT.out];omega
      exact Nat.le_of_mul_le_mul_left this hn0
     ·have hc2k:c2=T - k:=by rw [HC2.out];exact Nat.min_eq_right (by omega)
      right;omega
    ·omega
   case measure=>simp [intOf];omega
  ·obtain rfl:k=T:=by omega
   rw [Nat.sub_self,List.replicate_zero,List.append_nil,List.take_of_length_le (Nat.le_of_eq HR.out)] at ho
   go_wp2
   go_ret
   exact ⟨_,_,rfl,ho,hb⟩
end Go.Proofs.Ytekbhbcgoadciaa
namespace Go.Proofs.Ytekbhbcgoadciaa
open Go.RowKit
def jF (n lo hi:Int):Bool:=decide (lo≤n) && decide (n≤hi)
theorem eX {n lo hi:Int} :jF n lo hi=true↔lo≤n∧n≤hi:=by simp [jF]
theorem fZ (n lo hi:Int) (w:World):Calls Try.prog 29 #[.int .i64 n, .int .i64 lo, .int .i64 hi] w fun e w'=>e= .returned (.bool (jF n lo hi))∧w'=w:=by
 by_cases h:lo≤n
 ·have h1:decide (lo≤n)=true:=by simpa using h
  go_enter Try.func29,Try.ntmps29
  go_wp2
  go_ret
  exact ⟨bR (by simp [jF,h]),rfl⟩
 ·have h1:decide (lo≤n)=false:=by simpa using h
  have h2:jF n lo hi=false:=by simp [jF,h1]
  have H2:=Lib.hid h2
  clear h2
  go_enter Try.func29,Try.ntmps29
  go_wp2
  go_ret
  exact ⟨bR H2.out.symm,rfl⟩
theorem fm (n lo hi:Int) (w:World):Calls Try.prog 33 #[.int .i64 n, .int .i64 lo, .int .i64 hi] w fun e w'=>e= .returned (.bool (jF n lo hi))∧w'=w:=by
 by_cases h:lo≤n
 ·have h1:decide (lo≤n)=true:=by simpa using h
  go_enter Try.func33,Try.ntmps33
  go_wp2
  go_ret
  exact ⟨bR (by simp [jF,h]),rfl⟩
 ·have h1:decide (lo≤n)=false:=by simpa using h
  have h2:jF n lo hi=false:=by simp [jF,h1]
  have H2:=Lib.hid h2
  clear h2
  go_enter Try.func33,Try.ntmps33
  go_wp2
  go_ret
  exact ⟨bR H2.out.symm,rfl⟩
def oB (p:Int→Bool) (zs:List Int):Int:=match zs.findIdx? p with | some i=>i | none=> -1
theorem pb {p:Int→Bool} {zs:List Int} (h:zs.any p=false):oB p zs= -1:=by
 have:zs.findIdx? p=none:=by rw [List.findIdx?_eq_none_iff];intro x hx;have:=(List.any_eq_false.1 h) x hx;simpa using this
 simp [oB,this]
theorem uJ {p:Int→Bool} {zs:List Int} {k:Nat} (hk:k < zs.length) (hn:(zs.take k).any p=false) (hp:p (aC zs k)=true):oB p zs=k:=by
 have:zs.findIdx? p=some k:=by
  rw [List.findIdx?_eq_some_iff_getElem]
  refine ⟨hk,by rw [←cG hk];exact hp,fun j hj=> ?_⟩
  have hx:zs[j]'(by omega)∈zs.take k:=by rw [List.mem_take_iff_getElem];exact ⟨j,by omega,rfl⟩
  have:=(List.any_eq_false.1 hn) _ hx
  simpa using this
 simp [oB,this]
theorem wH (p:Int→Bool) (zs:List Int):decide (0≤oB p zs)=zs.any p:=by
 cases h:zs.any p with
 | false=>rw [pb h];rfl
 | true=>
  rw [decide_eq_true_iff]
  unfold oB
  cases h2:zs.findIdx? p with
  | some i=>exact Int.natCast_nonneg i
  | none=>
   rw [List.findIdx?_eq_none_iff] at h2
   obtain ⟨x,hx,hp⟩:=List.any_eq_true.1 h
   have:=h2 x hx
   simp [hp] at this
set_option maxHeartbeats 400000 in
theorem p4 (fn:Nat) (cap:Array Value) (p:Int→Bool) (ao:Option Addr) (n c:Nat) (zs:List Int) (w:World) (h:cY w ao n zs)
  (hcf:∀(args:Array Value) (w:World),(callFunc fn args).run Try.prog w= .ok (.enter fn args) w)
  (hf:∀j,j < n→∀w',Below w.heap.size w w'→Calls Try.prog fn (#[.int .i64 (aC zs j)] ++ cap) w' fun e w''=>e= .returned (.bool (p (aC zs j)))∧Below w'.heap.size w' w''):
  Calls Try.prog 51 #[.slice ao n c, .func (.func fn) #[] cap] w fun e w'=>e= .returned (.int .i64 (oB p zs))∧Below w.heap.size w w':=by
 have hn:=h.2.1
 have HF:=Lib.hid hf
 clear hf
 go_enter Try.func51,Try.ntmps51
 go_wp2
 go_loopw [8] (fun i wr=>∃k:Nat,k≤n∧i= .int .i64 k∧(zs.take k).any p=false∧Below w.heap.size w wr) (fun i _=>n - (intOf i).toNat)
 case atStart=>exact ⟨0,Nat.zero_le _,rfl,by simp,Below.refl _ _⟩
 case round=>
  obtain ⟨k,hk,rfl,hpre,hb⟩:=hrel
  have HP:=Lib.hid hpre
  clear hpre
  by_cases hlt:k < n
  ·obtain ⟨b,off,rfl,hc⟩:=(h.below hb).at_ hlt
   have HH:=Lib.hid h
   clear h
   cases hp:p (aC zs k) with
   | true=>
    have HX:=Lib.hid hp
    clear hp
    go_wp2_with fail
    refine (HF.out k hlt _ hb).mono ?_
    rintro e w1 ⟨rfl,hb1⟩
    rw [HX.out]
    go_wp2
    go_ret
    exact ⟨gg (uJ (by rw [HH.out.1];exact hlt) HP.out HX.out).symm,hb.trans (hb1.mono hb.size)⟩
   | false=>
    have HX:=Lib.hid hp
    clear hp
    go_wp2_with fail
    refine (HF.out k hlt _ hb).mono ?_
    rintro e w1 ⟨rfl,hb1⟩
    rw [HX.out]
    go_wp2
    go_roundw
    case rel=>exact ⟨k + 1,by omega,by go_num,by rw [p8 (by rw [HH.out.1];exact hlt),HP.out,HX.out];rfl,hb.trans (hb1.mono hb.size)⟩
    case measure=>simp [intOf];omega
  ·obtain rfl:k=n:=by omega
   have hl:=h.1
   have HL:=Lib.hid hl
   clear hl
   go_wp2
   go_ret
   exact ⟨gg (pb (by have:=HP.out;rwa [List.take_of_length_le (Nat.le_of_eq HL.out)] at this)).symm,hb⟩
theorem jr (fn:Nat) (cap:Array Value) (p:Int→Bool) (ao:Option Addr) (n c:Nat) (zs:List Int) (w:World) (h:cY w ao n zs)
  (hcf:∀(args:Array Value) (w:World),(callFunc fn args).run Try.prog w= .ok (.enter fn args) w)
  (hf:∀j,j < n→∀w',Below w.heap.size w w'→Calls Try.prog fn (#[.int .i64 (aC zs j)] ++ cap) w' fun e w''=>e= .returned (.bool (p (aC zs j)))∧Below w'.heap.size w' w''):
  Calls Try.prog 27 #[.slice ao n c, .func (.func fn) #[] cap] w fun e w'=>e= .returned (.bool (zs.any p))∧Below w.heap.size w w':=by
 have HF:=Lib.hid hf
 clear hf
 go_enter Try.func27,Try.ntmps27
 go_wp2_with fail
 refine (p4 fn cap p ao n c zs w h hcf HF.out).mono ?_
 rintro e w1 ⟨rfl,hb1⟩
 go_wp2
 go_ret
 exact ⟨bR (wH p zs),hb1⟩
end Go.Proofs.Ytekbhbcgoadciaa
namespace Go.Proofs.Ytekbhbcgoadciaa
open Go.RowKit
def dK (z:Int):Bool:=z == 0 || jF z 2 32
def cf (zs:List Int):Bool:=zs.all dK && decide (zs.length < 5)
set_option maxHeartbeats 400000 in
theorem rS (ao:Option Addr) (n c:Nat) (zs:List Int) (w:World) (h:cY w ao n zs):
  Calls Try.prog 32 #[.slice ao n c] w fun e w'=>e= .returned (.bool (cf zs))∧w'=w:=by
 have hn:=h.2.1
 go_enter Try.func32,Try.ntmps32
 go_wp2
 go_loop [3] (fun i=>∃k:Nat,k≤n∧i= .int .i64 k∧(zs.take k).all dK=true) (fun i=>n - (intOf i).toNat)
 case atStart=>exact ⟨0,Nat.zero_le _,rfl,by simp⟩
 case round=>
  obtain ⟨k,hk,rfl,hpre⟩:=hrel
  have HP:=Lib.hid hpre
  clear hpre
  by_cases hlt:k < n
  ·obtain ⟨b,off,rfl,hc⟩:=h.at_ hlt
   have hl:=h.1
   have HL:=Lib.hid hl
   clear hl h
   cases hp:dK (aC zs k) with
   | true=>
    have HX:=Lib.hid hp
    by_cases h0:aC zs k=0
    ·have h1:(aC zs k != 0)=false:=by simp [h0]
     clear hp h0
     go_wp2
     go_round
     case rel=>exact ⟨k + 1,by omega,by go_num,by rw [iR (by rw [HL.out];exact hlt),HP.out,HX.out];rfl⟩
     case measure=>simp [intOf];omega
    ·have h1:(aC zs k != 0)=true:=by simp [h0]
     have h2:jF (aC zs k) 2 32=true:=by unfold dK at hp;simpa [h0] using hp
     have H2:=Lib.hid h2
     clear hp h0 h2
     go_wp2_with (go_at_call 33;refine (fm _ _ _ _).mono ?_;rintro e w' ⟨rfl,rfl⟩;rw [H2.out])
     go_round
     case rel=>exact ⟨k + 1,by omega,by go_num,by rw [iR (by rw [HL.out];exact hlt),HP.out,HX.out];rfl⟩
     case measure=>simp [intOf];omega
   | false=>
    have HX:=Lib.hid hp
    have h1:(aC zs k != 0)=true:=by
     rw [bne_iff_ne];intro e;unfold dK at hp;simp [e] at hp
    have h2:jF (aC zs k) 2 32=false:=by unfold dK at hp;simp only [Bool.or_eq_false_iff] at hp;exact hp.2
    have H2:=Lib.hid h2
    clear hp h2
    go_wp2_with (go_at_call 33;refine (fm _ _ _ _).mono ?_;rintro e w' ⟨rfl,rfl⟩;rw [H2.out])
    go_ret
    exact ⟨bR (by unfold cf;rw [lN (by rw [HL.out];exact hlt) HX.out];rfl),rfl⟩
  ·obtain rfl:k=n:=by omega
   have hl:=h.1
   have HL:=Lib.hid hl
   clear hl
   go_wp2
   go_ret
   exact ⟨bR (by have:=HP.out;rw [List.take_of_length_le (Nat.le_of_eq HL.out)] at this;unfold cf;rw [this,HL.out];simp;omega),rfl⟩
theorem nu (z:Int) (w:World):
  Calls Try.prog 28 #[.int .i64 z] w fun e w'=>e= .returned (.bool (!dK z))∧w'=w:=by
 by_cases h0:z=0
 ·have h1:(z != 0)=false:=by simp [h0]
  have h2:dK z=true:=by simp [dK,h0]
  have H2:=Lib.hid h2
  clear h0 h2
  go_enter Try.func28,Try.ntmps28
  go_wp2
  go_ret
  exact ⟨bR (by rw [H2.out];rfl),rfl⟩
 ·have h1:(z != 0)=true:=by simp [h0]
  have h2:dK z=jF z 2 32:=by simp [dK,h0]
  have H2:=Lib.hid h2
  clear h0 h2
  go_enter Try.func28,Try.ntmps28
  go_wp2_with (go_at_call 29;refine (fZ _ _ _ _).mono ?_;rintro e w' ⟨rfl,rfl⟩)
  go_ret
  exact ⟨bR (by rw [H2.out]),rfl⟩
set_option maxRecDepth 100000 in
theorem fK (ao:Option Addr) (n c:Nat) (zs:List Int) (w:World) (h:cY w ao n zs):
  Calls Try.prog 14 #[.slice ao n c] w fun e w'=>e= .returned (.bool (cf zs))∧Below w.heap.size w w':=by
 have hl:=h.1
 have HL:=Lib.hid hl
 clear hl
 have hany:zs.any (fun z=> !dK z)= !(zs.all dK):=by rw [List.any_eq_not_all_not];simp
 have HA:=Lib.hid hany
 clear hany
 by_cases hs:n < 5
 ·have h1:decide ((n:Int) < 5)=true:=by simp;omega
  go_enter Try.func14,Try.ntmps14
  go_wp2_with fail
  refine (jr 28 #[] (fun z=> !dK z) ao n c zs w h (fun _ _=>by rfl) (fun j hj w' hb=>(nu _ w').mono ?_)).mono ?_
  ·rintro e w1 ⟨rfl,rfl⟩;exact ⟨rfl,Below.refl _ _⟩
  rintro e w1 ⟨rfl,hb⟩
  go_wp2
  go_ret
  exact ⟨bR (by rw [HA.out];unfold cf;rw [HL.out];simp [hs]),hb⟩
 ·have h1:decide ((n:Int) < 5)=false:=by simp;omega
  go_enter Try.func14,Try.ntmps14
  go_wp2
  go_ret
  exact ⟨bR (by unfold cf;rw [HL.out];simp;intro _;omega),Below.refl _ _⟩
end Go.Proofs.Ytekbhbcgoadciaa
namespace Go.Proofs.Ytekbhbcgoadciaa
open Go.RowKit
end Go.Proofs.Ytekbhbcgoadciaa
namespace Go.Proofs.Ytekbhbcgoadciaa
open Go.RowKit
def ia (zs:List Int) (i j:Nat):Int:=if j=i + 1 then aC zs i else 2
def fY (zs:List Int) (i j:Nat):List (List Int):=if 0 < ia zs i j then [dw [(i:Int),(j:Int)] (ia zs i j).toNat] else []
def fB (zs:List Int) (i:Nat):Nat→List (List Int)
 | 0=> []
 | d + 1=>fB zs i d ++ fY zs i (i + 1 + d)
def jW (zs:List Int) (N:Nat):Nat→List (List Int)
 | 0=> []
 | k + 1=>jW zs N k ++ fB zs k (N - (k + 1))
def bB (zs:List Int):dy:=(((zs.length + 1:Nat):Int),jW zs (zs.length + 1) (zs.length + 1))
theorem uz (zs:List Int) (i j:Nat):(fY zs i j).length≤1:=by unfold fY;split<;>simp
theorem lf (zs:List Int) (i d:Nat):(fB zs i d).length≤d:=by
 induction d with
 | zero=>simp [fB]
 | succ d ih=>have:=uz zs i (i + 1 + d);simp [fB];omega
theorem qG (zs:List Int) (N k:Nat):(jW zs N k).length≤N * k:=by
 induction k with
 | zero=>simp [jW]
 | succ k ih=>have:=lf zs k (N - (k + 1));simp [jW,Nat.mul_succ];omega
theorem sj {P:Program} {S E:TypeId} {z:Value} {bytes:Nat} (et:ET P S E z bytes) {ops:Array Oper} {o:Oper} {a:Act} {Q:Exit→Act→World→Prop} {w:World} {K:Act→World→Prop} {X:Prop} (hg:o.guard=none) (s x:Operand) (ho:o.op= .call { callee:= .builtin .append,args:= #[s,x],argTypes:= #[S,S] })
  (base:Nat) (ao:Option Addr) (n c:Nat) (xs:List Value) (hs:a.eval s= .slice ao n c) (hown:Own w base E ao n c xs) (u:Value) (xb xc:Nat)
  (hx:a.eval x= .slice (some ⟨xb,0,none⟩) 1 xc) (hc:w.cell? ⟨xb,0,none⟩=some u) (hu:u.oneCell'=true) (hn:n + 1≤4398046511104) (hbase:base≤w.heap.size)
  (h:∀ao' c' w',Own w' base E ao' (n + 1) c' (xs ++ [u])→w.grownBy w' (bk ao)→(bk ao'=bk ao∨bk ao'=some w.heap.size)→K (a.put o.dst (.slice ao' (n + 1) c')) w'):if Region.wanted o (yielded ops a.tmps)=true then Oper.wp P o a w K Q else X:=by
 obtain ⟨i,hi,hz,hsz,hby⟩:=info_parts et.info
 have hw:Region.wanted o (yielded ops a.tmps)=true:=by simp [Region.wanted,hg]
 rw [if_pos hw]
 obtain ⟨v',w',hr,h2,h3,h4,h5⟩:=run_append_own_at (P:=P) w base S o.type E i z 1 bytes et.und hi hz hsz hby (by rw [et.one];rfl) (by omega) (.slice ao n c) n xs hown.1 ⟨xb,0,none⟩ 1 xc [u] rfl
  (by
   intro j u' hu'
   match j,hu' with
   | 0,hu'=>simp at hu';subst hu';rw [Addr.add_lit];exact hc)
  (by intro v hv;simp at hv;subst hv;exact hu) (by simp [maxLen];omega) (by have:=et.small;have:(n + 1) * bytes≤(n + 1) * 32:=Nat.mul_le_mul_left _ this;omega) hbase
 unfold Oper.wp execOp
 simp only [ho,resolve,invoke,builtin,Sem.run_bind,Sem.run_pure,Result.andThen_ok,List.map_toArray,List.map_cons,List.map_nil,hs,hx,hr]
 obtain ⟨g,cap,rfl,hb,hlt⟩:=h2.form (by omega)
 rw [bN] at h3
 refine h _ _ _ ⟨h2,hn⟩ h3 ?_
 rw [bN,bN] at h5
 exact h5
theorem wE {T1 E lo:Nat} {wr w2 w3 w4:World} {ao ao' ao2:Option Addr} {m c n' c' c2:Nat} {us:List Value} {ds:List (List Int)} {zs:List Int}
  (hR:iC (pL T1) wr lo wr.heap.size E ao m c us ds) (hlo:lo≤wr.heap.size) (hb:Below wr.heap.size wr w2) (hu:Own w2 wr.heap.size T1 ao' n' c' (zs.map (Value.int .i64))) (hb3:Below w2.heap.size w2 w3)
  (hown:Own w4 lo E ao2 (m + 1) c2 (us ++ [.slice ao' n' c'])) (hg:w3.grownBy w4 (bk ao)) (hat:bk ao2=bk ao∨bk ao2=some w3.heap.size):
  iC (pL T1) w4 lo w4.heap.size E ao2 (m + 1) c2 (us ++ [.slice ao' n' c']) (ds ++ [zs]):=by
 have hR3:iC (pL T1) w3 lo wr.heap.size E ao m c us ds:=hR.below (dD _) (hb.trans (hb3.mono hb.size))
 have s1:=hb.size
 have s2:=hb3.size
 have s3:=hg.size
 have hub:∀g,bk ao'=some g→wr.heap.size≤g∧g < w2.heap.size:=hu.lt
 have hne:∀g,bk ao'=some g→bk ao≠some g:=fun g h1 h2=>by have:=hub g h1;have:=hR.top g h2;omega
 have hu4:pL T1 w4 (.slice ao' n' c') zs:=(dD T1).loc (w:=w2) ⟨ao',n',c',rfl,hu.mono (Nat.zero_le _)⟩ fun g h=>by
  rw [bN] at h
  have:=hub g h
  rw [hg.block g (by omega) (fun e=>hne g h e.symm)]
  exact hb3.block g this.2
 refine hR3.push (dD _) hown hg hu4 (oH fun g h=>⟨by have:=hub g h;omega,by have:=hub g h;omega⟩) (fun g h=>(hown.lt g h).2) (by omega) ?_ ?_
 ·intro g h
  rcases hat with h1 | h1
  ·exact .inl (h1 ▸ h)
  ·refine .inr fun j u hj e=> ?_
   rw [h1] at h;obtain rfl:=Option.some.inj h
   have:=(hR3.rng j u hj _ e).2
   omega
 ·intro g h
  rw [bN] at h
  have hh:=hub g h
  refine ⟨fun e=> ?_,fun j v hj e=> ?_⟩
  ·rcases hat with h1 | h1
   ·exact hne g h (h1 ▸ e)
   ·rw [h1] at e;have:=Option.some.inj e;omega
  ·have:=(hR3.rng j v hj _ e).2;omega
end Go.Proofs.Ytekbhbcgoadciaa
namespace Go.Proofs.Ytekbhbcgoadciaa
def vo (zs:List Int) (i j:Nat):Nat:=if j=i + 1 then max 1 (aC zs i).toNat else if i=j + 1 then max 1 (aC zs j).toNat else 2
theorem AK (zs:List Int) (i j:Nat):0 < vo zs i j:=by unfold vo;split<;>(try split)<;>omega
theorem rI (zs:List Int) (i j:Nat):vo zs i j=vo zs j i:=by
 unfold vo
 by_cases h:j=i + 1
 ·rw [if_pos h,if_neg (by omega),if_pos h]
 ·by_cases k:i=j + 1
  ·rw [if_neg h,if_pos k,if_pos k]
  ·rw [if_neg h,if_neg k,if_neg k,if_neg h]
theorem wh {zs:List Int} (hp:∀i,i < zs.length→0 < aC zs i) {i j:Nat} (hij:i < j) (hj:j < zs.length + 1):0 < ia zs i j∧(ia zs i j).toNat=vo zs i j:=by
 unfold ia vo
 by_cases h:j=i + 1
 ·have:=hp i (by omega)
  rw [if_pos h,if_pos h];omega
 ·rw [if_neg h,if_neg h,if_neg (by omega)];exact ⟨by decide,rfl⟩
theorem oJ (i j:Nat):∀m,(dw [(i:Int),(j:Int)] m).map Int.toNat=gB i j m
 | 0=>rfl
 | m + 1=>by
  have:dw [(i:Int),(j:Int)] (m + 1)= [(i:Int),(j:Int)] ++ dw [(i:Int),(j:Int)] m:=by unfold dw;rw [List.replicate_succ,List.flatten_cons]
  rw [this,List.map_append,oJ i j m];rfl
theorem ru {zs:List Int} {i:Nat} {w:List Int} :∀ {d:Nat},w∈fB zs i d↔∃e,e < d∧w∈fY zs i (i + 1 + e)
 | 0=>by simp [fB]
 | d + 1=>by
  rw [fB,List.mem_append,ru]
  constructor
  ·rintro (⟨e,h,k⟩ | h)
   ·exact ⟨e,by omega,k⟩
   ·exact ⟨d,by omega,h⟩
  ·rintro ⟨e,h,k⟩
   by_cases hd:e=d
   ·subst hd;exact .inr k
   ·exact .inl ⟨e,by omega,k⟩
theorem zN {zs:List Int} {N:Nat} {w:List Int} :∀ {k:Nat},w∈jW zs N k↔∃i,i < k∧w∈fB zs i (N - (i + 1))
 | 0=>by simp [jW]
 | k + 1=>by
  rw [jW,List.mem_append,zN]
  constructor
  ·rintro (⟨e,h,k⟩ | h)
   ·exact ⟨e,by omega,k⟩
   ·exact ⟨k,by omega,h⟩
  ·rintro ⟨e,h,h2⟩
   by_cases hd:e=k
   ·subst hd;exact .inr h2
   ·exact .inl ⟨e,by omega,h2⟩
theorem vF {zs:List Int} {w:List Int} :w∈(bB zs).2↔∃i j,i < j∧j < zs.length + 1∧0 < ia zs i j∧w=dw [(i:Int),(j:Int)] (ia zs i j).toNat:=by
 show w∈jW zs (zs.length + 1) (zs.length + 1)↔_
 rw [zN]
 constructor
 ·rintro ⟨i,hi,h⟩
  obtain ⟨e,he,h⟩:=ru.1 h
  unfold fY at h
  split at h
  ·rename_i hp
   exact ⟨i,i + 1 + e,by omega,by omega,hp,by simpa using h⟩
  ·simp at h
 ·rintro ⟨i,j,hij,hj,hp,rfl⟩
  refine ⟨i,by omega,ru.2 ⟨j - (i + 1),by omega, ?_⟩⟩
  rw [show i + 1 + (j - (i + 1))=j by omega]
  unfold fY
  rw [if_pos hp];simp
theorem wM {zs:List Int} (hp:∀i,i < zs.length→0 < aC zs i) {W:List (List Int)} (h:pP (zs.length + 1) (bB zs).2 W):vz (vo zs) (zs.length + 1) (jc (jq (zs.length + 1) (bB zs).2 W) (iA (zs.length + 1) (bB zs).2 W)):=by
 have hT:=h.leads
 have hI:=h.sB
 have hl:(jq (zs.length + 1) (bB zs).2 W).length=zs.length + 1:=jt
 have inv:∀g y,g < zs.length + 1→jc (jq (zs.length + 1) (bB zs).2 W) (iA (zs.length + 1) (bB zs).2 W) g (jc (jq (zs.length + 1) (bB zs).2 W) (iA (zs.length + 1) (bB zs).2 W) g y)=y:=fun g y hg=>sU hT hI g y (by rw [hl];exact hg)
 have low:∀i j,i < j→j < zs.length + 1→∀y,cC (jc (jq (zs.length + 1) (bB zs).2 W) (iA (zs.length + 1) (bB zs).2 W)) y (gB i j (vo zs i j))=y:=fun i j hij hj y=>by
  obtain ⟨h1,h2⟩:=wh hp hij hj
  have hm:=vF.2 ⟨i,j,hij,hj,h1,rfl⟩
  rw [←h2,←oJ]
  by_cases hy:y < iA (zs.length + 1) (bB zs).2 W
  ·have:=ik hT (dw [(i:Int),(j:Int)] (ia zs i j).toNat) y (by rw [hl];exact h.r _ hm) hy
   rw [sI h.r h.w h.nf hm hy] at this;omega
  ·exact pe _ _ hy
 refine ⟨inv,fun i j y hi hj hij=> ?_⟩
 rcases Nat.lt_or_gt_of_ne hij with hlt | hlt
 ·exact low i j hlt hj y
 ·have h1:=low j i hlt hi (cC (jc (jq (zs.length + 1) (bB zs).2 W) (iA (zs.length + 1) (bB zs).2 W)) y (gB i j (vo zs i j)))
  have h2:=lW inv (gB i j (vo zs i j)) y fun g hg=>by rcases n7 hg with rfl | rfl<;>assumption
  rw [o7,rI zs i j] at h2
  rw [rI zs i j] at h1 ⊢
  rw [h2] at h1;exact h1.symm
structure wc (zs:List Int) (tw:List Lv):Prop where
 pos:∀i,i < zs.length→0 < aC zs i
 len:tw.length=zs.length + 1
 tb:xB (vo zs) tw=true
 ub:nv (vo zs) tw=true
 sb:pM tw=true
structure yg (n I:Nat) (W:List (List Int)):Prop where
 all:∀w∈W,∃i,i < n∧lE I (2 ^ i)=true∧w= [(i:Int)]
 has:∀i,i < n→lE I (2 ^ i)=true→ [(i:Int)]∈W
theorem rZ:∀(w:List Nat),(w.map fun g:Nat=>(g:Int)).map Int.toNat=w
 | []=>rfl
 | g :: w=>by rw [List.map_cons,List.map_cons,rZ w];rfl
section
variable {zs:List Int} {tw:List Lv} {I:Nat} {W:List (List Int)}
def r7 (zs:List Int) (tw:List Lv) (W:List (List Int)) (x:List Nat):Nat:=lA (jc (jq (zs.length + 1) (bB zs).2 W) (iA (zs.length + 1) (bB zs).2 W)) 0 tw x
theorem zh (D:wc zs tw) (h:pP (zs.length + 1) (bB zs).2 W) (w:List Nat) (x:List Nat) (hw:∀g∈w,g < zs.length + 1) (hx:fR tw x=true):
  r7 zs tw W (cC (tf tw) x w)=cC (jc (jq (zs.length + 1) (bB zs).2 W) (iA (zs.length + 1) (bB zs).2 W)) (r7 zs tw W x) w:=
 tR (AK zs) (by rw [D.len];exact wM D.pos h) D.tb D.ub w x (by rw [D.len];exact hw) hx
theorem rk {n:Nat} {w:List Nat} (hw:∀g∈w,g < n):a9 n (w.map fun g:Nat=>(g:Int)):=by
 intro z hz
 obtain ⟨g,hg,rfl⟩:=List.mem_map.1 hz
 have:=hw g hg
 omega
theorem nT (D:wc zs tw) (h:pP (zs.length + 1) (bB zs).2 W) (w:List Nat) (x:List Nat) (hw:∀g∈w,g < zs.length + 1) (hx:fR tw x=true) (hlt:r7 zs tw W x < iA (zs.length + 1) (bB zs).2 W):
  ((r7 zs tw W (cC (tf tw) x w):Nat):Int)=c8 (jq (zs.length + 1) (bB zs).2 W) (r7 zs tw W x:Nat) (w.map fun g:Nat=>(g:Int)):=by
 rw [zh D h w x hw hx]
 have:=ik h.leads (w.map fun g:Nat=>(g:Int)) _ (by rw [show (jq (zs.length + 1) (bB zs).2 W).length=zs.length + 1 from jt];exact rk hw) hlt
 rw [rZ] at this;exact this
theorem mf:r7 zs tw W (gE tw)=0:=tG _ _ tw
theorem kI:0 < iA (zs.length + 1) (bB zs).2 W:=iZ.1
theorem wc.lg (D:wc zs tw) {w:List Nat} {x:List Nat} (hw:∀g∈w,g < zs.length + 1) (hx:fR tw x=true):fR tw (cC (tf tw) x w)=true:=
 Proofs.Ytekbhbcgoadciaa.lg (jZ tw D.tb).ok w x (by rw [D.len];exact hw) hx
theorem wc.zero (D:wc zs tw):fR tw (gE tw)=true:=vw tw (lL tw D.ub)
theorem wc.reach (D:wc zs tw) {x:List Nat} (hx:fR tw x=true):∃w,(∀g∈w,g < zs.length + 1)∧cC (tf tw) (gE tw) w=x:=by
 obtain ⟨w,h1,h2⟩:=yv tw D.tb D.ub x hx
 exact ⟨w,by rw [←D.len];exact h1,h2⟩
theorem yO (D:wc zs tw) (h:pP (zs.length + 1) (bB zs).2 W) {x:List Nat} (hx:fR tw x=true):r7 zs tw W x < iA (zs.length + 1) (bB zs).2 W:=by
 obtain ⟨w,hw,rfl⟩:=D.reach hx
 have:=nT D h w _ hw D.zero (by rw [mf];exact kI)
 rw [mf] at this
 obtain ⟨y,y1,y2⟩:=j4 h.leads (w:=w.map fun g:Nat=>(g:Int)) (by rw [show (jq (zs.length + 1) (bB zs).2 W).length=zs.length + 1 from jt];exact rk hw) kI
 rw [y1] at this;omega
theorem wc.rev (D:wc zs tw) {w:List Nat} {x:List Nat} (hw:∀g∈w,g < zs.length + 1) (hx:fR tw x=true):cC (tf tw) (cC (tf tw) x w) w.reverse=x:=by
 have H:=jZ tw D.tb
 have e1:=nX H w x (by rw [D.len];exact hw) hx
 have e2:=nX H w.reverse (cC (tf tw) x w) (fun g hg=>by rw [D.len];exact hw g (by simpa using hg)) (D.lg hw hx)
 have:=lW (f:=ta tw) (n:=tw.length) (fun g x _=>rP H g x) w x (by rw [D.len];exact hw)
 rw [e1.1,e2.1] at this;exact this
theorem A5 (D:wc zs tw) (h:pP (zs.length + 1) (bB zs).2 W) (M:yg (zs.length + 1) I W) {x:List Nat} (hx:fR tw x=true):r7 zs tw W x=0↔uk I tw x=true:=by
 have H:=jZ tw D.tb
 constructor
 ·intro h0
  obtain ⟨φ,p0,p1⟩:=vT (X:=List Nat→Prop) (f:=uE tw) (x0:=A0 tw I) (ng:=zs.length + 1) (R:=(bB zs).2) (W:=W)
   (fun g S _=>by funext x;show S (ta tw g (ta tw g x))=S x;rw [rP H])
   (fun w hw=>⟨h.r w hw,fun S=>by
    obtain ⟨i,j,hij,hj,hp,rfl⟩:=vF.1 hw
    rw [oF,oJ,o7]
    funext x
    have:=(yH H).rel j i x (by rw [D.len];exact hj) (by rw [D.len];omega) (by omega)
    rw [rI,←(wh D.pos hij hj).2] at this
    rw [this]⟩)
   (fun w hw=>⟨h.w w hw,by
    obtain ⟨i,hi,hI,rfl⟩:=M.all w hw
    exact xf D.tb D.sb (by rw [D.len];exact hi) hI⟩) h.nf
  obtain ⟨w,hw,rfl⟩:=D.reach hx
  have e:=nT D h w _ hw D.zero (by rw [mf];exact kI)
  rw [h0,mf] at e
  have q:=p1 (w.map fun g:Nat=>(g:Int)) 0 (rk hw) kI
  rw [←e,rZ] at q
  have q:φ 0=cC (uE tw) (φ 0) w:=q
  rw [p0,oF] at q
  have q:=congrFun q (cC (tf tw) (gE tw) w)
  have e1:=nX H w (gE tw) (by rw [D.len];exact hw) D.zero
  have r:=lW (f:=ta tw) (n:=tw.length) (fun g x _=>rP H g x) w (gE tw) (by rw [D.len];exact hw)
  rw [e1.1] at r
  rw [r] at q
  exact (q.mpr ⟨D.zero,tE I tw D.sb (lL tw D.ub)⟩).2
 ·intro hs
  refine sn (n:=zs.length + 1) (fun g hg hI=> ?_) tw (by rw [D.len];exact Nat.le_refl _) D.ub D.sb x hx hs
  have hm:=M.has g hg hI
  have e:=x7 h.r h.w h.nf hm
  unfold jc
  rw [if_pos kI]
  have e:aC (bu (jq (zs.length + 1) (bB zs).2 W) g) 0=0:=e
  rw [e];rfl
theorem xq (D:wc zs tw) (h:pP (zs.length + 1) (bB zs).2 W) (M:yg (zs.length + 1) I W):iA (zs.length + 1) (bB zs).2 W * mG I tw=eP tw:=by
 have hpos:=lL tw D.ub
 have hok:∀x,fR tw (lH tw x)=true:=fun x=>zD tw x hpos
 have hl:(jq (zs.length + 1) (bB zs).2 W).length=zs.length + 1:=jt
 obtain ⟨Φ,hΦ⟩:∃Φ:Nat→Nat,Φ=fun x=>r7 zs tw W (lH tw x):=⟨_,rfl⟩
 have hlt:∀x,x < eP tw→Φ x < iA (zs.length + 1) (bB zs).2 W:=fun x _=>by rw [hΦ];exact yO D h (hok x)
 have act:∀(u:List Int) (i j:Nat),a9 (zs.length + 1) u→c8 (jq (zs.length + 1) (bB zs).2 W) i u=(j:Int)→(pK Φ (eP tw) i).length≤(pK Φ (eP tw) j).length:=fun u i j hu hj=>by
  have hun:∀g∈u.map Int.toNat,g < zs.length + 1:=fun g hg=>by
   obtain ⟨z,hz,rfl⟩:=List.mem_map.1 hg
   have:=hu z hz
   omega
  have hback:(u.map Int.toNat).map (fun g:Nat=>(g:Int))=u:=by
   rw [List.map_map]
   conv=>rhs;rw [←List.map_id u]
   refine List.map_congr_left fun z hz=> ?_
   have:=hu z hz
   show ((z.toNat:Nat):Int)=z
   omega
  refine zG (σ:=fun x=>nw tw (cC (tf tw) (lH tw x) (u.map Int.toNat))) (fun x hx e=> ?_) (fun x y hx hy e=> ?_)
  ·have ho:=D.lg hun (hok x)
   refine ⟨vP tw _ ho, ?_⟩
   rw [hΦ] at e ⊢
   dsimp only at e ⊢
   rw [nH tw _ ho]
   have:=nT D h _ _ hun (hok x) (yO D h (hok x))
   rw [hback,e,hj] at this
   omega
  ·have h1:=D.lg hun (hok x)
   have h2:=D.lg hun (hok y)
   have e1:=congrArg (lH tw) e
   rw [nH tw _ h1,nH tw _ h2] at e1
   have e2:=congrArg (fun z=>cC (tf tw) z (u.map Int.toNat).reverse) e1
   rw [D.rev hun (hok x),D.rev hun (hok y)] at e2
   have e3:=congrArg (nw tw) e2
   rwa [rL tw x hx,rL tw y hy] at e3
 have all:∀j,j < iA (zs.length + 1) (bB zs).2 W→(pK Φ (eP tw) j).length=(pK Φ (eP tw) 0).length:=fun j hj=>by
  obtain ⟨u,u1,u2⟩:=mD h.full j hj
  have u2:c8 (jq (zs.length + 1) (bB zs).2 W) (0:Nat) u=(j:Int):=u2
  have r:=j8 h.leads h.sB u 0 j (by rw [hl];exact u1) kI u2
  exact Nat.le_antisymm (act u.reverse j 0 (fun z hz=>u1 z (by simpa using hz)) r) (act u 0 j u1 u2)
 have hs:=rz (φ:=Φ) (m:=iA (zs.length + 1) (bB zs).2 W) (eP tw) hlt
 rw [k8 all] at hs
 have e:(pK Φ (eP tw) 0).length=mG I tw:=by
  rw [←vN I tw hpos]
  unfold pK
  congr 1
  refine List.filter_congr fun x _=> ?_
  rw [hΦ]
  dsimp only
  have:=A5 D h M (hok x)
  cases hc:uk I tw (lH tw x) with
  | true=>rw [this.2 hc];rfl
  | false=>
   rw [beq_eq_false_iff_ne]
   intro h0
   rw [this.1 h0] at hc;cases hc
 rw [e] at hs;exact hs
end
end Go.Proofs.Ytekbhbcgoadciaa
namespace Go.Proofs.Ytekbhbcgoadciaa
open Go.RowKit
theorem kZ {lo hi:Nat} {a w w':World} {row:Option Nat} (h:eO lo hi a w) (hg:w.grownBy w' row) (hr:∀g,row=some g→a.heap.size≤g):eO lo hi a w':=
 ⟨hg.os.trans h.os,hg.tape.trans h.tape,hg.output.trans h.output,Nat.le_trans h.size hg.size,fun k hk hd=>(hg.block k (Nat.lt_of_lt_of_le hk h.size) (fun e=>by have:=hr k e.symm;omega)).trans (h.block k hk hd)⟩
theorem Src.grown {w w':World} {sb:Nat} {row:Option Nat} (h:Src w sb) (hg:w.grownBy w' row) (hr:∀g,row=some g→sb < g):Src w' sb:=by
 obtain ⟨ao,n,c,k,hh,h1,h2,h3,h4⟩:=h.box
 have hlt:=h1.lt
 refine ⟨ao,n,c,k,hh,(hg.block sb hlt (fun e=>by have:=hr sb e.symm;omega)).trans h1,h2,h3,h4.1,fun hn=> ?_⟩
 obtain ⟨b,off,e,hb,hc⟩:=h4.2 hn
 refine ⟨b,off,e,hb,fun j hj=> ?_⟩
 obtain ⟨x,hx,hcx⟩:=hc j hj
 exact ⟨x,hx,(World.cell?_of_block (hg.block b (World.block_lt_of_cell? w _ hcx) (fun e=>by have:=hr b e.symm;omega))).trans hcx⟩
set_option maxHeartbeats 3200000 in
theorem tB (sb:Nat) (ao:Option Addr) (n c:Nat) (zs:List Int) (w:World) (h:Src w sb) (hz:cY w ao n zs) (hn:1≤n) (hn2:n≤100) (hne:bk ao≠some sb):
  Calls Try.prog 26 #[.pointer (some ⟨sb,0,none⟩), .slice ao n c] w fun e w'=>∃r:Nat,r < n∧e= .returned (.int .i64 (aC zs r))∧Src w' sb∧eO sb (sb + 1) w w':=by
 go_enter Try.func26,Try.ntmps26
 go_wp2_with fail
 refine (ie sb _ _ h (by omega)).mono ?_
 rintro e w2 ⟨r,rfl, -,r2,s2,o2⟩
 have hr:=r2 (by omega)
 have hr2:r < n:=by omega
 have hz2:cY w2 ao n zs:=hz.same fun g hg hlt=>o2.block g hlt (by
  have:g≠sb:=fun e=>by subst e;exact hne hg
  omega)
 obtain ⟨b,off,rfl,hc⟩:=hz2.at_ hr2
 clear r2 hz hz2
 go_wp2
 go_ret
 exact ⟨r,hr2,rfl,s2,o2⟩
end Go.Proofs.Ytekbhbcgoadciaa
namespace Go.Proofs.Ytekbhbcgoadciaa
open Go.RowKit
set_option maxRecDepth 100000 in
set_option maxHeartbeats 400000 in
theorem vY (ao:Option Addr) (n c:Nat) (zs:List Int) (w:World) (h:cY w ao n zs) (hn:n≤1048576):
  Calls Try.prog 50 #[.slice ao n c] w fun e w'=>∃ao' c',e= .returned (.slice ao' n c')∧Own w' w.heap.size 2 ao' n c' (zs.map (Value.int .i64))∧Below w.heap.size w w':=by
 have h2:cY (w.alloc (.cells #[] 2)) ao n zs:=h.below (below_alloc1 _ _)
 have H2:=Lib.hid h2
 clear h2
 go_enter Try.func50,Try.ntmps50
 go_wp2_with (at_builtin;refine lx A3 _ rfl _ _ rfl w.heap.size _ 0 0 [] rfl (Own.jL w _ (Nat.le_refl _)) ao n c zs rfl H2.out (by omega) (by simp) ?_;intro ao2 c2 w2 ho2 hg2 hblk)
 go_ret
 refine ⟨_,_,rfl,by simpa using ho2,(below_alloc1 w _).grown hg2 (by simp) (fun g hg=> ?_)⟩
 simp [bk] at hg;omega
end Go.Proofs.Ytekbhbcgoadciaa
namespace Go.Proofs.Ytekbhbcgoadciaa
open Go.RowKit
end Go.Proofs.Ytekbhbcgoadciaa
namespace Go.Proofs.Ytekbhbcgoadciaa
open Go.RowKit
theorem BF:ET Try.prog 30 24 (.slice none 0 0) 24:=⟨Try.underlying30,by kernel_rfl,rfl,by omega⟩
end Go.Proofs.Ytekbhbcgoadciaa
namespace Go.Proofs.Ytekbhbcgoadciaa
open Go.RowKit
theorem Src.sG {w w':World} {sb:Nat} (h:Src w sb) (hs:∀g,g≤sb→w'.heap[g]? =w.heap[g]?):Src w' sb:=by
 obtain ⟨ao,n,c,k,hh,h1,h2,h3,h4⟩:=h.box
 refine ⟨ao,n,c,k,hh,(hs sb (Nat.le_refl _)).trans h1,h2,h3,h4.1,fun hn=> ?_⟩
 obtain ⟨b,off,e,hb,hc⟩:=h4.2 hn
 refine ⟨b,off,e,hb,fun j hj=> ?_⟩
 obtain ⟨x,hx,hcx⟩:=hc j hj
 exact ⟨x,hx,(World.cell?_of_block (hs b (by omega))).trans hcx⟩
theorem Own.tS {w w':World} {base E n c lo hi:Nat} {ao:Option Addr} {xs:List Value} (h:Own w base E ao n c xs) (ho:eO lo hi w w') (hb:hi≤base):Own w' base E ao n c xs:=
 h.same fun g hg=>ho.block g (h.lt g hg).2 (.inr (by have:=(h.lt g hg).1;omega))
theorem fV {w w':World} {lo hi:Nat} (h:Below w.heap.size w w'):eO lo hi w w':=⟨h.os,h.tape,h.output,h.size,fun k hk _=>h.block k hk⟩
def mF (w:World):List Obj→World
 | []=>w
 | o :: r=>mF (w.alloc o) r
theorem jC:∀(os:List Obj) (w:World),Below w.heap.size w (mF w os)
 | [],w=>Below.refl _ _
 | o :: r,w=>(below_alloc1 w o).trans ((jC r (w.alloc o)).mono (by simp))
theorem ln:∀(os:List Obj) (w:World) (j:Nat),j < os.length→(mF w os).heap[w.heap.size + j]? =os[j]?
 | [],w,j,h=>by simp at h
 | o :: r,w,0,h=>by
  rw [mF,Nat.add_zero,(jC r (w.alloc o)).block w.heap.size (by simp)]
  exact heap_alloc_new w o
 | o :: r,w,j + 1,h=>by
  have:=ln r (w.alloc o) j (by simpa using h)
  rw [mF,show w.heap.size + (j + 1)=(w.alloc o).heap.size + j by simp;omega,this]
  simp
def gK (h:Nat) (LL:List (List Int)):List Obj:=
 LL.map (fun zs=>Obj.cells (zs.map (Value.int .i64)).toArray 2) ++ [Obj.cells ((List.range LL.length).map fun j=>Value.slice (some ⟨h + j,0,none⟩) (bu LL j).length (bu LL j).length).toArray 24]
structure uU (w wr:World) (g0:Nat) (LL:List (List Int)):Prop where
 cell:∀j,j < LL.length→wr.cell? ⟨g0,j,none⟩=some (.slice (some ⟨w.heap.size + j,0,none⟩) (bu LL j).length (bu LL j).length)
 row:∀j,j < LL.length→cY wr (some ⟨w.heap.size + j,0,none⟩) (bu LL j).length (bu LL j)
 bel:Below w.heap.size w wr
theorem wa {w W:World} {LL:List (List Int)} (hW:W=mF w (gK w.heap.size LL)) (hs:∀zs∈LL,zs.length≤100):uU w W (w.heap.size + LL.length) LL:=by
 subst hW
 have hl:(gK w.heap.size LL).length=LL.length + 1:=by simp [gK]
 refine ⟨fun j hj=> ?_,fun j hj=> ?_,jC _ _⟩
 ·have h1:=ln (gK w.heap.size LL) w LL.length (by omega)
  have h2:(gK w.heap.size LL)[LL.length]? =some (Obj.cells ((List.range LL.length).map fun j=>Value.slice (some ⟨w.heap.size + j,0,none⟩) (bu LL j).length (bu LL j).length).toArray 24):=by
   unfold gK
   rw [List.getElem?_append_right (by simp)];simp
  rw [h2] at h1
  rw [cell_of_row _ _ _ _ _ (0,0) h1]
  simp [hj]
 ·have h1:=ln (gK w.heap.size LL) w j (by omega)
  have h2:(gK w.heap.size LL)[j]? =some (Obj.cells ((bu LL j).map (Value.int .i64)).toArray 2):=by
   unfold gK
   rw [List.getElem?_append_left (by simpa using hj),List.getElem?_map,List.getElem?_eq_getElem hj,lV hj];rfl
  rw [h2] at h1
  refine ⟨rfl,by have:=hs _ (fD hj);omega,fun _=>⟨_,0,rfl,fun i hi=> ?_⟩⟩
  rw [Nat.zero_add,cell_of_row _ _ _ _ _ (0,0) h1]
  simp [List.getElem?_eq_getElem hi,cG hi]
theorem uU.only {w wr w':World} {g0 sb:Nat} {LL:List (List Int)} (h:uU w wr g0 LL) (hsb:sb < w.heap.size) (hg:w.heap.size≤g0) (ho:eO sb (sb + 1) wr w'):(∀j,j < LL.length→w'.cell? ⟨g0,j,none⟩=some (.slice (some ⟨w.heap.size + j,0,none⟩) (bu LL j).length (bu LL j).length))∧(∀j,j < LL.length→cY w' (some ⟨w.heap.size + j,0,none⟩) (bu LL j).length (bu LL j)):=by
 refine ⟨fun j hj=> ?_,fun j hj=> ?_⟩
 ·have:=h.cell j hj
  rw [World.cell?_of_block (ho.block g0 (World.block_lt_of_cell? _ _ this) (.inr (by omega)))];exact this
 ·exact (h.row j hj).same fun g hg hl=>ho.block g hl (.inr (by simp [bk] at hg;omega))
theorem nQ (w:World) (zs:List Int) (hn:zs.length≤100):cY (w.alloc (.cells (zs.map (Value.int .i64)).toArray 2)) (some ⟨w.heap.size,0,none⟩) zs.length zs:=
 ⟨rfl,by omega,fun _=>⟨_,0,rfl,fun j hj=>by
  rw [Nat.zero_add,cell_of_row _ _ _ _ _ (0,0) (heap_alloc_new w _)]
  simp [List.getElem?_eq_getElem hj,cG hj]⟩⟩
theorem qh {P:World→Prop} {w0:World} {Q:World→Prop} (h:Q w0) (k:∀W,Q W→P W):P w0:=k w0 h
def fk:List (List Int):= [[], [3], [4], [5], [3,3], [4,3], [3,4], [5,3], [3,5], [2], [2,3], [3,2], [6,2], [3,3,3], [2,2], [7], [3,2,3], [4,2,3], [3,3,4], [4,3,3], [2,3,3], [3,3,2], [2,2,2,2], [3,2,2]]
def iw:List (List Int):= [[0], [4,4], [3,6], [6,3], [4,3,4], [3,4,3], [3,4,3,3], [3,3,5], [5,3,3], [3,3,3,3], [4,3,3,4], [3,3,3,4], [5,5], [3,7], [0,3], [5,3,3,3], [2,0], [4,4,2], [5,3,2]]
theorem vh {zs:List Int} (h:cf zs=true):zs.length≤4:=by unfold cf at h;rw [Bool.and_eq_true] at h;have:=of_decide_eq_true h.2;omega
def qZ (z:Int):Bool:=z == 0 || (decide (2≤z) && decide (z≤6))
def AQ (zs:List Int):Prop:=zs∈fk∨zs∈iw∨(zs.length≤3∧zs.all qZ=true)
theorem xj {zs:List Int} {z:Int} (h:zs.all qZ=true) (hz:qZ z=true):(zs ++ [z]).all qZ=true:=by rw [List.all_append,h];simp [hz]
theorem nB {zs:List Int} (h:AQ zs):zs.length≤4:=by
 rcases h with h | h | h
 ·exact (show ∀zs∈fk,zs.length≤4 from by decide) zs h
 ·exact (show ∀zs∈iw,zs.length≤4 from by decide) zs h
 ·omega
def BH (w:World) (sb:Nat) (e:Ending) (w':World):Prop:=∃(ao:Option Addr) (n c:Nat) (zs:List Int),e= .returned (.slice ao n c)∧AQ zs∧Own w' w.heap.size 2 ao n c (zs.map (Value.int .i64))∧Src w' sb∧eO sb (sb + 1) w w'
set_option maxRecDepth 100000 in
set_option maxHeartbeats 6400000 in
theorem p5 (sb:Nat) (w:World) (h:Src w sb) (hsb:sb < w.heap.size):Calls Try.prog 25 #[.pointer (some ⟨sb,0,none⟩)] w (BH w sb):=by
 go_enter Try.func25,Try.ntmps25
 go_upto_region 2 with fail
 refine qh (P:=fun W=>Code.wp _ _ _ _ W) (Q:=fun W=>uU w W (w.heap.size + 24) fk) (wa (LL:=fk) rfl (by decide)) fun W hW=> ?_
 have hW:uU w W (w.heap.size + 1 + 1 + 1 + 1 + 1 + 1 + 1 + 1 + 1 + 1 + 1 + 1 + 1 + 1 + 1 + 1 + 1 + 1 + 1 + 1 + 1 + 1 + 1 + 1) fk:=hW
 have hb:=hW.bel
 have hbs:=hb.size
 have h1:Src W sb:=h.sG fun g hg=>hb.block g (by omega)
 have hg0:w.heap.size≤w.heap.size + 1 + 1 + 1 + 1 + 1 + 1 + 1 + 1 + 1 + 1 + 1 + 1 + 1 + 1 + 1 + 1 + 1 + 1 + 1 + 1 + 1 + 1 + 1 + 1:=by omega
 have hgl:w.heap.size + 1 + 1 + 1 + 1 + 1 + 1 + 1 + 1 + 1 + 1 + 1 + 1 + 1 + 1 + 1 + 1 + 1 + 1 + 1 + 1 + 1 + 1 + 1 + 1 < W.heap.size:=World.block_lt_of_cell? _ _ (hW.cell 0 (by decide))
 have hlen:fk.length=24:=rfl
 generalize w.heap.size + 1 + 1 + 1 + 1 + 1 + 1 + 1 + 1 + 1 + 1 + 1 + 1 + 1 + 1 + 1 + 1 + 1 + 1 + 1 + 1 + 1 + 1 + 1 + 1=g0 at *
 have hO0:eO sb (sb + 1) w W:=⟨hb.os,hb.tape,hb.output,hb.size,fun k hk _=>hb.block k hk⟩
 go_wp2_with fail
 refine (ie sb _ _ h1 (by omega)).mono ?_
 rintro e w2 ⟨r,rfl, -,r2,s2,o2⟩
 have hr:=r2 (by omega)
 obtain ⟨c2,i2⟩:=hW.only hsb hg0 o2
 have O2:=hO0.trans o2
 clear r2 hW hb h1 hO0
 have cases6:r=0∨r=1∨(2≤r∧r < 6):=by omega
 rcases cases6 with rfl | rfl | ⟨hr2,hr6⟩
 ·have z2:=O2.size
  clear c2 i2 hlen
  go_upto_region 5 with fail
  refine qh (P:=fun W=>Code.wp _ _ _ _ W) (Q:=fun W=>uU w2 W (w2.heap.size + 19) iw) (wa (LL:=iw) rfl (by decide)) fun W5 hW=> ?_
  have hW:uU w2 W5 (w2.heap.size + 1 + 1 + 1 + 1 + 1 + 1 + 1 + 1 + 1 + 1 + 1 + 1 + 1 + 1 + 1 + 1 + 1 + 1 + 1) iw:=hW
  have hb:=hW.bel
  have hbs5:=hb.size
  have h5:Src W5 sb:=s2.sG fun g hg=>hb.block g (by omega)
  have hg5:w2.heap.size≤w2.heap.size + 1 + 1 + 1 + 1 + 1 + 1 + 1 + 1 + 1 + 1 + 1 + 1 + 1 + 1 + 1 + 1 + 1 + 1 + 1:=by omega
  have hgl5:w2.heap.size + 1 + 1 + 1 + 1 + 1 + 1 + 1 + 1 + 1 + 1 + 1 + 1 + 1 + 1 + 1 + 1 + 1 + 1 + 1 < W5.heap.size:=World.block_lt_of_cell? _ _ (hW.cell 0 (by decide))
  have hlen:iw.length=19:=rfl
  generalize w2.heap.size + 1 + 1 + 1 + 1 + 1 + 1 + 1 + 1 + 1 + 1 + 1 + 1 + 1 + 1 + 1 + 1 + 1 + 1 + 1=g5 at *
  have O5:=O2.trans (fV hb)
  clear hb
  go_wp2_with fail
  refine (ie sb _ _ h5 (by omega)).mono ?_
  rintro e w3 ⟨q,rfl, -,q2,s3,o3⟩
  have hq:=q2 (by omega)
  obtain ⟨c2,i2⟩:=hW.only (by omega) hg5 o3
  have c3:=c2 q (by omega)
  have i3:=i2 q (by omega)
  have hd:AQ (bu iw q):= .inr (.inl (fD (zss:=iw) (k:=q) (by omega)))
  have hln:(bu iw q).length≤1048576:=by have:=nB hd;omega
  have O3:=O5.trans o3
  have s30:=O3.size
  clear q2 c2 i2 o3 O5 O2 s2 hW
  generalize bu iw q=zs at *
  go_wp2_with fail
  refine (vY _ _ _ zs _ i3 hln).mono ?_
  rintro e w4 ⟨a4,c4,rfl,o4,b4⟩
  go_wp2
  go_ret
  exact ⟨_,_,_,zs,rfl,hd,o4.mono s30,s3.sG fun g hg=>b4.block g (by omega),O3.trans (fV b4)⟩
 ·have z2:=O2.size
  clear c2 i2 hlen
  have s2':Src (w2.alloc (.cells #[] 2)) sb:=s2.sG fun g hg=>Below.heap_alloc w2 _ g (by omega)
  have P2:Own (w2.alloc (.cells #[] 2)) w.heap.size 2 (some ⟨w2.heap.size,0,none⟩) 0 0 []:=Own.jL w2 2 z2
  have O2':eO sb (sb + 1) w (w2.alloc (.cells #[] 2)):=O2.trans (fV (below_alloc1 _ _))
  clear O2 s2
  go_wp2_with fail
  refine (ie sb _ _ s2' (by omega)).mono ?_
  rintro e w3 ⟨m,rfl, -,q2,s3,o3⟩
  have hm:=q2 (by omega)
  have P3:=P2.tS o3 (by omega)
  have O3:=O2'.trans o3
  clear q2 s2' P2 o3 O2'
  go_wp2_with fail
  go_loopw [5,6] (fun ov kv wr=>∃(k a:Nat) (ao:Option Addr) (c:Nat) (zs:List Int),kv= .int .i64 k∧ov= .slice ao a c∧a + k≤3∧zs.all qZ=true∧Own wr w.heap.size 2 ao a c (zs.map (Value.int .i64))∧Src wr sb∧eO sb (sb + 1) w wr) (fun _ kv _=>(intOf kv).toNat)
  case atStart=>exact ⟨m,0,_,_, [],rfl,rfl,by omega,rfl,P3,s3,O3⟩
  case round=>
   clear P3 s3 O3
   obtain ⟨k,a,ao,c,zs,rfl,rfl,hak,hz,ho,hs,hO⟩:=hrel
   have hsz:=hO.size
   have hol:=ho.lt
   by_cases hk:0 < k
   ·have pick:∀r,r < 7→qZ (aC [2,3,3,4,5,6,0] r)=true:=by decide
    have iL:cY (wr.alloc (.cells #[.int .i64 2, .int .i64 3, .int .i64 3, .int .i64 4, .int .i64 5, .int .i64 6, .int .i64 0] 2)) (some ⟨wr.heap.size,0,none⟩) 7 [2,3,3,4,5,6,0]:=nQ wr [2,3,3,4,5,6,0] (by decide)
    have s4:Src (wr.alloc (.cells #[.int .i64 2, .int .i64 3, .int .i64 3, .int .i64 4, .int .i64 5, .int .i64 6, .int .i64 0] 2)) sb:=hs.sG fun g hg=>Below.heap_alloc wr _ g (by omega)
    have P4:=ho.alloc (.cells #[.int .i64 2, .int .i64 3, .int .i64 3, .int .i64 4, .int .i64 5, .int .i64 6, .int .i64 0] 2)
    have O4:=hO.trans (fV (lo:=sb) (hi:=sb + 1) (below_alloc1 wr (.cells #[.int .i64 2, .int .i64 3, .int .i64 3, .int .i64 4, .int .i64 5, .int .i64 6, .int .i64 0] 2)))
    have HP:=Lib.hid pick
    clear pick hs ho hO
    go_wp2_with (first | (go_at_call 26;refine (tB sb _ 7 _ _ _ s4 iL (by omega) (by omega) (by simp [bk];omega)).mono ?_;rintro e w5 ⟨q,hq,rfl,s5,o5⟩;have P5:=Lib.hid (P4.tS o5 (by omega));have O5:=O4.trans o5;have z5:=O5.size) | (at_builtin;refine lr A3 _ rfl _ _ rfl w.heap.size ao a c _ rfl P5.out (.int .i64 (aC [2,3,3,4,5,6,0] q)) rfl rfl (by omega) (by omega) ?_;intro ao2 c2 w6 ho2 hg2 hblk))
    have HO:=Lib.hid ho2
    have s6:=s5.grown hg2 (fun g hg=>by have:=(hol g hg).1;omega)
    have O6:=kZ O5 hg2 (fun g hg=>(hol g hg).1)
    have HL:=Lib.hid (xj hz (HP.out q hq))
    clear ho2 hblk s5 O5 hg2 hz
    generalize aC [2,3,3,4,5,6,0] q=z at *
    go_wp2
    go_roundw
    case rel=>exact ⟨k - 1,a + 1,ao2,c2,zs ++ [z],by go_num,rfl,by omega,HL.out,by rw [List.map_append];exact HO.out,s6,O6⟩
    case measure=>simp [intOf];omega
   ·obtain rfl:k=0:=by omega
    have hl:zs.length=a:=by have:=ho.len;simpa using this
    have hdg:AQ zs:= .inr (.inr ⟨by omega,hz⟩)
    go_wp2
    go_ret
    exact ⟨_,_,_,zs,rfl,hdg,ho,hs,hO⟩
 ·have e0:((r:Int) == 0)=false:=by rw [beq_eq_false_iff_ne];omega
  have e1:((r:Int) == 1)=false:=by rw [beq_eq_false_iff_ne];omega
  go_wp2_with fail
  refine (ie sb _ _ s2 (by omega)).mono ?_
  rintro e w3 ⟨q,rfl, -,q2,s3,o3⟩
  have hq:=q2 (by omega)
  have c3:w3.cell? ⟨g0,q,none⟩=some (.slice (some ⟨w.heap.size + q,0,none⟩) (bu fk q).length (bu fk q).length):=by
   have:=c2 q (by omega)
   rw [World.cell?_of_block (o3.block g0 (World.block_lt_of_cell? _ _ this) (.inr (by omega)))];exact this
  have i3:cY w3 (some ⟨w.heap.size + q,0,none⟩) (bu fk q).length (bu fk q):=(i2 q (by omega)).same fun g hg hl=>o3.block g hl (.inr (by simp [bk] at hg;omega))
  have hd:AQ (bu fk q):= .inl (fD (zss:=fk) (k:=q) (by omega))
  have hln:(bu fk q).length≤1048576:=by have:=nB hd;omega
  have O3:=O2.trans o3
  have s30:=O3.size
  clear q2 c2 i2 o3 o2 O2 s2
  generalize bu fk q=zs at *
  go_wp2_with fail
  refine (vY _ _ _ zs _ i3 hln).mono ?_
  rintro e w4 ⟨a4,c4,rfl,o4,b4⟩
  go_wp2
  go_ret
  exact ⟨_,_,_,zs,rfl,hd,o4.mono s30,s3.sG fun g hg=>b4.block g (by omega),O3.trans ⟨b4.os,b4.tape,b4.output,b4.size,fun k hk _=>b4.block k hk⟩⟩
def CJ (zs:List Int):Prop:=AQ zs∨(∃(ys:List Int) (z:Int),AQ ys∧z∈([1, -1,33]:List Int)∧zs=ys ++ [z])∨∃ys:List Int,AQ ys∧zs=ys ++ [2,2,2]
def By (w:World) (sb:Nat) (e:Ending) (w':World):Prop:=∃(ao:Option Addr) (n c:Nat) (zs:List Int),e= .returned (.slice ao n c)∧CJ zs∧Own w' w.heap.size 2 ao n c (zs.map (Value.int .i64))∧Src w' sb∧eO sb (sb + 1) w w'
set_option maxHeartbeats 3200000 in
theorem rJ (sb:Nat) (w:World) (h:Src w sb) (hsb:sb < w.heap.size):Calls Try.prog 12 #[.pointer (some ⟨sb,0,none⟩)] w (By w sb):=by
 go_enter Try.func12,Try.ntmps12
 go_wp2_with fail
 refine (p5 sb _ h hsb).mono ?_
 rintro e w1 ⟨ao,n,c,zs,rfl,hd,o1,s1,O1⟩
 have z1:=O1.size
 have hf:=nB hd
 have hn:zs.length=n:=by have:=o1.len;simpa using this
 have HD:=Lib.hid hd
 clear hd
 go_wp2_with fail
 refine (ie sb _ _ s1 (by omega)).mono ?_
 rintro e w2 ⟨r,rfl, -, -,s2,o2⟩
 have O2:=O1.trans o2
 have z2:=O2.size
 have P2:=o1.tS o2 (by omega)
 have hol:=P2.lt
 clear o1 s1 O1 o2
 by_cases h0:r=0
 ·have e0:((r:Int) == 0)=true:=by rw [h0];rfl
  have iL:cY (w2.alloc (.cells #[.int .i64 1, .int .i64 (-1), .int .i64 33] 2)) (some ⟨w2.heap.size,0,none⟩) 3 [1, -1,33]:=nQ w2 [1, -1,33] (by decide)
  have s4:Src (w2.alloc (.cells #[.int .i64 1, .int .i64 (-1), .int .i64 33] 2)) sb:=s2.sG fun g hg=>Below.heap_alloc w2 _ g (by omega)
  have P4:=P2.alloc (.cells #[.int .i64 1, .int .i64 (-1), .int .i64 33] 2)
  have O4:=O2.trans (fV (lo:=sb) (hi:=sb + 1) (below_alloc1 w2 (.cells #[.int .i64 1, .int .i64 (-1), .int .i64 33] 2)))
  clear s2 P2 O2 h0
  go_wp2_with (first | (go_at_call 26;refine (tB sb _ 3 _ _ _ s4 iL (by omega) (by omega) (by simp [bk];omega)).mono ?_;rintro e w5 ⟨q,hq,rfl,s5,o5⟩;have P5:=Lib.hid (P4.tS o5 (by omega));have O5:=O4.trans o5;have z5:=O5.size) | (at_builtin;refine lr A3 _ rfl _ _ rfl w.heap.size ao n c _ rfl P5.out (.int .i64 (aC [1, -1,33] q)) rfl rfl (by omega) (by omega) ?_;intro ao2 c2 w6 ho2 hg2 hblk))
  have HO:=Lib.hid ho2
  have s6:=s5.grown hg2 (fun g hg=>by have:=(hol g hg).1;omega)
  have O6:=kZ O5 hg2 (fun g hg=>(hol g hg).1)
  clear ho2 hblk s5 O5 hg2
  have HZ:=Lib.hid ((show ∀r,r < 3→aC [1, -1,33] r∈([1, -1,33]:List Int) from by decide) q hq)
  generalize aC [1, -1,33] q=z at *
  go_wp2
  go_ret
  exact ⟨_,_,_,zs ++ [z],rfl, .inr (.inl ⟨zs,z,HD.out,HZ.out,rfl⟩),by rw [List.map_append];exact HO.out,s6,O6⟩
 ·have e0:((r:Int) == 0)=false:=by rw [beq_eq_false_iff_ne];omega
  by_cases h1:r=1
  ·have e1:((r:Int) == 1)=true:=by rw [h1];rfl
   have iL:cY (w2.alloc (.cells #[.int .i64 2, .int .i64 2, .int .i64 2] 2)) (some ⟨w2.heap.size,0,none⟩) 3 [2,2,2]:=nQ w2 [2,2,2] (by decide)
   have P4:=Lib.hid (P2.alloc (.cells #[.int .i64 2, .int .i64 2, .int .i64 2] 2))
   have s4:Src (w2.alloc (.cells #[.int .i64 2, .int .i64 2, .int .i64 2] 2)) sb:=s2.sG fun g hg=>Below.heap_alloc w2 _ g (by omega)
   have O4:=O2.trans (fV (lo:=sb) (hi:=sb + 1) (below_alloc1 w2 (.cells #[.int .i64 2, .int .i64 2, .int .i64 2] 2)))
   have z4:=O4.size
   clear s2 P2 O2 h0 h1
   go_wp2_with (at_builtin;refine lx A3 _ rfl _ _ rfl w.heap.size ao n c _ rfl P4.out _ 3 3 _ rfl iL (by omega) z4 ?_;intro ao2 c2 w6 ho2 hg2 hblk)
   have HO:=Lib.hid ho2
   have s6:=s4.grown hg2 (fun g hg=>by have:=(hol g hg).1;omega)
   have O6:=kZ O4 hg2 (fun g hg=>(hol g hg).1)
   clear ho2 hblk s4 O4 hg2
   go_wp2
   go_ret
   exact ⟨_,_,_,zs ++ [2,2,2],rfl, .inr (.inr ⟨zs,HD.out,rfl⟩),by rw [List.map_append];exact HO.out,s6,O6⟩
  ·have e1:((r:Int) == 1)=false:=by rw [beq_eq_false_iff_ne];omega
   go_wp2
   go_ret
   exact ⟨_,_,_,zs,rfl, .inl HD.out,P2,s2,O2⟩
end Go.Proofs.Ytekbhbcgoadciaa
namespace Go.Proofs.Ytekbhbcgoadciaa
def k7 (mask g:Nat):Bool:=mask / 2 ^ g % 2 == 1
abbrev xe:=List Bool×List Int
def Da (T:List (List Int)) (mask c:Nat) (s:xe) (g:Nat):xe:=if k7 mask g=true∧Dj s.1 (Dq T c g)=false then (s.1.set (Dq T c g) true,s.2 ++ [(Dq T c g:Int)]) else s
def Dv (T:List (List Int)) (mask ng c:Nat) (s:xe):xe:=(List.range ng).foldl (Da T mask c) s
def Bg (T:List (List Int)) (mask ng:Nat):Nat→Nat→xe→xe
 | 0,_,s=>s
 | f + 1,i,s=>if i < s.2.length then Bg T mask ng f (i + 1) (Dv T mask ng (aC s.2 i).toNat s) else s
def mStart (n:Nat):xe:=((List.replicate n false).set 0 true, [0])
def mem (T:List (List Int)) (ng n mask:Nat):xe:=Bg T mask ng (n + 1) 0 (mStart n)
structure DD (n:Nat) (s:xe):Prop where
 l:s.1.length=n
 q:∀k,k < s.2.length→∃d:Nat,aC s.2 k=(d:Int)∧d < n∧Dj s.1 d=true
 wm:C2 s.1=s.2.length
 cov:∀d,d < n→Dj s.1 d=true→∃k,k < s.2.length∧aC s.2 k=(d:Int)
theorem DD.le {n:Nat} {s:xe} (h:DD n s):s.2.length≤n:=by
 have:=AJ s.1;rw [h.wm,h.l] at this;exact this
structure qU (s s':xe):Prop where
 len:s.2.length≤s'.2.length
 pre:∀k,k < s.2.length→aC s'.2 k=aC s.2 k
 met:∀d,Dj s.1 d=true→Dj s'.1 d=true
theorem qU.refl (s:xe):qU s s:=⟨Nat.le_refl _,fun _ _=>rfl,fun _ h=>h⟩
theorem qU.trans {a b c:xe} (h:qU a b) (k:qU b c):qU a c:=
 ⟨Nat.le_trans h.len k.len,fun i hi=>(k.pre i (Nat.lt_of_lt_of_le hi h.len)).trans (h.pre i hi),fun d hd=>k.met d (h.met d hd)⟩
section
variable {T:List (List Int)} {ng n mask:Nat}
end
end Go.Proofs.Ytekbhbcgoadciaa
namespace Go.Proofs.Ytekbhbcgoadciaa
abbrev dP:=List (Nat×List Int)
def db (ps:dP) (k:Nat):Nat×List Int:=ps.getD k (0, [])
theorem lF {ps:dP} {k:Nat} (h:k < ps.length):db ps k=ps[k]:=by simp [db,h]
theorem kr {ps:dP} {k:Nat} (h:k < ps.length):db ps k∈ps:=by rw [lF h];exact List.getElem_mem h
def jn (zs:List Int) (mask i:Nat):Bool:=decide (0 < i) && (k7 mask (i - 1) && !(aC zs (i - 1) == 2))
def vJ (ps:dP) (i:Nat) (z:Int):dP:=ps.set (ps.length - 1) ((db ps (ps.length - 1)).1 ||| 2 ^ i,(db ps (ps.length - 1)).2 ++ [z])
def oW (zs:List Int) (mask:Nat) (ps:dP) (i:Nat):dP:=if k7 mask i then (if jn zs mask i then vJ ps i (aC zs (i - 1)) else ps ++ [(2 ^ i, [])]) else ps
def rC (zs:List Int) (mask n:Nat):dP:=(List.range n).foldl (oW zs mask) []
def comps (zs:List Int) (mask:Nat):dP:=rC zs mask (zs.length + 1)
theorem px (zs:List Int) (mask i:Nat):rC zs mask (i + 1)=oW zs mask (rC zs mask i) i:=by unfold rC;rw [List.range_succ,List.foldl_append];rfl
def fW (ps:dP):Nat:=(ps.map fun p=>p.2.length + 1).sum
theorem n6 (a b:dP):fW (a ++ b)=fW a + fW b:=by simp [fW]
theorem tY:∀(ps:dP) (k:Nat) (p:Nat×List Int),k < ps.length→fW (ps.set k p) + ((db ps k).2.length + 1)=fW ps + (p.2.length + 1)
 | [],k,_,h=>by simp at h
 | a :: r,0,p,_=>by simp [fW,db];omega
 | a :: r,k + 1,p,h=>by
  have:=tY r k p (by simpa using h)
  simp [fW,db] at this ⊢
  omega
theorem nD:∀ {ps:dP} {p:Nat×List Int},p∈ps→p.2.length + 1≤fW ps
 | a :: r,p,h=>by
  rcases List.mem_cons.1 h with rfl | h
  ·simp [fW]
  ·have:=nD h;simp [fW] at this ⊢;omega
theorem iu:∀(ps:dP),ps.length≤fW ps
 | []=>by simp [fW]
 | a :: r=>by have:=iu r;simp [fW] at this ⊢;omega
structure Dy (zs:List Int) (mask i:Nat) (ps:dP):Prop where
 lt:∀p∈ps,p.1 < 2 ^ i
 lab:∀p∈ps,∀z∈p.2,z∈zs∧z≠2
 sum:fW ps≤i
 ne:0 < i→k7 mask (i - 1)=true→0 < ps.length
theorem CF {a i:Nat} (h:a < 2 ^ i):a ||| 2 ^ i < 2 ^ (i + 1):=Nat.or_lt_two_pow (Nat.lt_of_lt_of_le h (Nat.pow_le_pow_right (by decide) (by omega))) (Nat.pow_lt_pow_right (by decide) (by omega))
theorem r9 {zs:List Int} {mask i:Nat} (h:jn zs mask i=true):0 < i∧k7 mask (i - 1)=true∧aC zs (i - 1)≠2:=by
 unfold jn at h;simpa using h
theorem rq (zs:List Int) (mask:Nat):∀i,i≤zs.length + 1→Dy zs mask i (rC zs mask i)
 | 0,_=>⟨fun p hp=>(nomatch hp),fun p hp=>(nomatch hp),by simp [rC,fW],fun h=>absurd h (by omega)⟩
 | i + 1,hi=>by
  have h:=rq zs mask i (by omega)
  have h2:2 ^ i < 2 ^ (i + 1):=Nat.pow_lt_pow_right (by decide) (by omega)
  rw [px]
  generalize rC zs mask i=ps at *
  unfold oW
  split
  ·split
   ·rename_i hj
    obtain ⟨j1,j2,j3⟩:=r9 hj
    have hne:=h.ne j1 j2
    have hk:ps.length - 1 < ps.length:=by omega
    have hmem:=kr hk
    unfold vJ
    refine ⟨fun p hp=> ?_,fun p hp=> ?_, ?_,fun _ _=>by rw [List.length_set];exact hne⟩
    ·rcases List.mem_or_eq_of_mem_set hp with hp | rfl
     ·exact Nat.lt_trans (h.lt p hp) h2
     ·exact CF (h.lt _ hmem)
    ·rcases List.mem_or_eq_of_mem_set hp with hp | rfl
     ·exact h.lab p hp
     ·intro z hz
      rcases List.mem_append.1 hz with hz | hz
      ·exact h.lab _ hmem z hz
      ·obtain rfl:z=aC zs (i - 1):=by simpa using hz
       exact ⟨eF (by omega),j3⟩
    ·have:=tY ps (ps.length - 1) ((db ps (ps.length - 1)).1 ||| 2 ^ i,(db ps (ps.length - 1)).2 ++ [aC zs (i - 1)]) hk
     have h3:=h.sum
     simp only [List.length_append,List.length_singleton] at this
     omega
   ·refine ⟨fun p hp=> ?_,fun p hp=> ?_, ?_,fun _ _=>by simp⟩
    ·rcases List.mem_append.1 hp with hp | hp
     ·exact Nat.lt_trans (h.lt p hp) h2
     ·obtain rfl:p=(2 ^ i, []):=by simpa using hp
      exact h2
    ·rcases List.mem_append.1 hp with hp | hp
     ·exact h.lab p hp
     ·obtain rfl:p=(2 ^ i, []):=by simpa using hp
      intro z hz;cases hz
    ·rw [n6];have h3:=h.sum;simp [fW] at h3 ⊢;omega
  ·rename_i hb
   refine ⟨fun p hp=>Nat.lt_trans (h.lt p hp) h2,h.lab,by have:=h.sum;omega,fun _ h'=> ?_⟩
   rw [Nat.add_sub_cancel] at h';exact absurd h' hb
theorem jh (zs:List Int) (mask:Nat):Dy zs mask (zs.length + 1) (comps zs mask):=rq zs mask _ (Nat.le_refl _)
def bA (part list:List Int):Bool:=part == list || part == list.reverse
theorem eU {part list:List Int} :bA part list=true↔part=list∨part=list.reverse:=by simp [bA]
def eZ (n:Nat) (step:Int):List Int:=(List.range n).map fun i:Nat=>2 + step * i
theorem gQ (n:Nat) (step:Int):eZ (n + 1) step=eZ n step ++ [2 + step * n]:=by simp [eZ,List.range_succ]
theorem cL (n:Nat) (step:Int):(eZ n step).length=n:=by simp [eZ]
def cX (part:List Int):List Int:=
 if part.length=0 then [2]
 else if part.length=1∧0 < aC part 0 then [2,aC part 0]
 else if bA part [3,5] then [2,6,10]
 else if bA part [3,3,5] then [2,12,20,30]
 else if bA part [3,4,3] then [2,6,8,12]
 else if part=List.replicate part.length 3 then eZ (part.length + 1) 1
 else if bA part ((List.replicate part.length (3:Int)).set 0 4) then eZ (part.length + 1) 2
 else []
def As (part:List Int):Bool:=bA part [0] || (bA part [4,4] || (bA part [3,6] || (bA part [4,3,4] || (bA part [3,4,3,3] || bA part [4,3,3,4]))))
def mh (part:List Int):Prop:=part.length≤4∧∀z∈part,0≤z∧z≤32∧z≠1∧z≠2
theorem yx (part:List Int) (h:part.length≤4):(cX part).length=0∨(cX part).length=part.length + 1:=by
 unfold cX
 split
 ·right;rename_i h;simp [h]
 split
 ·right;rename_i h;simp [h.1]
 split
 ·rename_i h;rcases eU.1 h with rfl | rfl<;>exact .inr rfl
 split
 ·rename_i h;rcases eU.1 h with rfl | rfl<;>exact .inr rfl
 split
 ·rename_i h;rcases eU.1 h with rfl | rfl<;>exact .inr rfl
 split
 ·exact .inr (cL _ _)
 split
 ·exact .inr (cL _ _)
 ·exact .inl rfl
theorem nF {part:List Int} (hp:mh part):∀d∈cX part,2≤d∧d≤32:=by
 have hramp:∀step:Int,(step=1∨step=2)→∀d∈eZ (part.length + 1) step,2≤d∧d≤32:=fun step hs d hd=>by
  unfold eZ at hd
  rw [List.mem_map] at hd
  obtain ⟨i,hi,rfl⟩:=hd
  have hi:=List.mem_range.1 hi
  have:=hp.1
  rcases hs with rfl | rfl<;>omega
 unfold cX
 split
 ·intro d hd;simp at hd;omega
 split
 ·rename_i h1 h2
  intro d hd
  have:=hp.2 _ (eF (zs:=part) (k:=0) (by omega))
  simp at hd;omega
 split
 ·intro d hd;simp at hd;omega
 split
 ·intro d hd;simp at hd;omega
 split
 ·intro d hd;simp at hd;omega
 split
 ·exact hramp 1 (.inl rfl)
 split
 ·exact hramp 2 (.inr rfl)
 ·intro d hd;cases hd
def ends (part:List Int):List Int:=if aC part 0=3 then part else part.reverse
def eE (part:List Int):Bool:=(List.range (part.length - 1)).all fun i=>aC (ends part) i == 3
def tA (part:List Int):List Int:=if eE part then (if aC (ends part) (part.length - 1)=3 then eZ (part.length + 1) 1 else if aC (ends part) (part.length - 1)=4 then eZ (part.length + 1) 2 else []) else []
theorem zn {part:List Int} (h2:2≤part.length) (h4:part.length≤4):tA part=if part=List.replicate part.length 3 then eZ (part.length + 1) 1 else if bA part ((List.replicate part.length (3:Int)).set 0 4) then eZ (part.length + 1) 2 else []:=by
 match part,h2,h4 with
 | [a,b],_,_=>
  simp only [tA,eE,ends,bA,aC,List.length_cons,List.length_nil]
  simp [List.range_succ,List.replicate]
  by_cases ha:a=3<;>by_cases hb:b=3<;>by_cases ha4:a=4<;>by_cases hb4:b=4<;>simp_all
 | [a,b,c],_,_=>
  simp only [tA,eE,ends,bA,aC,List.length_cons,List.length_nil]
  simp [List.range_succ,List.replicate]
  by_cases ha:a=3<;>by_cases hb:b=3<;>by_cases hc:c=3<;>by_cases ha4:a=4<;>by_cases hc4:c=4<;>simp_all
 | [a,b,c,d],_,_=>
  simp only [tA,eE,ends,bA,aC,List.length_cons,List.length_nil]
  simp [List.range_succ,List.replicate]
  by_cases ha:a=3<;>by_cases hb:b=3<;>by_cases hc:c=3<;>by_cases hd:d=3<;>by_cases ha4:a=4<;>by_cases hd4:d=4<;>simp_all
end Go.Proofs.Ytekbhbcgoadciaa
namespace Go.Proofs.Ytekbhbcgoadciaa
open Go.RowKit
section
variable {P:Program} {nt:Nat} {w0 w:World} {ω0:kd} {S S1:St} {Q:Exit→Act→World→Prop} {a:Act}
theorem jf {f:Nat} {sk:List Nat} {j:Nat} :bp (f :: sk) j=(Nat.beq j f || bp sk j):=by
 unfold bp
 rw [List.any_cons]
theorem oI {sk:List Nat} {L:Array Bool} :∀k,missing sk L k≤k:=fun k=>by
 induction k with
 | zero=>exact Nat.le_refl _
 | succ k ih=>simp only [missing];split<;>omega
theorem jP {sk:List Nat} {L:Array Bool} (f:Nat):∀k,k≤f→missing (f :: sk) L k=missing sk L k
 | 0,_=>rfl
 | k + 1,h=>by
  simp only [missing]
  rw [jP f k (by omega),jf,cZ (by omega:k≠f),Bool.false_or]
theorem ff {sk:List Nat} {L:Array Bool} (f:Nat) (hL:L.getD f false=false) (hs:bp sk f=false):∀k,f < k→missing sk L k=missing (f :: sk) L k + 1
 | 0,h=>by omega
 | k + 1,h=>by
  simp only [missing]
  rw [jf]
  by_cases e:k=f
  ·subst e
   rw [jP k k (Nat.le_refl _),hL,hs]
   simp
  ·rw [ff f hL hs k (by omega),cZ e,Bool.false_or];omega
theorem q8 {sk:List Nat} {f nA:Nat} (hf:f < nA) (hs:bp sk f=false):missing (f :: sk) #[] nA=missing sk #[] nA - 1∧0 < missing sk #[] nA:=by
 have:=ff (sk:=sk) (L:= #[]) f (by simp) hs nA hf
 omega
def zl (ops:Array Oper) (nA:Nat) (sk:List Nat) (f:Nat) (cls:List (List Nat)):Bool:=
 Nat.ble nA ops.size && (List.range ops.size).all fun i=>match ops[i]? with
  | some o=>(Nat.ble nA i || bp sk i || o.after.all fun e=> !Region.binds .any e || (Nat.blt e.on i && !bp sk e.on)) && ((cls.getD i []).all fun j=>o.after.any fun e=>Region.binds .any e && (Nat.beq j e.on || bp (cls.getD e.on []) j)) &&
    ((Nat.blt i nA && !bp sk i) || (List.range nA).all fun j=>Nat.beq j f || bp sk j || bp (cls.getD i []) j) && (Nat.ble nA i || (cls.getD i []).all fun j=>Nat.blt j i)
  | none=>true
structure zu (ops:Array Oper) (nA:Nat) (sk:List Nat) (f:Nat) (cls:List (List Nat)):Prop where
 size:nA≤ops.size
 less:∀i o,ops[i]? =some o→i < nA→bp sk i=false→∀e∈o.after,Region.binds .any e=true→e.on < i∧bp sk e.on=false
 dep:∀i o,ops[i]? =some o→∀j∈cls.getD i [],∃e∈o.after,Region.binds .any e=true∧(j=e.on∨j∈cls.getD e.on [])
 late:∀i o,ops[i]? =some o→(nA≤i∨bp sk i=true)→∀j,j < nA→bp sk j=false→j≠f→j∈cls.getD i []
 lt:∀i o,ops[i]? =some o→i < nA→∀j∈cls.getD i [],j < i
theorem u4 {ops:Array Oper} {nA:Nat} {sk:List Nat} {f:Nat} {cls:List (List Nat)} (h:zl ops nA sk f cls=true):zu ops nA sk f cls:=by
 unfold zl at h
 simp only [Bool.and_eq_true,Nat.ble_eq] at h
 obtain ⟨h0,h⟩:=h
 have key:∀i o,ops[i]? =some o→_:=fun i o ho=>by
  have hi:i < ops.size:=(Array.getElem?_eq_some_iff.1 ho).1
  have h1:=List.all_eq_true.1 h i (List.mem_range.2 hi)
  simp only [ho,Bool.and_eq_true,Bool.or_eq_true] at h1
  exact h1
 refine ⟨h0,fun i o ho hi hsk e he hb=> ?_,fun i o ho j hj=> ?_,fun i o ho hi j hj hsk hf=> ?_,fun i o ho hi j hj=> ?_⟩
 ·rcases (key i o ho).1.1.1 with (h1 | h1) | h1
  ·have:=Nat.le_of_ble_eq_true h1;omega
  ·rw [hsk] at h1;cases h1
  ·have:=Array.all_eq_true_iff_forall_mem.1 h1 e he
   simp [hb] at this;exact this
 ·have:=List.all_eq_true.1 (key i o ho).1.1.2 j hj
  obtain ⟨e,he,h2⟩:=Array.any_eq_true'.1 this
  simp only [Bool.and_eq_true,Bool.or_eq_true] at h2
  exact ⟨e,he,h2.1,h2.2.imp (fun h=>beq_true h) (fun h=>bU.1 h)⟩
 ·rcases (key i o ho).1.2 with h1 | h1
  ·exfalso
   have h2:i < nA:=by simpa using h1.1
   have h3:bp sk i=false:=by simpa using h1.2
   rcases hi with h4 | h4
   ·omega
   ·rw [h3] at h4;cases h4
  ·have h2:=List.all_eq_true.1 h1 j (List.mem_range.2 hj)
   simp only [Bool.or_eq_true,hsk,cZ hf,Bool.false_eq_true,false_or] at h2
   exact bU.1 h2
 ·rcases (key i o ho).2 with h1 | h1
  ·have:=Nat.le_of_ble_eq_true h1;omega
  ·exact (by have:=List.all_eq_true.1 h1 j hj;simpa using this)
theorem u5 {l:List Oper} {nA:Nat} {sk:List Nat} {cls:List (List Nat)} {ds nms:List Nat} {adds done:List Add} {f:Nat} (hfA:f < nA) (hfs:bp sk f=false) (hcl:zu l.toArray nA sk f cls) (hdr:ey P nt (S.clear ds nms) cls sk (l.take nA) [] done) (hdn:done.reverse=adds) (ok:jV adds cls ds nms)
  (hk:Rest P w0 ω0 nt l.toArray Q (l.length - missing sk #[] nA) (dT nA sk l.length) ((S.clear ds nms).part (fun j=> !bp sk j) adds))
  (hk0:Rest P w0 ω0 nt l.toArray Q (l.length - missing (f :: sk) #[] nA) (dT nA (f :: sk) l.length) ((S.clear ds nms).part (fun j=> !bp (f :: sk) j) adds)):
  ∀(d:Nat) (L:Array Bool) (a:Act) (w:World),missing sk L nA=d→L.size=l.length→(∀j,L.getD j false=true→j < nA∧bp sk j=false)→(∀i,L.getD i false=true→∀j∈cls.getD i [],L.getD j false=true)→
   Sat w0 ω0 nt ((S.clear ds nms).part (fun j=>L.getD j false) adds) a w→wpAny P .any l.toArray Q (l.length - missing sk #[] nA + d) L a w:=by
 have hsz:nA≤l.length:=by have:=hcl.size;simpa using this
 obtain ⟨⟨r,hr,hrl⟩,hob⟩:=hdr.spec
 rw [hdn] at hr hob
 have hal:adds.length=nA:=by rw [hr];simp [hrl];omega
 have hfull:∀(L:Array Bool) (i:Nat),i∈Region.ready .any l.toArray L→(∀i,L.getD i false=true→∀j∈cls.getD i [],L.getD j false=true)→(∃o,l.toArray[i]? =some o∧L.getD i true=false)∧∀j∈cls.getD i [],L.getD j false=true:=by
  intro L i hi hclosed
  obtain ⟨h0,o,ho,he⟩:=mem_ready.1 hi
  refine ⟨⟨o,ho,h0⟩,fun j hj=> ?_⟩
  obtain ⟨e,hem,hb,hje⟩:=hcl.dep i o ho j hj
  have h1:=he e hem hb
  rcases hje with rfl | hje
  ·exact h1
  ·exact hclosed e.on h1 j hje
 intro d
 induction d with
 | zero=>
  intro L a w hm hs hsub hclosed hsat
  have hall:=dr hm
  have hL:L=dT nA sk l.length:=by
   apply Array.ext
   ·simp [hs,dT]
   ·intro j h1 h2
    have h3:L[j]? =some L[j]:=Array.getElem?_eq_getElem h1
    have h4:=j0 (nA:=nA) (sk:=sk) (n:=l.length) (j:=j) (by omega)
    rw [Array.getElem?_eq_getElem h2] at h4
    rw [Option.some.inj h4]
    cases hb:L[j] with
    | true=>
     have:=hsub j (by simp [h1,hb])
     simp [this.1,this.2]
    | false=>
     by_cases hj:j < nA
     ·cases hsk:bp sk j with
      | true=>simp
      | false=>
       have:=hall j hj hsk
       simp [h1,hb] at this
     ·simp [hj]
  refine hk.go a w ((St.le.wk (lZ (ℓ1:=fun j=> !bp sk j) (ℓ2:=fun j=>L.getD j false) ok (fun _ _ h=>h) fun j A hj hsk=> ?_) fun _ _ h=>h).go _ _ _ a w hsat) |> fun h=>by rw [←hL] at h;exact h
  have hjl:j < adds.length:=(List.getElem?_eq_some_iff.1 hj).1
  exact hall j (by omega) (by simpa using hsk)
 | succ d ih=>
  intro L a w hm hs hsub hclosed hsat
  by_cases h0:missing (f :: sk) L nA=0∧L.getD f false=false
  ·obtain ⟨h0,hff⟩:=h0
   have hall:=dr h0
   have hL:L=dT nA (f :: sk) l.length:=by
    apply Array.ext
    ·simp [hs,dT]
    ·intro j h1 h2
     have h3:L[j]? =some L[j]:=Array.getElem?_eq_getElem h1
     have h4:=j0 (nA:=nA) (sk:=f :: sk) (n:=l.length) (j:=j) (by omega)
     rw [Array.getElem?_eq_getElem h2] at h4
     rw [Option.some.inj h4]
     cases hb:L[j] with
     | true=>
      have:=hsub j (by simp [h1,hb])
      have hjf:j≠f:=fun e=>by subst e;simp [h1,hb] at hff
      rw [jf,this.2,cZ hjf];simp [this.1]
     | false=>
      by_cases hj:j < nA
      ·cases hsk:bp (f :: sk) j with
       | true=>simp
       | false=>
        have:=hall j hj hsk
        simp [h1,hb] at this
      ·simp [hj]
   have hd:missing (f :: sk) #[] nA=missing sk #[] nA - 1∧0 < missing sk #[] nA:=q8 hfA hfs
   have hd1:d=0:=by
    have:=ff (sk:=sk) (L:=L) f hff hfs nA hfA
    omega
   subst hd1
   have hmn:∀k,missing sk #[] k≤k:=oI
   have:=hmn nA
   have e:l.length - missing (f :: sk) #[] nA=l.length - missing sk #[] nA + (0 + 1):=by omega
   rw [←e]
   refine hk0.go a w ((St.le.wk (lZ (ℓ1:=fun j=> !bp (f :: sk) j) (ℓ2:=fun j=>L.getD j false) ok (fun _ _ h=>h) fun j A hj hsk=> ?_) fun _ _ h=>h).go _ _ _ a w hsat) |> fun h=>by rw [←hL] at h;exact h
   have hjl:j < adds.length:=(List.getElem?_eq_some_iff.1 hj).1
   exact hall j (by omega) (by simpa using hsk)
  refine ⟨fun hnil=> ?_,fun i hi=> ?_⟩
  ·exfalso
   obtain ⟨j,hj,hjs',hjf,hlo⟩:=fe (k:=nA) (by omega:missing sk L nA≠0)
   have hjl:j < l.length:=by omega
   have hjs:j < L.size:=by omega
   have:j∈Region.ready .any l.toArray L:=by
    refine mem_ready.2 ⟨?_,l[j],by simp [hjl],fun e he hb=> ?_⟩
    ·simp [hjs] at hjf ⊢
     exact hjf
    ·have h5:=hcl.less j l[j] (by simp [hjl]) hj hjs' e he hb
     exact hlo e.on h5.1 h5.2
   rw [hnil] at this;cases this
  ·obtain ⟨⟨o,ho,hi0⟩,hdep⟩:=hfull L i hi hclosed
   have hil:i < l.length:=by have:=(Array.getElem?_eq_some_iff.1 ho).1;simpa using this
   have his:i < L.size:=by omega
   have hif:L.getD i false=false:=by simp [his] at hi0 ⊢;exact hi0
   have hnl:¬(nA≤i∨bp sk i=true):=fun h=>by
    have h1:=dI (sk:=f :: sk) (L:=L) (k:=nA) fun j hj hsk=>by
     rw [jf] at hsk
     simp only [Bool.or_eq_false_iff] at hsk
     exact hdep j (hcl.late i o ho h j hj hsk.2 fun e=>by subst e;simp at hsk)
    refine h0 ⟨h1, ?_⟩
    cases hff:L.getD f false with
    | false=>rfl
    | true=>
     have:=dr h1
     have h2:=dI (sk:=sk) (L:=L) (k:=nA) fun j hj hsk=>by
      by_cases e:j=f
      ·subst e;exact hff
      ·exact this j hj (by rw [jf,hsk,cZ e];rfl)
     omega
   have hiA:i < nA:=by
    rcases Nat.lt_or_ge i nA with h | h
    ·exact h
    ·exact absurd (.inl h) hnl
   have hisk:bp sk i=false:=by
    cases hsk:bp sk i with
    | false=>rfl
    | true=>exact absurd (.inr hsk) hnl
   have hot:(l.take nA)[i]? =some o:=by rw [List.getElem?_take,if_pos hiA];simpa using ho
   obtain ⟨A,hA,hg,hstp⟩:=hob i o hot (by simpa using hisk)
   simp only [List.length_nil,Nat.zero_add] at hA hstp
   have hle:((S.clear ds nms).fu (bp (cls.getD i [])) (adds.take i).reverse).le ((S.clear ds nms).part (fun j=>L.getD j false) adds):=fH ok (fun j B hj=>by
     rw [List.reverse_reverse] at hj
     rw [List.getElem?_take] at hj;split at hj
     ·exact hj
     ·cases hj) fun j B _ hj=>hdep j (bU.1 hj)
   have hst:=(hstp _ hle).go w0 ω0 a w Q hsat
   unfold wpOp
   simp only [ho]
   rw [if_pos (by simp [Region.wanted,hg])]
   refine .inl (Oper.wp_mono (fun a' w' hsat'=> ?_) hst)
   have hsat2:=(qY ok hA hif fun j hj hm'=>by have:=hclosed j hj i hm';rw [hif] at this;cases this).go _ _ _ a' w' hsat'
   have hnew:∀j,(L.setIfInBounds i true).getD j false=(Nat.beq j i || L.getD j false):=fun j=>by
    by_cases e:j=i
    ·subst e;simp [his]
    ·rw [getD_set_ne false (fun e'=>e e'.symm),cZ e,Bool.false_or]
   refine ih (L.setIfInBounds i true) a' w' ?_ (by simp [hs]) (fun j hj=> ?_) (fun j hj k hk'=> ?_) ?_
   ·have:=gm his hif hisk nA hiA;omega
   ·rw [hnew] at hj
    by_cases e:j=i
    ·rw [e];exact ⟨hiA,hisk⟩
    ·rw [cZ e,Bool.false_or] at hj;exact hsub j hj
   ·rw [hnew] at hj ⊢
    by_cases e:j=i
    ·subst e;rw [hdep k hk'];simp
    ·rw [cZ e,Bool.false_or] at hj;rw [hclosed j hj k hk'];simp
   ·have:(fun j=>(L.setIfInBounds i true).getD j false)=fun j=>(Nat.beq j i || L.getD j false):=funext hnew
    rw [this];exact hsat2
theorem ld {id:Nat} {l:List Oper} (nA:Nat) (sk:List Nat) (f:Nat) (cls:List (List Nat)) (ds nms:List Nat) {done:List Add} (hm:P.follows .mixedOrders=true) (hcl:zl l.toArray nA sk f cls=true) (hf':(Nat.blt f nA && !bp sk f)=true) (hdr:ey P nt (S.clear ds nms) cls sk (l.take nA) [] done) (ok:qK done.reverse cls ds nms=true)
  (hk:Rest P w0 ω0 nt l.toArray Q (l.length - missing sk #[] nA) (dT nA sk l.length) ((S.clear ds nms).fu (fun j=> !bp sk j) done))
  (hk0:Rest P w0 ω0 nt l.toArray Q (l.length - missing (f :: sk) #[] nA) (dT nA (f :: sk) l.length) ((S.clear ds nms).fu (fun j=> !bp (f :: sk) j) done)):eC P w0 ω0 nt S (.region id l.toArray true) Q:=by
 have hc:=u4 hcl
 have hsz:nA≤l.length:=by have:=hc.size;simpa using this
 have hk':Rest P w0 ω0 nt l.toArray Q (l.length - missing sk #[] nA) (dT nA sk l.length) ((S.clear ds nms).part (fun j=> !bp sk j) done.reverse):=
  ⟨fun a w hs=>hk.go a w ((St.le.wk (fH (ef ok) (fun _ _ h=>h) fun _ _ _ h=>h) fun _ _ h=>h).go _ _ _ a w hs)⟩
 have hk0':Rest P w0 ω0 nt l.toArray Q (l.length - missing (f :: sk) #[] nA) (dT nA (f :: sk) l.length) ((S.clear ds nms).part (fun j=> !bp (f :: sk) j) done.reverse):=
  ⟨fun a w hs=>hk0.go a w ((St.le.wk (fH (ef ok) (fun _ _ h=>h) fun _ _ _ h=>h) fun _ _ h=>h).go _ _ _ a w hs)⟩
 have hfA:f < nA:=by simp only [Bool.and_eq_true] at hf';simpa using hf'.1
 have hfs:bp sk f=false:=by simp only [Bool.and_eq_true] at hf';simpa using hf'.2
 have hle:∀k,missing sk #[] k≤k:=fun k=>by
  induction k with
  | zero=>exact Nat.le_refl _
  | succ k ih=>simp only [missing];split<;>omega
 refine ⟨fun a w hs=>wp_region_any hm ?_⟩
 have hfin:=u5 hfA hfs hc hdr rfl (ef ok) hk' hk0' (missing sk #[] nA) (Array.replicate l.length false) a { w with drawn:=w.drawn + 1 } ?_ (by simp) (fun j hj=> ?_) (fun i hi=> ?_) ?_
 ·have:=hle nA
  rw [show l.length - missing sk #[] nA + missing sk #[] nA=l.length by omega] at hfin
  simpa using hfin
 ·have:∀k,k≤l.length→missing sk (Array.replicate l.length false) k=missing sk #[] k:=fun k=>by
   induction k with
   | zero=>intro _;rfl
   | succ k ih=>
    intro hk
    simp only [missing]
    rw [ih (by omega)]
    have:(Array.replicate l.length false).getD k false=false:=by simp [show k < l.length by omega]
    rw [this];rfl
  exact this nA hsz
 ·exfalso
  by_cases h:j < l.length
  ·simp [h] at hj
  ·simp [h] at hj
 ·exfalso
  by_cases h:i < l.length
  ·simp [h] at hi
  ·simp [h] at hi
 ·have h1:=(lJ S ds nms).go _ _ _ a _ (l6 hs)
  have hf:∀j,(Array.replicate l.length false).getD j false=false:=fun j=>by
   by_cases h:j < l.length<;>simp [h]
  refine (Wk.less (S:=S.clear ds nms) (S':=(S.clear ds nms).part (fun j=>(Array.replicate l.length false).getD j false) done.reverse) (fun t av h=> ?_) (fun x c h=> ?_) fun _ _ h=>h).go _ _ _ a _ h1
  ·have h:(match sh (fun j=>(Array.replicate l.length false).getD j false) 0 done.reverse t with | some av=>some av | none=>(S.clear ds nms).sl t)=some av:=h
   split at h
   ·rename_i av' h2
    obtain ⟨j,A,_,h3,_⟩:=fc h2
    rw [hf] at h3;cases h3
   ·exact h
  ·have h:(match sg (fun j=>(Array.replicate l.length false).getD j false) 0 done.reverse x with | some c=>some c | none=>(S.clear ds nms).ch x)=some c:=h
   split at h
   ·rename_i av' h2
    obtain ⟨j,A,_,h3,_⟩:=eW h2
    rw [hf] at h3;cases h3
   ·exact h
theorem jO {N:Nat} (i j k:Nat) {ops:Array Oper} {L:Array Bool} {o o' o'':Oper} {S2 S3:St} (hN:Nat.blt 0 N=true) (hr:Region.ready .any ops L= [i,j,k]) (ho:ops[i]? =some o) (ho':ops[j]? =some o') (ho'':ops[k]? =some o'') (hg:o.guard=none) (hg':o'.guard=none) (hg'':o''.guard=none)
  (h:bQ P nt o S S1) (h':bQ P nt o' S S2) (h'':bQ P nt o'' S S3)
  (k1:Rest P w0 ω0 nt ops Q (N - 1) (L.setIfInBounds i true) S1) (k2:Rest P w0 ω0 nt ops Q (N - 1) (L.setIfInBounds j true) S2) (k3:Rest P w0 ω0 nt ops Q (N - 1) (L.setIfInBounds k true) S3):Rest P w0 ω0 nt ops Q N L S:=by
 have hN':0 < N:=by simpa using hN
 obtain ⟨n,rfl⟩:∃n,N=n + 1:=⟨N - 1,by omega⟩
 exact ⟨fun a w hs=>wpAny_all hr (by simp) fun i' hi'=>by
  simp at hi'
  rcases hi' with rfl | rfl | rfl
  ·unfold wpOp
   simp only [ho]
   rw [if_pos (by simp [Region.wanted,hg])]
   exact .inl (Oper.wp_mono (fun a' w' h'=>k1.go a' w' h') (h.go w0 ω0 a w Q hs))
  ·unfold wpOp
   simp only [ho']
   rw [if_pos (by simp [Region.wanted,hg'])]
   exact .inl (Oper.wp_mono (fun a' w' h'=>k2.go a' w' h') (h'.go w0 ω0 a w Q hs))
  ·unfold wpOp
   simp only [ho'']
   rw [if_pos (by simp [Region.wanted,hg''])]
   exact .inl (Oper.wp_mono (fun a' w' h'=>k3.go a' w' h') (h''.go w0 ω0 a w Q hs))⟩
end
end Go.Proofs.Ytekbhbcgoadciaa
namespace Go.Proofs.Ytekbhbcgoadciaa
open Go.RowKit
section
variable {P:Program} {nt:Nat} {S S1 S':St} {w0 w:World} {ω0:kd} {ω:bE} {η:Env} {a:Act} {Q:Exit→Act→World→Prop} {ops:Array Oper} {rest:List Oper} {o:Oper}
variable {t:Nat} {ty:TypeId} {ps:String} {af:Array Edge} {gd:Option (Nat×Bool)} {x y z:Operand} {av:AV}
theorem bH (d:Nat) {b:Bool} (hb:S.sl d=some (vv (.bool b))) (h1:b=true→ns P w0 ω0 nt ops Q (S.put d (vv (.bool true))) rest) (h2:b=false→ns P w0 ω0 nt ops Q (S.put d (vv (.bool false))) rest):ns P w0 ω0 nt ops Q S rest:=by
 have wk:∀c,b=c→Wk S (S.put d (vv (.bool c))):=fun c e=>by
  refine ⟨fun w0 ω0 nt a w ⟨η,ω,hs⟩=>⟨η,ω, { hs with slots:=fun t' av ht'=> ?_ }⟩⟩
  rw [gy] at ht'
  by_cases e':t'=d
  ·subst e'
   rw [if_pos rfl] at ht'
   obtain rfl:=Option.some.inj ht'
   exact hs.slots t' _ (by rw [←e];exact hb)
  ·rw [if_neg e'] at ht';exact hs.slots t' av ht'
 cases b with
 | true=>exact ⟨fun a w hs=>(h1 rfl).go a w ((wk true rfl).go _ _ _ a w hs)⟩
 | false=>exact ⟨fun a w hs=>(h2 rfl).go a w ((wk false rfl).go _ _ _ a w hs)⟩
theorem aH {j d:Nat} {want:Bool} (hg:o.guard=some (j,want)) (hj:(ops[j]?).bind (·.dst)=some d) (hb:S.sl d=some (vv (.bool want))) (h:bQ P nt o S S1) (k:ns P w0 ω0 nt ops Q S1 rest):ns P w0 ω0 nt ops Q S (o :: rest):=
 qV hg hj hb (fun _=>⟨S1,h,k⟩) fun e=>absurd rfl e
theorem aG {j d t:Nat} {want:Bool} (hg:o.guard=some (j,want)) (hj:(ops[j]?).bind (·.dst)=some d) (hb:S.sl d=some (vv (.bool (!want)))) (ht:o.dst=some t) (hn:Nat.blt t nt=true) (k:ns P w0 ω0 nt ops Q (S.put t (vv undef)) rest):ns P w0 ω0 nt ops Q S (o :: rest):=
 qV hg hj hb (fun e=>by cases want<;>cases e) fun _=>⟨t,ht,hn,k⟩
theorem bf (ht:Nat.blt t nt=true) (hx:S.op x=some (vv (.bool true))) (hy:S.op y=some av):bQ P nt ⟨some t, .pick x y z,ty,ps,af,gd⟩ S (S.put t av):=
 bQ.of _ fun w0 ω0 η ω a w hs=>by
  have h0:=hs.fL hx
  exact ⟨a.eval y,w,by simp [execOp,h0,asBool],η,ω,hs.eY (by simpa using ht) (hs.gk hy)⟩
theorem br (ht:Nat.blt t nt=true) (hx:S.op x=some (vv (.bool false))) (hz:S.op z=some av):bQ P nt ⟨some t, .pick x y z,ty,ps,af,gd⟩ S (S.put t av):=
 bQ.of _ fun w0 ω0 η ω a w hs=>by
  have h0:=hs.fL hx
  exact ⟨a.eval z,w,by simp [execOp,h0,asBool],η,ω,hs.eY (by simpa using ht) (hs.gk hz)⟩
theorem uR {T:TypeId} (zs:List Value) (ht:Nat.blt t nt=true) (hb:(P.built T []).map Array.toList=some zs):bQ P nt ⟨some t, .build T #[],ty,ps,af,gd⟩ S (S.put t (.s (.agg (zs.map .val)))):=
 bQ.of _ fun w0 ω0 η ω a w hs=>by
  simp only [Option.map_eq_some_iff] at hb
  obtain ⟨cs,hc,rfl⟩:=hb
  refine ⟨.agg cs,w,by simp [execOp,run_build w T #[] cs hc],η,ω,hs.eY (by simpa using ht) ?_⟩
  exact (⟨cs,rfl,by simp,fun j b hb=>by
   simp only [List.getElem?_map,Option.map_eq_some_iff] at hb
   obtain ⟨v,hv,rfl⟩:=hb
   exact ⟨v,by simpa using hv,rfl⟩⟩:fi η (.agg (cs.toList.map .val)) (.agg cs))
theorem cg {c:Code} (S':St) (h:eC P w0 ω0 nt S c (fun e a w=>e= .normal∧Sat w0 ω0 nt S' a w)) (k:Fin w0 ω0 nt S' .normal Q):eC P w0 ω0 nt S c Q:=
 ⟨fun a w hs=>Code.wp_mono (fun e a w he=>by obtain ⟨rfl,h2⟩:=he;exact k.go a w h2) (h.go a w hs)⟩
theorem vr (h:Wk S S') (k:ns P w0 ω0 nt ops Q S' rest):ns P w0 ω0 nt ops Q S rest:=⟨fun a w hs=>k.go a w (h.go _ _ _ a w hs)⟩
theorem vH {n k:Nat} {E:TypeId} {d:dQ} {l:List A1} (i:Nat) (hs:S.sl t=some (.s (.agg l))) (hi:l[i]? =some (.val (.slice none 0 0))) (hn:l.any (A1.has n)=false) (hd:d.len=0):Wk S ((S.new n ⟨true,E,k,d⟩).put t (.s (.agg (l.set i (.sl n 0 0))))):=by
 refine ⟨fun w0 ω0 nt a w ⟨η,ω,h⟩=> ?_⟩
 obtain ⟨u,h1,h2⟩:=h.slots t _ hs
 obtain ⟨us,rfl,h3,h4⟩:=(h2:fi η (.agg l) u)
 have hl:=h.lay (x:=n) (c:=⟨true,E,k,d⟩) (hd:=⟨none,0,k⟩) (r:=fun _=>⟨none,0,1⟩) (Calm.refl S ω w) ⟨rfl, .inl ⟨rfl,rfl,hd⟩⟩
 refine ⟨_,ω, { hl with slots:=fun t' av ht'=> ?_ }⟩
 rw [gy] at ht'
 by_cases e:t'=t
 ·subst e
  rw [if_pos rfl] at ht'
  obtain rfl:=Option.some.inj ht'
  refine ⟨_,h1,us,rfl,by simpa using h3,fun j b hb=> ?_⟩
  by_cases ej:j=i
  ·subst ej
   obtain ⟨u',h5,h6⟩:=h4 j _ hi
   have h6:u'= .slice none 0 0:=h6
   subst h6
   have hlt:j < l.length:=(List.getElem?_eq_some_iff.1 hi).1
   rw [List.getElem?_set_self hlt] at hb
   obtain rfl:=Option.some.inj hb
   exact ⟨_,h5,kD (hd:=⟨none,0,k⟩) (m:=0)⟩
  ·rw [List.getElem?_set_ne (fun e=>ej e.symm)] at hb
   obtain ⟨u',h5,h6⟩:=h4 j b hb
   refine ⟨u',h5,h6.mono fun y hy=>Env.new_ne η _ _ y fun e=> ?_⟩
   subst e
   have:=List.any_eq_false.1 hn b (List.mem_of_getElem? hb)
   rw [hy] at this;exact this rfl
 ·rw [if_neg e] at ht'
  exact hl.slots t' av ht'
end
end Go.Proofs.Ytekbhbcgoadciaa
namespace Go.Proofs.Ytekbhbcgoadciaa
open Go.RowKit
section
variable {P:Program} {nt:Nat} {S S1:St} {w0 w:World} {ω0:kd} {ω:bE} {η:Env} {a:Act} {Q:Exit→Act→World→Prop}
variable {t:Nat} {ty:TypeId} {ps:String} {af:Array Edge} {gd:Option (Nat×Bool)} {x y:Operand} {av:AV}
theorem xQ (n:Nat) (z:Int):aJ (List.replicate n z)=List.replicate n (I6 z):=by simp [aJ]
theorem xv (n:Nat):bK (List.replicate n [])=List.replicate n []:=by simp [bK,aJ]
theorem wQ {T E n:Nat} {l c:Operand} {kl kc:IntKind} {L C:Int} (ht:Nat.blt t nt=true) (hT:mY P T E 1=true) (hz:(P.info? E).bind (·.zero)=some (I6 0)) (hl:S.op l=some (vv (.int kl L))) (hc:S.op c=some (vv (.int kc C)))
  (hL:L=(n:Int)) (hC:C=(n:Int)) (hn:n≤2199023255552):bQ P nt ⟨some t, .makeSlice T l c,ty,ps,af,gd⟩ S ((S.new t ⟨true,E,1, .bG (aJ (List.replicate n 0))⟩).put t (o1 (.sl t 0 n))):=by
 rw [xQ]
 exact zv (ts:= #[]) ht hT hz hl hc hL hC hn rfl
theorem xk {T E F n:Nat} {l c:Operand} {kl kc:IntKind} {L C:Int} (ht:Nat.blt t nt=true) (hT:mY P T E 1=true) (hz:(P.info? E).bind (·.zero)=some (.slice none 0 0)) (hF:P.underlying E=some (.slice F)) (hl:S.op l=some (vv (.int kl L))) (hc:S.op c=some (vv (.int kc C)))
  (hL:L=(n:Int)) (hC:C=(n:Int)) (hn:n≤2199023255552):bQ P nt ⟨some t, .makeSlice T l c,ty,ps,af,gd⟩ S ((S.new t ⟨true,E,1, .rows F (bK (List.replicate n [])) []⟩).put t (o1 (.sl t 0 n))):=by
 rw [xv]
 exact qX (ts:= #[]) ht hT hz hF hl hc hL hC hn
end
end Go.Proofs.Ytekbhbcgoadciaa
namespace Go.Proofs.Ytekbhbcgoadciaa
open Go.RowKit
theorem lO (a b:Nat) (ha:a < 1000000) (hb:b < 1000000):bits .and .i64 (a:Int) (b:Int)=((a &&& b:Nat):Int):=by
 have hx:a &&& b < 2 ^ 20:=Nat.and_lt_two_pow _ (by omega)
 have h1:(BitVec.ofInt 64 (a:Int)).toNat=a:=by
  rw [BitVec.ofInt_natCast,BitVec.toNat_ofNat];exact Nat.mod_eq_of_lt (by omega)
 have h2:(BitVec.ofInt 64 (b:Int)).toNat=b:=by
  rw [BitVec.ofInt_natCast,BitVec.toNat_ofNat];exact Nat.mod_eq_of_lt (by omega)
 show IntKind.i64.wrap ((BitVec.ofInt 64 (a:Int) &&& BitVec.ofInt 64 (b:Int)).toNat:Int)=_
 rw [BitVec.toNat_and,h1,h2,IntKind.wrap_i64]
 omega
section
variable {P:Program} {nt:Nat} {S:St} {t:Nat} {ty:TypeId} {ps:String} {af:Array Edge} {gd:Option (Nat×Bool)} {x y:Operand}
theorem zR {xt yt:TypeId} {a b:Nat} (ht:Nat.blt t nt=true) (hx:S.op x=some (vv (I6 (a:Int)))) (hy:S.op y=some (vv (I6 (b:Int)))) (ha:a < 1000000) (hb:b < 1000000):
  bQ P nt ⟨some t, .binOp .and xt x y yt,ty,ps,af,gd⟩ S (S.put t (vv (I6 ((a &&& b:Nat):Int)))):=
 bQ.pure rfl ht fun _ _ η _ s w hs=>by
  refine ⟨I6 ((a &&& b:Nat):Int), ?_,rfl⟩
  have hb':=lO a b ha hb
  have e:Op.intBits .and .i64 (a:Int) (b:Int)=pure (I6 ((a &&& b:Nat):Int)):=by rw [←hb'];rfl
  simp [execOp,hs.fL hx,hs.fL hy,eqGuard,binOp,e]
theorem ep {xt yt:TypeId} {kk:IntKind} {a g:Nat} (ht:Nat.blt t nt=true) (hx:S.op x=some (vv (I6 (a:Int)))) (hy:S.op y=some (vv (.int kk (g:Int)))) (hg:g≤64):
  bQ P nt ⟨some t, .binOp .shr xt x y yt,ty,ps,af,gd⟩ S (S.put t (vv (I6 ((a / 2 ^ g:Nat):Int)))):=
 bQ.pure rfl ht fun _ _ η _ s w hs=>by
  refine ⟨I6 ((a / 2 ^ g:Nat):Int), ?_,rfl⟩
  have e:Op.shift .shr .i64 (a:Int) kk (g:Int)=pure (I6 ((a / 2 ^ g:Nat):Int)):=by
   rw [shift_shr_i64 (x:=(a:Int)) (y:=(g:Int)) (yk:=kk) (Int.natCast_nonneg g) (by omega),Int.toNat_natCast]
   simp
  simp [execOp,hs.fL hx,hs.fL hy,eqGuard,binOp,e]
theorem eD {xt yt:TypeId} {kk:IntKind} {g:Nat} (ht:Nat.blt t nt=true) (hx:S.op x=some (vv (I6 1))) (hy:S.op y=some (vv (.int kk (g:Int)))) (hg:g≤5):
  bQ P nt ⟨some t, .binOp .shl xt x y yt,ty,ps,af,gd⟩ S (S.put t (vv (I6 ((2 ^ g:Nat):Int)))):=
 bQ.pure rfl ht fun _ _ η _ s w hs=>by
  refine ⟨I6 ((2 ^ g:Nat):Int), ?_,rfl⟩
  have e:∀g:Nat,g≤5→Op.shift .shl .i64 1 kk (g:Int)=pure (I6 ((2 ^ g:Nat):Int)):=fun g hg=>by
   rw [shift_shl_i64 (x:=1) (y:=(g:Int)) (yk:=kk) (Int.natCast_nonneg g) (by omega),Int.toNat_natCast]
   match g,hg with
   | 0,_=>rfl
   | 1,_=>rfl
   | 2,_=>rfl
   | 3,_=>rfl
   | 4,_=>rfl
   | 5,_=>rfl
  have e:=e g hg
  have hw:IntKind.i64.wrap (2 ^ g)=2 ^ g:=by
   match g,hg with
   | 0,_=>rfl
   | 1,_=>rfl
   | 2,_=>rfl
   | 3,_=>rfl
   | 4,_=>rfl
   | 5,_=>rfl
  simp [execOp,hs.fL hx,hs.fL hy,eqGuard,binOp,e,hw]
theorem di {src dst:TypeId} {kk k2:IntKind} {m:Int} (ht:Nat.blt t nt=true) (hx:S.op x=some (vv (.int kk m))) (hs1:(P.underlying src).isSome=true) (hd:P.underlying dst=some (.int k2)) (hw:k2.wrap m=m):
  bQ P nt ⟨some t, .convert src dst x,ty,ps,af,gd⟩ S (S.put t (vv (.int k2 m))):=
 bQ.pure rfl ht fun _ _ η _ s w hs=>by
  refine ⟨.int k2 m, ?_,rfl⟩
  obtain ⟨d,hd'⟩:=Option.isSome_iff_exists.mp hs1
  simp [execOp,hs.fL hx,convert,run_underlying hd',run_underlying hd,Conv.intToInt,hw]
end
section
variable {P:Program} {w0:World} {ω0:kd} {nt:Nat} {S:St}
theorem rQ {w:World} {fn:Func} {tmps:Array Value} {r r' r'':ResultVar} {v v' v'':Value} (h:fn.results= #[r,r',r'']) (h1:(gY tmps r).run P w= .ok v w) (h2:(gY tmps r').run P w= .ok v' w) (h3:(gY tmps r'').run P w= .ok v'' w):(results fn tmps).run P w= .ok (.tuple #[v,v',v'']) w:=by
 rw [jH,h];simp [h1,h2,h3]
theorem s7 {fn:Func} {e:Exit} {r r' r'':ResultVar} {b b' b'':A2} {outs:List (Nm×Ch)} {back:List (Nat×AV)} (he:e= .ret∨e= .normal) (hf:fn.results= #[r,r',r'']) (hr:pY P S r b) (hr':pY P S r' b') (hr'':pY P S r'' b'') (hc:mX S outs) (hb:m7 S back):
  Fin w0 ω0 nt S e (bodyPost P fn (Left w0 ω0.own ω0.ph outs (.tup [b,b',b'']) back)):=by
 refine ⟨fun a w ⟨η,ω,hs⟩=> ?_⟩
 obtain ⟨u,h1,h2⟩:=hs.res hr
 obtain ⟨u',h1',h2'⟩:=hs.res hr'
 obtain ⟨u'',h1'',h2''⟩:=hs.res hr''
 have hd:Den η (.tup [b,b',b'']) (.tuple #[u,u',u'']):=⟨_,rfl,rfl,fun j c hj=>by
  match j,hj with
  | 0,hj=>simp at hj;subst hj;exact ⟨u,by simp,h2⟩
  | 1,hj=>simp at hj;subst hj;exact ⟨u',by simp,h2'⟩
  | 2,hj=>simp at hj;subst hj;exact ⟨u'',by simp,h2''⟩⟩
 have:a.defers= []∧∃v,(results fn a.tmps).run P w= .ok v w∧Left w0 ω0.own ω0.ph outs (.tup [b,b',b'']) back (.returned v) w:=⟨hs.dfr,_,rQ hf h1 h1' h1'',hs.left hc hb hd⟩
 rcases he with rfl | rfl<;>exact this
end
end Go.Proofs.Ytekbhbcgoadciaa
namespace Go.Proofs.Ytekbhbcgoadciaa
open Go.RowKit
theorem A4 (mask g:Nat):((((mask / 2 ^ g) &&& 1:Nat):Int) == 1)=k7 mask g:=by
 unfold k7
 rw [Nat.and_one_is_mod]
 rcases Nat.mod_two_eq_zero_or_one (mask / 2 ^ g) with h | h<;>rw [h]<;>rfl
theorem fg {P:Program} {nt:Nat} {S:St} {t:Nat} {ty:TypeId} {ps:String} {af:Array Edge} {gd:Option (Nat×Bool)} {x:Operand} {xt yt:TypeId} {mask g:Nat} (ht:Nat.blt t nt=true) (hx:S.op x=some (vv (I6 ((mask / 2 ^ g:Nat):Int)))) (hm:mask < 1000000):
  bQ P nt ⟨some t, .binOp .and xt x (.const (I6 1)) yt,ty,ps,af,gd⟩ S (S.put t (vv (I6 (((mask / 2 ^ g) &&& 1:Nat):Int)))):=
 zR ht hx rfl (Nat.lt_of_le_of_lt (Nat.div_le_self _ _) hm) (by decide)
theorem iX {P:Program} {nt:Nat} {S:St} {t:Nat} {ty:TypeId} {ps:String} {af:Array Edge} {gd:Option (Nat×Bool)} {x:Operand} {xt yt:TypeId} {mask g:Nat} (ht:Nat.blt t nt=true) (hx:S.op x=some (vv (I6 (((mask / 2 ^ g) &&& 1:Nat):Int)))):
  bQ P nt ⟨some t, .binOp .eql xt x (.const (I6 1)) yt,ty,ps,af,gd⟩ S (S.put t (vv (.bool (k7 mask g)))):=by
 rw [←A4]
 exact aD ht hx rfl rfl
theorem fj {P:Program} {nt:Nat} {S:St} {t:Nat} {ty:TypeId} {ps:String} {af:Array Edge} {gd:Option (Nat×Bool)} {x:Operand} {xt yt:TypeId} {mask g:Nat} (ht:Nat.blt t nt=true) (hx:S.op x=some (vv (I6 (((mask / 2 ^ g) &&& 1:Nat):Int)))):
  bQ P nt ⟨some t, .binOp .eql xt x (.const (I6 0)) yt,ty,ps,af,gd⟩ S (S.put t (vv (.bool (!k7 mask g)))):=by
 have h:(!k7 mask g)=((((mask / 2 ^ g) &&& 1:Nat):Int) == 0):=by
  unfold k7
  rw [Nat.and_one_is_mod]
  rcases Nat.mod_two_eq_zero_or_one (mask / 2 ^ g) with h | h<;>rw [h]<;>rfl
 rw [h]
 exact aD ht hx rfl rfl
theorem tK (a b:Nat) (ha:a < 1000000) (hb:b < 1000000):bits .or .i64 (a:Int) (b:Int)=((a ||| b:Nat):Int):=by
 have hx:a ||| b < 2 ^ 20:=Nat.or_lt_two_pow (by omega) (by omega)
 have h1:(BitVec.ofInt 64 (a:Int)).toNat=a:=by
  rw [BitVec.ofInt_natCast,BitVec.toNat_ofNat];exact Nat.mod_eq_of_lt (by omega)
 have h2:(BitVec.ofInt 64 (b:Int)).toNat=b:=by
  rw [BitVec.ofInt_natCast,BitVec.toNat_ofNat];exact Nat.mod_eq_of_lt (by omega)
 show IntKind.i64.wrap ((BitVec.ofInt 64 (a:Int) ||| BitVec.ofInt 64 (b:Int)).toNat:Int)=_
 rw [BitVec.toNat_or,h1,h2,IntKind.wrap_i64]
 omega
section
variable {P:Program} {nt:Nat} {S S' S2:St} {t:Nat} {ty:TypeId} {ps:String} {af:Array Edge} {gd:Option (Nat×Bool)} {x y:Operand} {o:Oper}
theorem rE {xt yt:TypeId} {a b:Nat} (ht:Nat.blt t nt=true) (hx:S.op x=some (vv (I6 (a:Int)))) (hy:S.op y=some (vv (I6 (b:Int)))) (ha:a < 1000000) (hb:b < 1000000):
  bQ P nt ⟨some t, .binOp .or xt x y yt,ty,ps,af,gd⟩ S (S.put t (vv (I6 ((a ||| b:Nat):Int)))):=
 bQ.pure rfl ht fun _ _ η _ s w hs=>by
  refine ⟨I6 ((a ||| b:Nat):Int), ?_,rfl⟩
  have hb':=tK a b ha hb
  have e:Op.intBits .or .i64 (a:Int) (b:Int)=pure (I6 ((a ||| b:Nat):Int)):=by rw [←hb'];rfl
  simp [execOp,hs.fL hx,hs.fL hy,eqGuard,binOp,e]
theorem ti {xt yt:TypeId} {kk:IntKind} {g:Nat} (ht:Nat.blt t nt=true) (hx:S.op x=some (vv (I6 2))) (hy:S.op y=some (vv (.int kk (g:Int)))) (hg:g≤5):
  bQ P nt ⟨some t, .binOp .shl xt x y yt,ty,ps,af,gd⟩ S (S.put t (vv (I6 ((2 ^ (g + 1):Nat):Int)))):=
 bQ.pure rfl ht fun _ _ η _ s w hs=>by
  refine ⟨I6 ((2 ^ (g + 1):Nat):Int), ?_,rfl⟩
  have e:∀g:Nat,g≤5→Op.shift .shl .i64 2 kk (g:Int)=pure (I6 ((2 ^ (g + 1):Nat):Int)):=fun g hg=>by
   rw [shift_shl_i64 (x:=2) (y:=(g:Int)) (yk:=kk) (Int.natCast_nonneg g) (by omega),Int.toNat_natCast]
   match g,hg with
   | 0,_=>rfl
   | 1,_=>rfl
   | 2,_=>rfl
   | 3,_=>rfl
   | 4,_=>rfl
   | 5,_=>rfl
  have e:=e g hg
  have hw:IntKind.i64.wrap (2 * 2 ^ g)=2 ^ (g + 1):=by
   match g,hg with
   | 0,_=>rfl
   | 1,_=>rfl
   | 2,_=>rfl
   | 3,_=>rfl
   | 4,_=>rfl
   | 5,_=>rfl
  simp [execOp,hs.fL hx,hs.fL hy,eqGuard,binOp,e,hw]
theorem bQ.pre (h:Wk S S') (k:bQ P nt o S' S2):bQ P nt o S S2:=
 ⟨fun w0 ω0 a w Q hs=>k.go w0 ω0 a w Q (h.go _ _ _ _ _ hs)⟩
end
end Go.Proofs.Ytekbhbcgoadciaa
namespace Go.Proofs.Ytekbhbcgoadciaa
open Go.RowKit
section
variable {P:Program} {nt:Nat} {S S1:St} {w0 w:World} {ω0:kd} {ω:bE} {η:Env} {a:Act} {Q:Exit→Act→World→Prop}
def dZ:List Nat→(List Nat→Prop)→Prop
 | [],p=>p []
 | f :: r,p=>dZ r p∧dZ r (fun ks=>p (f :: ks))
theorem dZ.filter {q:Nat→Bool} :∀ {fs:List Nat} {p:List Nat→Prop},dZ fs p→p (fs.filter q)
 | [],p,h=>h
 | f :: r,p,h=>by
  rw [List.filter_cons]
  split
  ·exact dZ.filter (p:=fun ks=>p (f :: ks)) h.2
  ·exact dZ.filter (p:=p) h.1
theorem dZ.map {p p':List Nat→Prop} (h:∀ks,p ks→p' ks):∀ {fs:List Nat},dZ fs p→dZ fs p'
 | [],k=>h _ k
 | _ :: _,k=>⟨dZ.map h k.1,dZ.map (fun ks=>h _) k.2⟩
theorem jE {sk:List Nat} {L:Array Bool} {nA:Nat} :∀ {ks:List Nat},ks.Nodup→(∀f∈ks,f < nA∧bp sk f=false∧L.getD f false=false)→missing sk L nA=missing (ks ++ sk) L nA + ks.length
 | [],_,_=>rfl
 | f :: r,hn,h=>by
  have h1:=jE (sk:=sk) (L:=L) (nA:=nA) (ks:=r) (List.nodup_cons.1 hn).2 fun g hg=>h g (by simp [hg])
  have h2:=h f (by simp)
  have h3:bp (r ++ sk) f=false:=by
   cases hb:bp (r ++ sk) f with
   | false=>rfl
   | true=>
    exfalso
    rcases List.mem_append.1 (bU.1 hb) with h4 | h4
    ·exact (List.nodup_cons.1 hn).1 h4
    ·rw [bU.2 h4] at h2;exact absurd h2.2.1 (by simp)
  have:=ff (sk:=r ++ sk) (L:=L) f h2.2.2 h3 nA h2.1
  rw [h1,this,List.cons_append,List.length_cons];omega
def y6 (ops:Array Oper) (nA:Nat) (sk:List Nat) (fs:List Nat) (cls:List (List Nat)):Bool:=
 Nat.ble nA ops.size && (List.range ops.size).all fun i=>match ops[i]? with
  | some o=>(Nat.ble nA i || bp sk i || o.after.all fun e=> !Region.binds .any e || (Nat.blt e.on i && !bp sk e.on)) && ((cls.getD i []).all fun j=>o.after.any fun e=>Region.binds .any e && (Nat.beq j e.on || bp (cls.getD e.on []) j)) &&
    ((Nat.blt i nA && !bp sk i) || (List.range nA).all fun j=>bp fs j || bp sk j || bp (cls.getD i []) j) && (Nat.ble nA i || (cls.getD i []).all fun j=>Nat.blt j i)
  | none=>true
structure yp (ops:Array Oper) (nA:Nat) (sk:List Nat) (fs:List Nat) (cls:List (List Nat)):Prop where
 size:nA≤ops.size
 less:∀i o,ops[i]? =some o→i < nA→bp sk i=false→∀e∈o.after,Region.binds .any e=true→e.on < i∧bp sk e.on=false
 dep:∀i o,ops[i]? =some o→∀j∈cls.getD i [],∃e∈o.after,Region.binds .any e=true∧(j=e.on∨j∈cls.getD e.on [])
 late:∀i o,ops[i]? =some o→(nA≤i∨bp sk i=true)→∀j,j < nA→bp sk j=false→bp fs j=false→j∈cls.getD i []
 lt:∀i o,ops[i]? =some o→i < nA→∀j∈cls.getD i [],j < i
theorem uG {ops:Array Oper} {nA:Nat} {sk:List Nat} {fs:List Nat} {cls:List (List Nat)} (h:y6 ops nA sk fs cls=true):yp ops nA sk fs cls:=by
 unfold y6 at h
 simp only [Bool.and_eq_true,Nat.ble_eq] at h
 obtain ⟨h0,h⟩:=h
 have key:∀i o,ops[i]? =some o→_:=fun i o ho=>by
  have hi:i < ops.size:=(Array.getElem?_eq_some_iff.1 ho).1
  have h1:=List.all_eq_true.1 h i (List.mem_range.2 hi)
  simp only [ho,Bool.and_eq_true,Bool.or_eq_true] at h1
  exact h1
 refine ⟨h0,fun i o ho hi hsk e he hb=> ?_,fun i o ho j hj=> ?_,fun i o ho hi j hj hsk hf=> ?_,fun i o ho hi j hj=> ?_⟩
 ·rcases (key i o ho).1.1.1 with (h1 | h1) | h1
  ·have:=Nat.le_of_ble_eq_true h1;omega
  ·rw [hsk] at h1;cases h1
  ·have:=Array.all_eq_true_iff_forall_mem.1 h1 e he
   simp [hb] at this;exact this
 ·have:=List.all_eq_true.1 (key i o ho).1.1.2 j hj
  obtain ⟨e,he,h2⟩:=Array.any_eq_true'.1 this
  simp only [Bool.and_eq_true,Bool.or_eq_true] at h2
  exact ⟨e,he,h2.1,h2.2.imp (fun h=>beq_true h) (fun h=>bU.1 h)⟩
 ·rcases (key i o ho).1.2 with h1 | h1
  ·exfalso
   have h2:i < nA:=by simpa using h1.1
   have h3:bp sk i=false:=by simpa using h1.2
   rcases hi with h4 | h4
   ·omega
   ·rw [h3] at h4;cases h4
  ·have h2:=List.all_eq_true.1 h1 j (List.mem_range.2 hj)
   simp only [Bool.or_eq_true,hsk,hf,Bool.false_eq_true,false_or] at h2
   exact bU.1 h2
 ·rcases (key i o ho).2 with h1 | h1
  ·have:=Nat.le_of_ble_eq_true h1;omega
  ·exact (by have:=List.all_eq_true.1 h1 j hj;simpa using this)
theorem uw {l:List Oper} {nA:Nat} {sk:List Nat} {cls:List (List Nat)} {ds nms:List Nat} {adds done:List Add} {fs:List Nat} (hfn:fs.Nodup) (hfs:∀f∈fs,f < nA∧bp sk f=false) (hcl:yp l.toArray nA sk fs cls) (hdr:ey P nt (S.clear ds nms) cls sk (l.take nA) [] done) (hdn:done.reverse=adds) (ok:jV adds cls ds nms)
  (hk:dZ fs fun ks=>Rest P w0 ω0 nt l.toArray Q (l.length - missing (ks ++ sk) #[] nA) (dT nA (ks ++ sk) l.length) ((S.clear ds nms).part (fun j=> !bp (ks ++ sk) j) adds)):
  ∀(d:Nat) (L:Array Bool) (a:Act) (w:World),missing sk L nA=d→L.size=l.length→(∀j,L.getD j false=true→j < nA∧bp sk j=false)→(∀i,L.getD i false=true→∀j∈cls.getD i [],L.getD j false=true)→
   Sat w0 ω0 nt ((S.clear ds nms).part (fun j=>L.getD j false) adds) a w→wpAny P .any l.toArray Q (l.length - missing sk #[] nA + d) L a w:=by
 have hsz:nA≤l.length:=by have:=hcl.size;simpa using this
 obtain ⟨⟨r,hr,hrl⟩,hob⟩:=hdr.spec
 rw [hdn] at hr hob
 have hal:adds.length=nA:=by rw [hr];simp [hrl];omega
 have hfull:∀(L:Array Bool) (i:Nat),i∈Region.ready .any l.toArray L→(∀i,L.getD i false=true→∀j∈cls.getD i [],L.getD j false=true)→(∃o,l.toArray[i]? =some o∧L.getD i true=false)∧∀j∈cls.getD i [],L.getD j false=true:=by
  intro L i hi hclosed
  obtain ⟨h0,o,ho,he⟩:=mem_ready.1 hi
  refine ⟨⟨o,ho,h0⟩,fun j hj=> ?_⟩
  obtain ⟨e,hem,hb,hje⟩:=hcl.dep i o ho j hj
  have h1:=he e hem hb
  rcases hje with rfl | hje
  ·exact h1
  ·exact hclosed e.on h1 j hje
 have stop:∀(L:Array Bool) (a:Act) (w:World),L.size=l.length→(∀j,L.getD j false=true→j < nA∧bp sk j=false)→missing (fs ++ sk) L nA=0→Sat w0 ω0 nt ((S.clear ds nms).part (fun j=>L.getD j false) adds) a w→wpAny P .any l.toArray Q (l.length - missing sk #[] nA + missing sk L nA) L a w:=by
  intro L a w hs hsub h0 hsat
  have hall:=dr h0
  obtain ⟨ks,hks⟩:∃ks,fs.filter (fun f=> !L.getD f false)=ks:=⟨_,rfl⟩
  have hkn:ks.Nodup:=by rw [←hks];exact hfn.filter _
  have hkm:∀f,f∈ks↔f∈fs∧L.getD f false=false:=fun f=>by rw [←hks];simp
  have hk1:∀f∈ks,f < nA∧bp sk f=false∧L.getD f false=false:=fun f hf=>⟨(hfs f ((hkm f).1 hf).1).1,(hfs f ((hkm f).1 hf).1).2,((hkm f).1 hf).2⟩
  have hdone:∀j,j < nA→bp (ks ++ sk) j=false→L.getD j false=true:=fun j hj hsk=>by
   cases hb:L.getD j false with
   | true=>rfl
   | false=>
    exfalso
    have h1:bp (fs ++ sk) j=true:=by
     cases h2:bp (fs ++ sk) j with
     | true=>rfl
     | false=>rw [hall j hj h2] at hb;cases hb
    rcases List.mem_append.1 (bU.1 h1) with h3 | h3
    ·have:j∈ks ++ sk:=List.mem_append.2 (.inl ((hkm j).2 ⟨h3,hb⟩))
     rw [bU.2 this] at hsk;cases hsk
    ·have:j∈ks ++ sk:=List.mem_append.2 (.inr h3)
     rw [bU.2 this] at hsk;cases hsk
  have hL:L=dT nA (ks ++ sk) l.length:=by
   apply Array.ext
   ·simp [hs,dT]
   ·intro j h1 h2
    have h3:L[j]? =some L[j]:=Array.getElem?_eq_getElem h1
    have h4:=j0 (nA:=nA) (sk:=ks ++ sk) (n:=l.length) (j:=j) (by omega)
    rw [Array.getElem?_eq_getElem h2] at h4
    rw [Option.some.inj h4]
    cases hb:L[j] with
    | true=>
     have hb':L.getD j false=true:=by simp [h1,hb]
     have:=hsub j hb'
     have hnk:bp (ks ++ sk) j=false:=by
      cases h5:bp (ks ++ sk) j with
      | false=>rfl
      | true=>
       exfalso
       rcases List.mem_append.1 (bU.1 h5) with h6 | h6
       ·rw [((hkm j).1 h6).2] at hb';cases hb'
       ·rw [bU.2 h6] at this;exact absurd this.2 (by simp)
     simp [this.1,hnk]
    | false=>
     by_cases hj:j < nA
     ·cases hsk:bp (ks ++ sk) j with
      | true=>simp
      | false=>
       have:=hdone j hj hsk
       simp [h1,hb] at this
     ·simp [hj]
  have hm1:=jE (L:=L) hkn hk1
  have hm2:=jE (sk:=sk) (L:= #[]) (nA:=nA) hkn fun f hf=>⟨(hk1 f hf).1,(hk1 f hf).2.1,rfl⟩
  have hm0:missing (ks ++ sk) L nA=0:=dI hdone
  have hmn:=oI (sk:=sk) (L:= #[]) nA
  have e:l.length - missing (ks ++ sk) #[] nA=l.length - missing sk #[] nA + missing sk L nA:=by omega
  rw [←e]
  have hkk:=dZ.filter (q:=fun f=> !L.getD f false) hk
  rw [hks] at hkk
  refine hkk.go a w ((St.le.wk (lZ (ℓ1:=fun j=> !bp (ks ++ sk) j) (ℓ2:=fun j=>L.getD j false) ok (fun _ _ h=>h) fun j A hj hsk=> ?_) fun _ _ h=>h).go _ _ _ a w hsat) |> fun h=>by rw [←hL] at h;exact h
  have hjl:j < adds.length:=(List.getElem?_eq_some_iff.1 hj).1
  exact hdone j (by omega) (by simpa using hsk)
 intro d
 induction d with
 | zero=>
  intro L a w hm hs hsub hclosed hsat
  have h0:missing (fs ++ sk) L nA=0:=dI fun j hj hsk=>dr hm j hj (by
   cases h5:bp sk j with
   | false=>rfl
   | true=>rw [bU.2 (List.mem_append.2 (.inr (bU.1 h5)))] at hsk;cases hsk)
  have:=stop L a w hs hsub h0 hsat
  rw [hm] at this;exact this
 | succ d ih=>
  intro L a w hm hs hsub hclosed hsat
  by_cases h0:missing (fs ++ sk) L nA=0
  ·have:=stop L a w hs hsub h0 hsat
   rw [hm] at this;exact this
  refine ⟨fun hnil=> ?_,fun i hi=> ?_⟩
  ·exfalso
   obtain ⟨j,hj,hjs',hjf,hlo⟩:=fe (k:=nA) (by omega:missing sk L nA≠0)
   have hjl:j < l.length:=by omega
   have hjs:j < L.size:=by omega
   have:j∈Region.ready .any l.toArray L:=by
    refine mem_ready.2 ⟨?_,l[j],by simp [hjl],fun e he hb=> ?_⟩
    ·simp [hjs] at hjf ⊢
     exact hjf
    ·have h5:=hcl.less j l[j] (by simp [hjl]) hj hjs' e he hb
     exact hlo e.on h5.1 h5.2
   rw [hnil] at this;cases this
  ·obtain ⟨⟨o,ho,hi0⟩,hdep⟩:=hfull L i hi hclosed
   have hil:i < l.length:=by have:=(Array.getElem?_eq_some_iff.1 ho).1;simpa using this
   have his:i < L.size:=by omega
   have hif:L.getD i false=false:=by simp [his] at hi0 ⊢;exact hi0
   have hnl:¬(nA≤i∨bp sk i=true):=fun h=>by
    refine h0 (dI (sk:=fs ++ sk) (L:=L) (k:=nA) fun j hj hsk=> ?_)
    have h5:bp fs j=false∧bp sk j=false:=by
     constructor
     ·cases h6:bp fs j with
      | false=>rfl
      | true=>rw [bU.2 (List.mem_append.2 (.inl (bU.1 h6)))] at hsk;cases hsk
     ·cases h6:bp sk j with
      | false=>rfl
      | true=>rw [bU.2 (List.mem_append.2 (.inr (bU.1 h6)))] at hsk;cases hsk
    exact hdep j (hcl.late i o ho h j hj h5.2 h5.1)
   have hiA:i < nA:=by
    rcases Nat.lt_or_ge i nA with h | h
    ·exact h
    ·exact absurd (.inl h) hnl
   have hisk:bp sk i=false:=by
    cases hsk:bp sk i with
    | false=>rfl
    | true=>exact absurd (.inr hsk) hnl
   have hot:(l.take nA)[i]? =some o:=by rw [List.getElem?_take,if_pos hiA];simpa using ho
   obtain ⟨A,hA,hg,hstp⟩:=hob i o hot (by simpa using hisk)
   simp only [List.length_nil,Nat.zero_add] at hA hstp
   have hle:((S.clear ds nms).fu (bp (cls.getD i [])) (adds.take i).reverse).le ((S.clear ds nms).part (fun j=>L.getD j false) adds):=fH ok (fun j B hj=>by
     rw [List.reverse_reverse] at hj
     rw [List.getElem?_take] at hj;split at hj
     ·exact hj
     ·cases hj) fun j B _ hj=>hdep j (bU.1 hj)
   have hst:=(hstp _ hle).go w0 ω0 a w Q hsat
   unfold wpOp
   simp only [ho]
   rw [if_pos (by simp [Region.wanted,hg])]
   refine .inl (Oper.wp_mono (fun a' w' hsat'=> ?_) hst)
   have hsat2:=(qY ok hA hif fun j hj hm'=>by have:=hclosed j hj i hm';rw [hif] at this;cases this).go _ _ _ a' w' hsat'
   have hnew:∀j,(L.setIfInBounds i true).getD j false=(Nat.beq j i || L.getD j false):=fun j=>by
    by_cases e:j=i
    ·subst e;simp [his]
    ·rw [getD_set_ne false (fun e'=>e e'.symm),cZ e,Bool.false_or]
   refine ih (L.setIfInBounds i true) a' w' ?_ (by simp [hs]) (fun j hj=> ?_) (fun j hj k hk'=> ?_) ?_
   ·have:=gm his hif hisk nA hiA;omega
   ·rw [hnew] at hj
    by_cases e:j=i
    ·rw [e];exact ⟨hiA,hisk⟩
    ·rw [cZ e,Bool.false_or] at hj;exact hsub j hj
   ·rw [hnew] at hj ⊢
    by_cases e:j=i
    ·subst e;rw [hdep k hk'];simp
    ·rw [cZ e,Bool.false_or] at hj;rw [hclosed j hj k hk'];simp
   ·have:(fun j=>(L.setIfInBounds i true).getD j false)=fun j=>(Nat.beq j i || L.getD j false):=funext hnew
    rw [this];exact hsat2
theorem lz {id:Nat} {l:List Oper} (nA:Nat) (sk:List Nat) (fs:List Nat) (cls:List (List Nat)) (ds nms:List Nat) {done:List Add} (hm:P.follows .mixedOrders=true) (hcl:y6 l.toArray nA sk fs cls=true) (hf':(nodupB fs && fs.all fun f=>Nat.blt f nA && !bp sk f)=true) (hdr:ey P nt (S.clear ds nms) cls sk (l.take nA) [] done) (ok:qK done.reverse cls ds nms=true)
  (hk:dZ fs fun ks=>Rest P w0 ω0 nt l.toArray Q (l.length - missing (ks ++ sk) #[] nA) (dT nA (ks ++ sk) l.length) ((S.clear ds nms).fu (fun j=> !bp (ks ++ sk) j) done)):eC P w0 ω0 nt S (.region id l.toArray true) Q:=by
 have hc:=uG hcl
 have hsz:nA≤l.length:=by have:=hc.size;simpa using this
 have hk':=dZ.map (p':=fun ks=>Rest P w0 ω0 nt l.toArray Q (l.length - missing (ks ++ sk) #[] nA) (dT nA (ks ++ sk) l.length) ((S.clear ds nms).part (fun j=> !bp (ks ++ sk) j) done.reverse)) (fun ks hk=>
  ⟨fun a w hs=>hk.go a w ((St.le.wk (fH (ef ok) (fun _ _ h=>h) fun _ _ _ h=>h) fun _ _ h=>h).go _ _ _ a w hs)⟩) hk
 have hfn:fs.Nodup:=by simp only [Bool.and_eq_true] at hf';exact iG hf'.1
 have hfs:∀f∈fs,f < nA∧bp sk f=false:=fun f hf=>by
  simp only [Bool.and_eq_true] at hf'
  have:=List.all_eq_true.1 hf'.2 f hf
  simpa using this
 have hle:∀k,missing sk #[] k≤k:=fun k=>by
  induction k with
  | zero=>exact Nat.le_refl _
  | succ k ih=>simp only [missing];split<;>omega
 refine ⟨fun a w hs=>wp_region_any hm ?_⟩
 have hfin:=uw hfn hfs hc hdr rfl (ef ok) hk' (missing sk #[] nA) (Array.replicate l.length false) a { w with drawn:=w.drawn + 1 } ?_ (by simp) (fun j hj=> ?_) (fun i hi=> ?_) ?_
 ·have:=hle nA
  rw [show l.length - missing sk #[] nA + missing sk #[] nA=l.length by omega] at hfin
  simpa using hfin
 ·have:∀k,k≤l.length→missing sk (Array.replicate l.length false) k=missing sk #[] k:=fun k=>by
   induction k with
   | zero=>intro _;rfl
   | succ k ih=>
    intro hk
    simp only [missing]
    rw [ih (by omega)]
    have:(Array.replicate l.length false).getD k false=false:=by simp [show k < l.length by omega]
    rw [this];rfl
  exact this nA hsz
 ·exfalso
  by_cases h:j < l.length
  ·simp [h] at hj
  ·simp [h] at hj
 ·exfalso
  by_cases h:i < l.length
  ·simp [h] at hi
  ·simp [h] at hi
 ·have h1:=(lJ S ds nms).go _ _ _ a _ (l6 hs)
  have hf:∀j,(Array.replicate l.length false).getD j false=false:=fun j=>by
   by_cases h:j < l.length<;>simp [h]
  refine (Wk.less (S:=S.clear ds nms) (S':=(S.clear ds nms).part (fun j=>(Array.replicate l.length false).getD j false) done.reverse) (fun t av h=> ?_) (fun x c h=> ?_) fun _ _ h=>h).go _ _ _ a _ h1
  ·have h:(match sh (fun j=>(Array.replicate l.length false).getD j false) 0 done.reverse t with | some av=>some av | none=>(S.clear ds nms).sl t)=some av:=h
   split at h
   ·rename_i av' h2
    obtain ⟨j,A,_,h3,_⟩:=fc h2
    rw [hf] at h3;cases h3
   ·exact h
  ·have h:(match sg (fun j=>(Array.replicate l.length false).getD j false) 0 done.reverse x with | some c=>some c | none=>(S.clear ds nms).ch x)=some c:=h
   split at h
   ·rename_i av' h2
    obtain ⟨j,A,_,h3,_⟩:=eW h2
    rw [hf] at h3;cases h3
   ·exact h
end
end Go.Proofs.Ytekbhbcgoadciaa
namespace Go.Proofs.Ytekbhbcgoadciaa
open Go.RowKit
def tk:bE:=fun _=>none
def Hv (w:World) (x:Nm) (c:Ch) (h:Hd) (r:Nat→Hd):Prop:=∀η:Env,(∀i,η.r x i=r i)→dC η tk w x h c
abbrev Lay:=List (Nm×(Ch×Hd×(Nat→Hd)))
def nO (l:Lay):Env:= { h:=fun x=>(lk x l).map fun q=>q.2.1,r:=fun x i=>match lk x l with | some q=>q.2.2 i | none=>⟨none,0,1⟩ }
theorem zj {α β:Type} (f:α→β):∀(l:List (Nat×α)) (x:Nat),lk x (l.map fun p=>(p.1,f p.2))=(lk x l).map f
 | [],x=>rfl
 | p :: r,x=>by
  simp only [List.map_cons,lk]
  rw [zj f r x]
  cases Nat.beq x p.1<;>rfl
theorem mem_of {w:World} {l:Lay} (h:∀p∈l,Hv w p.1 p.2.1 p.2.2.1 p.2.2.2):Mem (nO l) tk w (fun x=>lk x (l.map fun p=>(p.1,p.2.1))):=by
 have hl:∀x,lk x (l.map fun p=>(p.1,p.2.1))=(lk x l).map fun q=>q.1:=fun x=>zj (fun q=>q.1) l x
 refine ⟨fun x c hx=> ?_,fun x hx=> ?_⟩
 ·replace hx:=(hl x).symm.trans hx
  obtain ⟨q,hq,rfl⟩:=Option.map_eq_some_iff.1 hx
  refine ⟨q.2.1,by simp [nO,hq],h (x,q) (jI hq) _ fun i=>by simp [nO,hq]⟩
 ·replace hx:=(hl x).symm.trans hx
  have:lk x l=none:=by simpa using hx
  simp [nO,this]
theorem u9 {l:Lay} {x:Nm} {q:Ch×Hd×(Nat→Hd)} {n:Nat} (h:lk x l=some q):cq (nO l) (.sl x 0 n) (.slice q.2.1.ao n q.2.1.c):=
 ⟨⟨_,_,rfl⟩,fun h' hh=>by
  have hh:(lk x l).map (fun q=>q.2.1)=some h':=hh
  rw [h] at hh;simp at hh;subst hh
  exact ⟨_,rfl,fun _=>rfl,fun h0=>absurd h0 (by omega)⟩⟩
theorem Dz {E:Nat} {w:World} {v:Value} {zs:List Int} (x E':Nat) (h:pL E w v zs):∃hd r,v= .slice hd.ao zs.length hd.c∧Hv w x ⟨false,E',1, .bG (aJ zs)⟩ hd r:=by
 obtain ⟨ao,n,c,rfl,ho⟩:=h
 have hl:=ho.len
 simp at hl
 subst hl
 refine ⟨⟨ao,c,1⟩,fun _=>⟨none,0,1⟩,rfl,fun η _=>⟨rfl, ?_,fun j hj=> ?_⟩⟩
 ·show (aJ zs).length≤c * 1
  rw [an,Nat.mul_one]
  rcases Nat.eq_zero_or_pos zs.length with h0 | h0
  ·omega
  ·obtain ⟨g,_,_,_,h1,_⟩:=ho.form h0;exact h1
 ·have hj:j < zs.length:=by have:j < (aJ zs).length:=hj;rwa [an] at this
  obtain ⟨g,rfl,_,hlt,_,hc,_⟩:=ho.form (by omega)
  refine ⟨g,0,I6 (aC zs j),rfl,rfl,hlt, ?_,al hj⟩
  rw [Nat.zero_add,hc j hj]
  exact al hj
theorem CQ {E1 E:Nat} {w:World} {lo hi:Nat} {v:Value} {zss:List (List Int)} (x E' E1':Nat) (h:jR E1 E w lo hi v zss):∃hd r,v= .slice hd.ao zss.length hd.c∧Hv w x ⟨false,E',1, .rows E1' (bK zss) []⟩ hd r:=by
 obtain ⟨ao,n,c,us,rfl,ho⟩:=h
 have hl:=ho.len
 subst hl
 have hr:∀j,∃q:Hd,q.k=1∧∀u d,us[j]? =some u→zss[j]? =some d→u=Value.slice q.ao d.length q.c∧∀(η:Env),BC tk w q (aJ d).length fun i u=>(aJ d)[i]? =some u:=fun j=>by
  by_cases hj:j < zss.length
  ·obtain ⟨u,d,hu,hd,⟨a',n',c',rfl,h1⟩,_⟩:=ho.get hj
   have hl:=h1.len
   simp at hl
   subst hl
   refine ⟨⟨a',c',1⟩,rfl,fun u2 d2 hu2 hd2=> ?_⟩
   rw [hu] at hu2;rw [hd] at hd2
   obtain rfl:=Option.some.inj hu2
   obtain rfl:=Option.some.inj hd2
   obtain ⟨hd',r',e1,e2⟩:=Dz x E' (⟨a',_,c',rfl,h1⟩:pL E1 w _ d)
   injection e1 with f1 f2 f3
   refine ⟨rfl,fun η=> ?_⟩
   have e3:=e2 { h:=fun _=>none,r:=fun _=>r' } (fun _=>rfl)
   obtain ⟨e4,e5⟩:=e3
   have e5:BC tk w hd' (aJ d).length _:=e5
   have:hd'=⟨a',c',1⟩:=by
    cases hd';simp at f1 f3 e4;simp [f1,f3,e4]
   subst this
   exact e5
  ·refine ⟨⟨none,0,1⟩,rfl,fun u d _ hd=> ?_⟩
   rw [List.getElem?_eq_none (by omega)] at hd;cases hd
 refine ⟨⟨ao,c,1⟩,fun j=>Classical.choose (hr j),rfl,fun η he=>⟨rfl, ?_,fun j hj=> ?_⟩⟩
 ·show (bK zss).length≤c * 1
  rw [aw,Nat.mul_one]
  rcases Nat.eq_zero_or_pos zss.length with h0 | h0
  ·omega
  ·obtain ⟨g,_,_,_,h1,_⟩:=ho.own.form h0;exact h1
 ·have hj:j < zss.length:=by have:j < (bK zss).length:=hj;rwa [aw] at this
  obtain ⟨g,rfl,_,hlt,_,hc,_⟩:=ho.own.form (by omega)
  obtain ⟨u,d,hu,hd,h1,_⟩:=ho.get hj
  have hs:=Classical.choose_spec (hr j)
  obtain ⟨k1,k2⟩:=hs.2 u d hu hd
  refine ⟨g,0,u,rfl,rfl,hlt,by rw [Nat.zero_add,hc j hj,hu],by rw [k1];rfl,fun _ vs hvs=> ?_⟩
  have hvd:vs=aJ d:=by
   have:(bK zss)[j]? =some (aJ d):=by simp [bK,hd]
   rw [this] at hvs;exact (Option.some.inj hvs).symm
  subst hvd
  rw [he j]
  exact ⟨by rw [k1,an],hs.1,k2 η⟩
theorem FC.call {P:Program} {f:FuncId} {ins outs:List (Nm×Ch)} {args:List AV} {res:AV} {back:List (Nat×AV)} (h:FC P f ins args outs res back) {w:World} {l:Lay} {us:List Value} (hl:∀p∈l,Hv w p.1 p.2.1 p.2.2.1 p.2.2.2) (hi:(l.map fun p=>(p.1,p.2.1))=ins)
  (hd:l7 (nO l) args us):Calls P f us.toArray w fun e w'=>∃v η ω,e= .returned v∧Den η res v∧Mem η ω w' (fun x=>lk x outs)∧Below w.heap.size w w'∧∀b,b < w.heap.size→ω b=none:=by
 subst hi
 refine (h w (nO l) tk us (mem_of hl) hd).mono ?_
 rintro e w' ⟨v,η,ω,he,h1,h2,h3,_⟩
 exact ⟨v,η,ω,he,h1,h2,⟨h3.os,h3.tape,h3.output,h3.size,fun b hb=>(h3.block b hb rfl).1⟩,fun b hb=>(h3.block b hb rfl).2⟩
section
variable {η:Env} {ω:bE} {w':World} {lo:Nat} {outs:List (Nm×Ch)}
theorem dh.own {ow:Nm×Option Nat} {h:Hd} {E:Nat} {xs:List Value} {len:Nat} {cell:Nat→Value→Prop} (hk:h.k=1) (hv:dh ω w' ow h E len cell) (hlo:∀b,b < lo→ω b=none) (hn:len≤4398046511104) (hx:xs.length=len)
  (hc:∀j u,j < len→(∃b o,h.ao=some ⟨b,o,none⟩∧w'.cell? ⟨b,o + j,none⟩=some u)→xs[j]? =some u):
  Own w' lo E h.ao len h.c xs∧∀g,bk h.ao=some g→g < w'.heap.size∧ω g=some ow:=by
 rcases hv with ⟨h1,h2,h3⟩ | ⟨b,o,cs,h1,h2,h3,⟨h4,h4'⟩,h5,h6,h7⟩
 ·subst h3
  refine ⟨⟨⟨by simpa using hx, .inl ⟨by rw [h1,h2],rfl⟩⟩,hn⟩,fun g hg=>by rw [h1] at hg;cases hg⟩
 ·subst h4
  rw [hk,Nat.mul_one] at h4' h5
  have hb:lo≤b:=by
   rcases Nat.lt_or_ge b lo with h8 | h8
   ·rw [hlo b h8] at h2;cases h2
   ·exact h8
  refine ⟨⟨⟨by simpa using hx, .inr ⟨b,h.c,cs,by rw [h1],hb,h3,h5,h6,by rw [h4',Nat.mul_one], ?_⟩⟩,hn⟩,fun g hg=> ?_⟩
  ·apply List.ext_getElem?
   intro j
   rw [Nat.mul_one,List.getElem?_take]
   by_cases hj:j < len
   ·obtain ⟨u,hu,_⟩:=h7 j hj
    rw [Nat.zero_add] at hu
    rw [if_pos hj,hc j u hj ⟨b,0,h1,by rw [Nat.zero_add,cell_of_row w' b j cs E (0,0) h3];exact hu⟩]
    simpa using hu
   ·rw [if_neg hj,List.getElem?_eq_none (by omega)]
  ·rw [h1] at hg
   simp [bk] at hg
   subst hg
   exact ⟨ed h3,h2⟩
end
theorem dL {P:Program} {f:FuncId} {ins:List (Nm×Ch)} {args:List AV} {r:Value} (h:∀w η ω us,Mem η ω w (fun x=>lk x ins)→l7 η args us→Calls P f us.toArray w fun e w'=>e= .returned r∧Below w.heap.size w w'):FC P f ins args [] (vv r) []:=by
 intro w η ω us hm hd
 refine (h w η ω us hm hd).mono ?_
 rintro e w' ⟨rfl,hb⟩
 exact ⟨r, { h:=fun _=>none,r:=η.r },ω,rfl,rfl,⟨fun x c hx=>(nomatch hx),fun x _=>rfl⟩,⟨hb.os,hb.tape,hb.output,hb.size,fun b hlt hn=>⟨hb.block b hlt,hn⟩⟩,fun t av ht=>(nomatch ht)⟩
section
variable {η:Env} {ω:bE} {w:World} {ins:List (Nm×Ch)}
theorem Bb {x:Nat} {own:Bool} {E:Nat} {zs:List Int} {v:Value} (hm:Mem η ω w (fun x=>lk x ins)) (hx:lk x ins=some ⟨own,E,1, .bG (aJ zs)⟩) (hv:cq η (.sl x 0 zs.length) v) (hn:zs.length≤17592186044416):∃ao c,v= .slice ao zs.length c∧cY w ao zs.length zs:=by
 obtain ⟨h,h1,h2,h3⟩:=hm.1 x _ hx
 obtain ⟨ao,rfl,h4,_⟩:=hv.2 h h1
 have h3:j6 own ω w (x,none) h E (aJ zs).length (bW η ω w own x (.bG (aJ zs))):=h3
 rw [h4 rfl]
 refine ⟨_,_,rfl,rfl,hn,fun h0=> ?_⟩
 obtain ⟨b,o,u,f1,_,_⟩:=h3.get (j:=0) (by rw [an];exact h0)
 refine ⟨b,o,f1,fun j hj=> ?_⟩
 obtain ⟨b',o',u',g1,g2,g3⟩:=h3.get (j:=j) (by rw [an];exact hj)
 rw [f1] at g1;injection g1 with g1;injection g1 with g1 g1';subst g1 g1'
 have g3:(aJ zs)[j]? =some u':=g3
 rw [al hj] at g3
 rw [g2,←g3]
theorem Cd {x:Nat} {own:Bool} {E F:Nat} {zss:List (List Int)} {v:Value} (hm:Mem η ω w (fun x=>lk x ins)) (hx:lk x ins=some ⟨own,E,1, .rows F (bK zss) []⟩) (hv:cq η (.sl x 0 zss.length) v) (hn:zss.length≤17592186044416) (hr:∀zs∈zss,zs.length≤17592186044416):∃ao c,v= .slice ao zss.length c∧fx w ao zss.length zss:=by
 obtain ⟨h,h1,h2,h3⟩:=hm.1 x _ hx
 obtain ⟨ao,rfl,h4,_⟩:=hv.2 h h1
 have h3:j6 own ω w (x,none) h E (bK zss).length (bW η ω w own x (.rows F (bK zss) [])):=h3
 rw [h4 rfl]
 refine ⟨_,_,rfl,rfl,hn,fun h0=> ?_⟩
 obtain ⟨b,o,u,f1,_,_⟩:=h3.get (j:=0) (by rw [aw];exact h0)
 refine ⟨b,o,f1,fun j hj=> ?_⟩
 obtain ⟨b',o',u',g1,g2,g3,g4⟩:=h3.get (j:=j) (by rw [aw];exact hj)
 rw [f1] at g1;injection g1 with g1;injection g1 with g1 g1';subst g1 g1'
 obtain ⟨k1,k2,k3⟩:=g4 (by simp) (aJ (bu zss j)) (ar hj)
 rw [an] at k1
 refine ⟨u',g2,_,_,_,k1,rfl,hr _ (fD hj),fun h0=> ?_⟩
 obtain ⟨b2,o2,u2,m1,_,_⟩:=k3.get (j:=0) (by rw [an];exact h0)
 refine ⟨b2,o2,m1,fun i hi=> ?_⟩
 obtain ⟨b3,o3,u3,n1,n2,n3⟩:=k3.get (j:=i) (by rw [an];exact hi)
 rw [m1] at n1;injection n1 with n1;injection n1 with n1 n1';subst n1 n1'
 rw [al hi] at n3
 rw [n2,←n3]
end
end Go.Proofs.Ytekbhbcgoadciaa
namespace Go.Proofs.Ytekbhbcgoadciaa
open Go.RowKit
section
variable {P:Program} {nt:Nat} {S S1 S2:St} {w0 w:World} {ω0:kd} {ω:bE} {η:Env} {a:Act} {Q:Exit→Act→World→Prop} {ops:Array Oper} {rest:List Oper}
variable {t:Nat} {ty:TypeId} {ps:String} {af:Array Edge} {gd:Option (Nat×Bool)} {x y:Operand} {av:AV} {o:Oper}
theorem x6 (x y:Nat):Nat.beq x y=Nat.beq y x:=by
 cases h:Nat.beq x y with
 | true=>rw [beq_true h];simp
 | false=>
  cases h2:Nat.beq y x with
  | false=>rfl
  | true=>rw [beq_true h2] at h;simp at h
theorem mg (x y:Nm) (c:Ch):hZ [(x,c)] y=Nat.beq x y:=by
 unfold hZ;simp only [lk]
 rw [x6 x y]
 cases Nat.beq y x<;>rfl
theorem r6 (x:Nm) (c:Ch) (a:A1):a.bad (hZ [(x,c)]) (gJ [])=a.has x:=by
 cases a with
 | val v=>rfl
 | any=>rfl
 | sl y _ _=>exact mg x y c
 | ptr y _=>show (hZ [(x,c)] y && !gJ [] y)=_;rw [mg];simp [gJ,A1.has]
 | esl y _ _ _=>exact mg x y c
 | eptr y _ _=>exact mg x y c
 | clo f xs=>show xs.any (fun p=>hZ [(x,c)] p.1 && !gJ [] p.1)=xs.any fun p=>Nat.beq x p.1;congr 1;funext p;rw [mg];simp [gJ]
theorem tH (x:Nm) (c:Ch) (a:A2):a.bad (hZ [(x,c)]) (gJ [])=a.has x:=by
 cases a with
 | one a=>exact r6 x c a
 | agg l=>show l.any _=l.any _;congr 1;funext a;exact r6 x c a
theorem tP (x:Nm) (c:Ch) (a:AV):a.bad (hZ [(x,c)]) (gJ [])=a.has x:=by
 cases a with
 | s a=>exact tH x c a
 | tup l=>show l.any _=l.any _;congr 1;funext a;exact tH x c a
theorem wK (x:Nm) (c d:Ch):d.clean (hZ [(x,c)]) (gJ [])=d.forget x:=by
 obtain ⟨ow,E,k,d⟩:=d
 unfold Ch.clean Ch.forget dQ.clean dQ.forget
 cases d with
 | flat l=>
  have:(l.map fun a=>bif a.bad (hZ [(x,c)]) (gJ []) then A1.any else a)=l.map (A1.forget x):=List.map_congr_left fun a _=>by rw [r6];rfl
  simp only [this]
 | bG vs=>rfl
 | rows F vss hs=>rfl
 | mix cs=>rfl
theorem xR {ins:List (Nm×Ch)} {t:Nat} {res:AV} {x:Nm} {c:Ch} (hro:(ins.all fun p=> !p.2.own)=true):Wk ((S.after ins [(x,c)] []).B6 (some t) res) ((S.new x c).put t res):=by
 have hc:∀x,ft ins x=false:=fun x=>by
  unfold ft
  cases h:lk x ins with
  | none=>rfl
  | some c=>have:=List.all_eq_true.1 hro _ (jI h);simpa using this
 refine Wk.less (fun t' av h=> ?_) (fun y d h=> ?_) fun t' av h=> ?_
 ·rw [gy] at h
  show ((S.after ins [(x,c)] []).put t res).sl t'=some av
  rw [gy]
  by_cases e:t'=t
  ·rw [if_pos e] at h ⊢;exact h
  ·rw [if_neg e] at h ⊢
   obtain ⟨h1,h2⟩:=zq h
   show ((S.sl t').bind fun av=>bif av.bad (hZ [(x,c)]) (gJ []) then none else some av)=some av
   rw [h1,Option.bind_some,tP,h2];rfl
 ·have h':(S.new x c).ch y=some d:=h
  clear h
  rw [rv] at h'
  show (match lk y [(x,c)] with | some c=>some c | none=>bif ft ins y then none else (S.ch y).map (Ch.clean (hZ [(x,c)]) (gJ [])))=some d
  simp only [lk]
  by_cases e:y=x
  ·rw [if_pos e] at h';subst e;simpa using h'
  ·rw [if_neg e] at h'
   rw [cZ e,cond_false,hc,cond_false]
   have:Ch.clean (hZ [(x,c)]) (gJ [])=Ch.forget x:=funext fun d=>wK x c d
   rw [this];exact h'
 ·have h:(S.new x c).ph t'=some av:=h
  obtain ⟨h1,h2⟩:=zi h
  show ((S.ph t').bind fun av=>bif av.bad (hZ [(x,c)]) (gJ []) then none else some av)=some av
  rw [h1,Option.bind_some,tP,h2];rfl
theorem bz {f:FuncId} {xs:Array Operand} {ts:Array TypeId} {ins:List (Nm×Ch)} {args args':List AV} {res:AV} {back:List (Nat×AV)} {x:Nm} {c:Ch}
  (hfc:FC P f ins args [(x,c)] res back) (hf:qS P f=true) (ht:Nat.blt t nt=true) (hx':Az S xs.toList=some args') (hto:tT args' args) (hin:pz S ins) (hro:(ins.all fun p=> !p.2.own)=true) (hnr:(res.names.all (hZ [(x,c)]))=true) (hno:([(x,c)].all fun p=>p.2.own && p.2.names.all (hZ [(x,c)]))=true):
  bQ P nt ⟨some t, .call { callee:= .value (.func f),args:=xs,argTypes:=ts },ty,ps,af,gd⟩ S ((S.new x c).put t res):=
 (ct (kp:= []) hfc hf (by simp [ht]) hx' hto hin trivial hnr hno).wk (xR hro)
theorem wb {x:Nm×Option Nat} {w':World} {lo E n c:Nat} {ao:Option Addr} {xs:List Value} (h:Own w' lo E ao n c xs) {ω':bE} (ho:∀g,bk ao=some g→ω' g=some x):dh ω' w' x ⟨ao,c,1⟩ E xs.length fun j u=>xs[j]? =some u:=by
 have hl:=h.len
 rcases h.1.2 with ⟨h2,h3⟩ | ⟨g,cap,cur,hv,hg,hh,h4,h5,h6,h7⟩
 ·injection h2 with e1 e2 e3
  subst e1 e3
  exact .inl ⟨rfl,rfl,by omega⟩
 ·injection hv with e1 e2 e3
  subst e1 e3
  refine .inr ⟨g,0,cur,rfl,ho g rfl,hh,⟨rfl,h6⟩,by show xs.length≤c * 1;omega,h5,fun j hj=> ?_⟩
  have h8:xs[j]? =some xs[j]:=List.getElem?_eq_getElem hj
  refine ⟨xs[j], ?_,h8⟩
  have h9:(cur.toList.take (n * 1))[j]? =some xs[j]:=by rw [h7];exact h8
  rw [List.getElem?_take] at h9
  split at h9
  ·rw [Nat.zero_add];simpa using h9
  ·cases h9
theorem mq {f:FuncId} {ins:List (Nm×Ch)} {args:List AV} {x E:Nat} {zs:List Int} (h:∀w η ω us,Mem η ω w (fun x=>lk x ins)→l7 η args us→Calls P f us.toArray w fun e w'=>∃ao c,e= .returned (.slice ao zs.length c)∧Own w' w.heap.size E ao zs.length c (aJ zs)∧Below w.heap.size w w'):
  FC P f ins args [(x,⟨true,E,1, .bG (aJ zs)⟩)] (o1 (.sl x 0 zs.length)) []:=by
 intro w η ω us hm hd
 refine (h w η ω us hm hd).mono ?_
 rintro e w' ⟨ao,c,rfl,ho,hb⟩
 refine ⟨_, { h:=fun y=>if y=x then some ⟨ao,c,1⟩ else none,r:=η.r },fun b=>if bk ao=some b then some (x,none) else ω b,rfl,⟨⟨_,_,rfl⟩,fun hd' he=> ?_⟩,⟨fun y d hy=> ?_,fun y hy=> ?_⟩,⟨hb.os,hb.tape,hb.output,hb.size,fun b hlt hn=>⟨hb.block b hlt, ?_⟩⟩,fun t av ht=>(nomatch ht)⟩
 ·simp only [if_true,Option.some.injEq] at he
  subst he
  exact ⟨_,rfl,fun _=>rfl,fun h0=>absurd h0 (by omega)⟩
 ·have hy:lk y [(x,(⟨true,E,1, .bG (aJ zs)⟩:Ch))]=some d:=hy
  simp only [lk] at hy
  cases hb':Nat.beq y x with
  | false=>rw [hb'] at hy;simp at hy
  | true=>
   rw [hb'] at hy;simp at hy;subst hy
   obtain rfl:=beq_true hb'
   exact ⟨⟨ao,c,1⟩,if_pos rfl,rfl,wb ho fun g hg=>if_pos hg⟩
 ·have hy:lk y [(x,(⟨true,E,1, .bG (aJ zs)⟩:Ch))]=none:=hy
  have:y≠x:=fun e=>by subst e;simp [lk] at hy
  exact if_neg this
 ·show (if bk ao=some b then some (x,none) else ω b)=none
  rw [if_neg fun e=>by have:=(ho.lt b e).1;omega];exact hn
theorem ml {T E F z m:Nat} {x0:Operand} {vs:List Value} (ht:Nat.blt t nt=true) (hT:mY P T E 1=true) (hx:S.op x0=some (o1 (.sl z 0 m))) (hz:S.ch z=some ⟨true,F,1, .bG vs⟩) (hm:vs.length=m) (hzt:Nat.beq z t=false):
  bQ P nt ⟨some t, .buildSlice T 1 #[(0,x0)],ty,ps,af,gd⟩ S (((S.rm z).new t ⟨true,E,1, .rows F [vs] []⟩).put t (o1 (.sl t 0 1))):=
 bQ.of _ fun w0 ω0 η ω a w hs=>by
  have hne:z≠t:=fun e=>by rw [e] at hzt;simp at hzt
  subst hm
  obtain ⟨i,zz,k1,k2,k3,k4,k5,k6⟩:=dA hT
  have hd0:cq η (.sl z 0 vs.length) (a.eval x0):=hs.gk hx
  have ho:(a.eval x0).oneCell'=true:=hd0.one fun v hv=>by cases hv
  obtain ⟨hz',z1,z2,z3⟩:=hs.chunk hz
  have z2:hz'.k=1:=z2
  have z3:dh ω w (z,none) hz' F vs.length (bW η ω w true z (.bG vs)):=z3
  obtain ⟨az,hav,q1,_⟩:=hd0.2 hz' z1
  refine ⟨.slice (some ⟨w.heap.size,0,none⟩) 1 1,w.alloc (.cells #[a.eval x0] E), ?_, ?_⟩
  ·simp [execOp,Instr.buildSlice,run_underlying k1,sizeOf,typeInfo,k2,k3,zeroValue,k5,Instr.fill,newRow,jg ho,vg]
  ·have hSz:(S.rm z).ch z=none:=by simp [eH]
   have calm:Calm (S.rm z) ω w (bE.iB (bE.new ω w.heap.size (t,none)) z t 0) (w.alloc (.cells #[a.eval x0] E)):=⟨rfl,rfl,rfl,by simp,fun b hb hl=>by
    have hnew:bE.new ω w.heap.size (t,none) b=ω b:=by simp [bE.new,Nat.ne_of_lt hb]
    refine ⟨Below.heap_alloc w _ b hb, ?_⟩
    have h1:ω b≠some (z,none):=by
     rcases hl with h0 | ⟨y,j,c,h0,h1⟩
     ·rw [h0];simp
     ·rw [h0]
      intro e
      simp at e;rw [e.1,hSz] at h1;cases h1
    simp only [bE.iB,hnew,if_neg h1]⟩
   have key:dC ((η.drop z).new t ⟨some ⟨w.heap.size,0,none⟩,1,1⟩ fun _=>hz') (bE.iB (bE.new ω w.heap.size (t,none)) z t 0) (w.alloc (.cells #[a.eval x0] E)) t ⟨some ⟨w.heap.size,0,none⟩,1,1⟩ ⟨true,E,1, .rows F [vs] []⟩:=by
    have hself:bE.new ω w.heap.size (t,none) w.heap.size=some (t,none):=by simp [bE.new]
    refine ⟨rfl, .inr ⟨w.heap.size,0,_,rfl, ?_,heap_alloc_new w _,⟨rfl,rfl⟩,Nat.le_refl _,by simp [maxLen],fun j hj=> ?_⟩⟩
    ·unfold bE.iB
     rw [hself,if_neg (by simp;exact fun e=>hne e.symm)]
    ·have hj0:j=0:=by simp [dQ.len] at hj;omega
     subst hj0
     refine ⟨a.eval x0,by simp,ho,fun _ vs' hvs'=> ?_⟩
     simp at hvs';subst hvs'
     have hr:((η.drop z).new t ⟨some ⟨w.heap.size,0,none⟩,1,1⟩ fun _=>hz').r t 0=hz':=by simp [Env.new]
     rw [hr]
     refine ⟨by rw [hav,q1 rfl,Nat.sub_zero],z2,dh.iB z3 fun b hb hob=>⟨Below.heap_alloc w _ b hb, ?_⟩⟩
     have hnew:bE.new ω w.heap.size (t,none) b=ω b:=by simp [bE.new,Nat.ne_of_lt hb]
     simp only [bE.iB,hnew,hob,if_true]
   exact ⟨_,_,((hs.drop z).lay calm key).eY (by simpa using ht) dE⟩
theorem bC {n i z m:Nat} {E F s:Nat} {vss:List (List Value)} {vs:List Value} (hc:S.ch n=some ⟨true,E,1, .rows F vss []⟩) (hs0:S.sl s=some (o1 (.esl n i 0 m))) (hi:vss[i]? =some vs) (hm:vs.length=m) (hzn:Nat.beq z n=false):
  Wk S ((((S.mJ n).set n ⟨true,E,1, .rows F vss [i]⟩).new z ⟨true,F,1, .bG vs⟩).put s (o1 (.sl z 0 m))):=by
 have hne:z≠n:=fun e=>by rw [e] at hzn;simp at hzn
 subst hm
 refine ⟨fun w0 ω0 nt a w ⟨η,ω,h⟩=> ?_⟩
 obtain ⟨u,hu,hdu⟩:=h.slots s _ hs0
 have hdu:cq η (.esl n i 0 vs.length) u:=hdu
 obtain ⟨hd,e1,e2,e3⟩:=h.chunk hc
 have e3:dh ω w (n,none) hd E vss.length (bW η ω w true n (.rows F vss [])):=e3
 obtain ⟨ao,rfl,q1,_⟩:=hdu.2 hd e1
 have hil:i < vss.length:=(List.getElem?_eq_some_iff.1 hi).1
 obtain ⟨b0,o0,u0,_,_,g3⟩:=j6.get (own:=true) e3 hil
 obtain ⟨r1,r2,r3⟩:=g3.2 (by simp) vs hi
 have r3:dh ω w (n,some i) (η.r n i) F vs.length fun j u=>vs[j]? =some u:=r3
 let ω':bE:=fun b=>if ω b=some (n,some i) then some (z,none) else ω b
 have calm:Calm (S.rm n) ω w ω' w:=⟨rfl,rfl,rfl,Nat.le_refl _,fun b _ hl=>⟨rfl,by
  have h1:ω b≠some (n,some i):=by
   rcases hl with h0 | ⟨y,j,c,h0,h1⟩
   ·rw [h0];simp
   ·rw [h0];intro e;simp at e;rw [e.1,eH,if_pos rfl] at h1;cases h1
  exact if_neg h1⟩⟩
 have key:dC { η with r:=fun y j=>if y=n then η.r n j else η.r y j } ω' w n hd ⟨true,E,1, .rows F vss [i]⟩:=by
  refine ⟨e2, ?_⟩
  rcases e3 with h0 | ⟨b,o,cs,f1,f2,f3,f4,f5,f6,f7⟩
  ·exact .inl h0
  ·refine .inr ⟨b,o,cs,f1,(if_neg (by rw [f2];simp)).trans f2,f3,f4,f5,f6,fun j hj=> ?_⟩
   obtain ⟨u',hu',hk⟩:=f7 j hj
   refine ⟨u',hu',hk.1,fun hj' vs' hvs'=> ?_⟩
   obtain ⟨m1,m2,m3⟩:=hk.2 (by simp) vs' hvs'
   simp only [if_true]
   refine ⟨m1,m2,dh.same (fun b2 _ ho=>⟨rfl, ?_⟩) (fun _ _ h=>h) m3⟩
   show (if ω b2=some (n,some i) then some (z,none) else ω b2)=_
   rw [if_neg (by rw [ho];simp;simpa using hj')];exact ho
 have h1:=h.rewrite (n:=n) (r:=η.r n) e1 calm key
 have h2:=h1.lay (x:=z) (c:=⟨true,F,1, .bG vs⟩) (hd:=η.r n i) (r:=fun _=>⟨none,0,1⟩) (Calm.refl _ _ _) ⟨r2,by
  show dh ω' w (z,none) (η.r n i) F vs.length _
  rcases r3 with h0 | ⟨b,o,cs,f1,f2,f3,f4,f5,f6,f7⟩
  ·exact .inl h0
  ·exact .inr ⟨b,o,cs,f1,if_pos f2,f3,f4,f5,f6,f7⟩⟩
 refine ⟨_,ω', { h2 with slots:=fun t' av ht'=> ?_ }⟩
 rw [gy] at ht'
 by_cases e:t'=s
 ·subst e
  rw [if_pos rfl] at ht'
  obtain rfl:=Option.some.inj ht'
  refine ⟨_,hu,⟨_,_,rfl⟩,fun hd' he=> ?_⟩
  simp [Env.new] at he
  subst he
  exact ⟨_,rfl,fun _=>q1 rfl,fun h0=>absurd h0 (by omega)⟩
 ·rw [if_neg e] at ht'
  exact h2.slots t' av ht'
theorem oZ {T:TypeId} {n i len l:Nat} {c:Ch} {F:TypeId} {vss:List (List Value)} {vs:List Value} {hi:Operand} {ki:IntKind} {z:Int} (ht:Nat.blt t nt=true) (hx:S.op x=some (o1 (.esl n i 0 len))) (hc:S.ch n=some c) (hd0:c.d= .rows F vss []) (hr:vss[i]? =some vs) (hT:jQ P T 1=true)
  (hhi:S.op hi=some (vv (.int ki z))) (hz:z=(l:Int)) (hlh:l≤len) (hl:len≤vs.length):bQ P nt ⟨some t, .slice T x none (some hi) none,ty,ps,af,gd⟩ S (S.put t (o1 (.esl n i 0 l))):=
 bQ.pure rfl ht fun _ _ η ω a w hs=>by
  obtain ⟨hd,h1,h2,h3⟩:=hs.chunk hc
  have hd1:cq η (.esl n i 0 len) (a.eval x):=hs.gk hx
  obtain ⟨ao,e1,e2,e3⟩:=hd1.2 hd h1
  obtain ⟨e,inf,g1,g2,g3⟩:=lq hT
  rw [hd0] at h3
  have hil:i < vss.length:=(List.getElem?_eq_some_iff.1 hr).1
  obtain ⟨b0,o0,u0,_,_,k3⟩:=h3.get (j:=i) hil
  obtain ⟨r1,r2,r3⟩:=k3.2 (by simp) vs hr
  have hcap:=r3.cap
  rw [r2,Nat.mul_one] at hcap
  rw [Nat.sub_zero] at e1
  have hrun:=nP (P:=P) (lo:=none) (hi:=some hi) (l:=0) (h:=l) (len:=len) (m:=(η.r n i).c) (ao:=ao) g1 g2 hs rfl ⟨ki,z,hhi,hz⟩ (Nat.zero_le _) (by omega)
  refine ⟨.slice (if (η.r n i).c=0 then ao else ao.map (·.add (0 * inf.size))) (l - 0) ((η.r n i).c - 0),by simp only [execOp,e1];simp only [Option.map_none,Option.map_some] at hrun ⊢;simp [hrun],⟨_,_,rfl⟩,fun hd' he=> ?_⟩
  rw [h1] at he;obtain rfl:=Option.some.inj he
  refine ⟨_,rfl,fun h0=> ?_,fun h0 hlt=>absurd h0 (by omega)⟩
  rw [e2 rfl]
  split
  ·rfl
  ·cases (η.r n i).ao<;>simp [Addr.add]
end
end Go.Proofs.Ytekbhbcgoadciaa
namespace Go.Proofs.Ytekbhbcgoadciaa
open Go.RowKit
section
variable {P:Program} {nt:Nat} {S S' S2:St} {t:Nat} {ty:TypeId} {ps:String} {af:Array Edge} {gd:Option (Nat×Bool)} {x y:Operand} {o:Oper}
theorem lY {f:FuncId} {ts:Array TypeId} {n:Nm} {E len:Nat} {zs zs':List Int} (ht:Nat.blt t nt=true) (hf:qS P f=true) (hx:S.op x=some (o1 (.sl n 0 len))) (hc:S.ch n=some ⟨true,E,1, .bG (aJ zs)⟩) (hl:zs.length=len) (hl':zs'.length=len) (hlen:len≤4398046511104)
  (h:∀ao c (w:World),Own w 0 E ao len c (aJ zs)→Calls P f #[.slice ao len c] w fun e w'=>e= .returned (.tuple #[])∧Own w' 0 E ao len c (aJ zs')∧w.grownBy w' (bk ao)):
  bQ P nt ⟨some t, .call { callee:= .value (.func f),args:= #[x],argTypes:=ts },ty,ps,af,gd⟩ S ((S.set n ⟨true,E,1, .bG (aJ zs')⟩).put t (.tup [])):=by
 refine ⟨fun w0 ω0 a w Q ⟨η,ω,hs⟩=> ?_⟩
 obtain ⟨hd,e1,e2,e3⟩:=hs.chunk hc
 have e2:hd.k=1:=e2
 have e3:dh ω w (n,none) hd E (aJ zs).length (bW η ω w true n (.bG (aJ zs))):=e3
 have hu:cq η (.sl n 0 len) (a.eval x):=hs.gk hx
 obtain ⟨ao,hev,q1,_⟩:=hu.2 hd e1
 have q1:=q1 rfl
 subst q1
 rw [Nat.sub_zero] at hev
 have hown:=dh.own (lo:=0) (xs:=aJ zs) e2 e3 (fun b hb=>absurd hb (by omega)) (by rw [an];omega) rfl (fun j u hj ⟨b,o,f1,f2⟩=>by
  obtain ⟨b',o',u',g1,g2,g3⟩:=j6.get (own:=true) e3 hj
  rw [f1] at g1;injection g1 with g1;injection g1 with g1 g1';subst g1 g1'
  rw [f2] at g2
  obtain rfl:=Option.some.inj g2
  exact g3)
 rw [an,hl] at hown
 have hrun:(execOp a.eval ⟨some t, .call { callee:= .value (.func f),args:= #[x],argTypes:=ts },ty,ps,af,gd⟩).run P w= .ok (.enter f #[.slice hd.ao len hd.c]) w:=by
  simp only [execOp]
  have hfe:a.eval (.func f)= .func (Fn.func f) #[] #[]:=rfl
  simp [execOp,resolve,hfe,hev,Deferred.ofValue,invoke,qI hf]
 unfold Oper.wp
 rw [hrun,Oper.upon_enter]
 refine (h _ _ _ hown.1).mono ?_
 rintro e w' ⟨rfl,ho,hg⟩
 have hsz:=hg.size
 have hw:=hs.write (x:=n) (c':=⟨true,E,1, .bG (aJ zs')⟩) (ω':=ω) (w':=w') e1 ⟨hg.os,hg.tape,hg.output,hsz,fun b hb hlv=>⟨hg.block b hb fun e=> ?_,rfl⟩⟩ ⟨e2, ?_⟩
 ·exact ⟨η,ω,hw.eY (by simpa using ht) ⟨#[],rfl,rfl,fun j b hj=>by simp at hj⟩⟩
 ·have h1:=(hown.2 b e.symm).2
  rcases hlv with h0 | ⟨y,i,c,h0,h2⟩
  ·rw [h1] at h0;cases h0
  ·rw [h1] at h0;simp at h0;rw [←h0.1,eH,if_pos rfl] at h2;cases h2
 ·have hv:=wb (ω':=ω) ho (x:=(n,none)) fun g hg'=>(hown.2 g hg').2
  have:hd=⟨hd.ao,hd.c,1⟩:=by rw [←e2]
  rw [this]
  exact hv
theorem eS {xt yt:TypeId} {a b:Nat} (ht:Nat.blt t nt=true) (hx:S.op x=some (vv (I6 (a:Int)))) (hy:S.op y=some (vv (I6 (b:Int)))) (hb:0 < b) (ha:a < 1000000000000):
  bQ P nt ⟨some t, .binOp .quo xt x y yt,ty,ps,af,gd⟩ S (S.put t (vv (I6 ((a / b:Nat):Int)))):=
 bQ.pure rfl ht fun _ _ η _ s w hs=>by
  refine ⟨I6 ((a / b:Nat):Int), ?_,rfl⟩
  have hle:=Nat.div_le_self a b
  have e:Op.intDiv .quo .i64 (a:Int) (b:Int)=pure (I6 ((a / b:Nat):Int)):=by
   have h1:(a:Int).tdiv (b:Int)=((a / b:Nat):Int):=rfl
   have h2:∀q:Nat,q≤a→IntKind.i64.wrap (q:Int)=(q:Int):=fun q hq=>IntWalk.i64_in _ (by omega)
   have h3:¬(b:Int)=0:=by omega
   unfold Op.intDiv
   rw [if_neg h3]
   show pure (Value.int .i64 (IntKind.i64.wrap ((a:Int).tdiv (b:Int))))=_
   rw [h1,h2 _ hle]
  simp [execOp,hs.fL hx,hs.fL hy,eqGuard,binOp,e]
theorem ji {xt yt:TypeId} {a b:Nat} (ht:Nat.blt t nt=true) (hx:S.op x=some (vv (I6 (a:Int)))) (hy:S.op y=some (vv (I6 (b:Int)))) (hb:0 < b) (ha:a < 1000000000000):
  bQ P nt ⟨some t, .binOp .rem xt x y yt,ty,ps,af,gd⟩ S (S.put t (vv (I6 ((a % b:Nat):Int)))):=
 bQ.pure rfl ht fun _ _ η _ s w hs=>by
  refine ⟨I6 ((a % b:Nat):Int), ?_,rfl⟩
  have hle:=Nat.mod_le a b
  have e:Op.intDiv .rem .i64 (a:Int) (b:Int)=pure (I6 ((a % b:Nat):Int)):=by
   have h1:(a:Int).tmod (b:Int)=((a % b:Nat):Int):=rfl
   have h3:¬(b:Int)=0:=by omega
   unfold Op.intDiv
   rw [if_neg h3]
   show pure (Value.int .i64 ((a:Int).tmod (b:Int)))=_
   rw [h1]
  simp [execOp,hs.fL hx,hs.fL hy,eqGuard,binOp,e]
theorem jB {xt yt:TypeId} {op:BinOp} {b:Bool} (ht:Nat.blt t nt=true) (hT:sliceB P xt=true) (hx:S.op x=some (vv (.slice none 0 0))) (hop:(op= .eql∧b=true)∨(op= .neq∧b=false)):
  bQ P nt ⟨some t, .binOp op xt x (.const (.slice none 0 0)) yt,ty,ps,af,gd⟩ S (S.put t (vv (.bool b))):=
 bQ.pure rfl ht fun _ _ η _ s w hs=>by
  obtain ⟨e,he⟩:=jU hT
  have hc:s.eval (.const (.slice none 0 0))= .slice none 0 0:=rfl
  refine ⟨.bool b, ?_,rfl⟩
  rcases hop with ⟨rfl,rfl⟩ | ⟨rfl,rfl⟩
  ·simp [execOp,hs.fL hx,hc,eqGuard,Lib.run_eql_slice_nil w xt e none 0 0 0 0 he]
  ·simp [execOp,hs.fL hx,hc,eqGuard,Go.run_neq_slice_nil w xt e none 0 0 he]
theorem fq {xt yt:TypeId} {op:BinOp} {b:Bool} {n:Nm} {len:Nat} {c:Ch} (ht:Nat.blt t nt=true) (hT:sliceB P xt=true) (hx:S.op x=some (o1 (.sl n 0 len))) (hc:S.ch n=some c) (hl:0 < c.d.len) (hop:(op= .eql∧b=false)∨(op= .neq∧b=true)):
  bQ P nt ⟨some t, .binOp op xt x (.const (.slice none 0 0)) yt,ty,ps,af,gd⟩ S (S.put t (vv (.bool b))):=
 bQ.pure rfl ht fun _ _ η _ s w hs=>by
  obtain ⟨e,he⟩:=jU hT
  have hcc:s.eval (.const (.slice none 0 0))= .slice none 0 0:=rfl
  obtain ⟨hd,h1,h2,h3⟩:=hs.chunk hc
  have hd1:cq η (.sl n 0 len) (s.eval x):=hs.gk hx
  obtain ⟨ao,e1,e2,_⟩:=hd1.2 hd h1
  obtain ⟨b',o',u,f1,_,_⟩:=h3.get hl
  have hao:ao=some ⟨b',o',none⟩:=by rw [e2 rfl,f1]
  subst hao
  refine ⟨.bool b, ?_,rfl⟩
  rcases hop with ⟨rfl,rfl⟩ | ⟨rfl,rfl⟩
  ·simp [execOp,e1,hcc,eqGuard,Lib.run_eql_slice_nil w xt e _ _ _ 0 0 he]
  ·simp [execOp,e1,hcc,eqGuard,Go.run_neq_slice_nil w xt e _ _ _ he]
end
end Go.Proofs.Ytekbhbcgoadciaa
