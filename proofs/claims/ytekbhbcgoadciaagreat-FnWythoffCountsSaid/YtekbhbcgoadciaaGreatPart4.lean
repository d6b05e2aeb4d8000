/- slices.Repeat at []int64. -/
import Derived.Test.YtekbhbcgoadciaaGreatPart1
import Derived.Laws.CopyOwn
import Derived.Deep.RegionLaw
import Derived.RegionTactic
import Derived.Deep.RegionHeld3
import Derived.Test.YtekbhbcgoadciaaGreatPart3
namespace Go.Proofs.YtekbhbcgoadciaaGreat
open Go.RowKit
theorem ofInt_u64 (a:Nat) (ha:a < 18446744073709551616):(BitVec.ofInt 64 (a:Int)).toNat=a:=by
 rw [BitVec.ofInt_natCast,BitVec.toNat_ofNat];exact Nat.mod_eq_of_lt (by omega)
theorem rW (a:Nat) (ha:a≤1048576):bits .and .u64 (a:Int) 4294967295=(a:Int):=by
 show IntKind.u64.wrap ((BitVec.ofInt 64 (a:Int) &&& BitVec.ofInt 64 ((4294967295:Nat):Int)).toNat:Int)=_
 rw [BitVec.toNat_and,ofInt_u64 a (by omega),ofInt_u64 4294967295 (by omega),show (4294967295:Nat)=2 ^ 32 - 1 from rfl,Nat.and_two_pow_sub_one_eq_mod,Nat.mod_eq_of_lt (by omega)]
 simp [IntKind.wrap,IntKind.signed,IntKind.bits];omega
theorem gP (a:Nat) (ha:a≤4294967295):IntKind.u64.wrap ((a:Nat):Int)=(a:Int):=by
 simp [IntKind.wrap,IntKind.signed,IntKind.bits];omega
set_option maxHeartbeats 400000 in
theorem oO (a b:Nat) (w:World) (ha:a≤1048576) (hb:b≤1048576) (hab:a * b≤4294967295):
  Calls Tryz.prog 146 #[.int .u64 a, .int .u64 b] w fun e w'=>e= .returned (.tuple #[.int .u64 0, .int .u64 ((a * b:Nat):Int)])∧w=w':=by
 have e1:(a:Int) / 4294967296=0:=by omega
 have e2:(b:Int) / 4294967296=0:=by omega
 have e3:bits .and .u64 (a:Int) 4294967295=(a:Int):=rW a ha
 have e4:bits .and .u64 (b:Int) 4294967295=(b:Int):=rW b hb
 have e5:(a:Int) * (b:Int)=((a * b:Nat):Int):=by rw [Int.natCast_mul]
 have e6:IntKind.u64.wrap ((a:Int) * (b:Int))=((a * b:Nat):Int):=by rw [e5];exact gP _ hab
 have e7:((a:Int) * (b:Int)) / 4294967296=0:=by rw [e5];omega
 have e8:bits .and .u64 0 4294967295=0:=by decide +kernel
 have e9:IntKind.u64.wrap 0=0:=by decide +kernel
 have H6:=Lib.hid e6
 have H5:=Lib.hid e5
 clear e5 e6
 have e10:IntKind.u64.wrap ((a:Int) * (b:Int))=(a:Int) * (b:Int):=by rw [H6.out,H5.out]
 go_enter Tryz.func146,Tryz.ntmps146
 go_wp2
 go_ret2
 exact ⟨by simp,rfl⟩
def dT {α:Type} (zs:List α) (count:Nat):List α:=(List.replicate count zs).flatten
theorem iF {α:Type} (zs:List α) (count:Nat):(dT zs count).length=zs.length * count:=by
 unfold dT;rw [List.length_flatten];simp;exact Nat.mul_comm _ _
theorem l6 {α:Type} (zs:List α) (a b:Nat):dT zs (a + b)=dT zs a ++ dT zs b:=by
 unfold dT;rw [←List.replicate_append_replicate,List.flatten_append]
theorem uX {α:Type} (zs:List α):dT zs 1=zs:=by simp [dT]
theorem oJ {α:Type} {zs:List α} {count j c:Nat} (hj:j≤count) (hc:c≤zs.length * (count - j)):(dT zs count).take (zs.length * j + c)=(dT zs count).take (zs.length * j) ++ (dT zs count).take c:=by
 have h1:dT zs count=dT zs j ++ dT zs (count - j):=by rw [←l6];congr 1;omega
 have h2:dT zs count=dT zs (count - j) ++ dT zs j:=by rw [←l6];congr 1;omega
 have l1:=iF zs j
 have l2:=iF zs (count - j)
 have e3:(dT zs count).take c=(dT zs (count - j)).take c:=by rw [h2,List.take_append_of_le_length (by omega)]
 have e4:(dT zs count).take (zs.length * j)=dT zs j:=by rw [h1,←l1,List.take_left'];rfl
 rw [e3,e4,h1,List.take_append,List.take_of_length_le (by omega)]
 congr 2;omega
theorem lW {α:Type} {R:List α} {z:α} {k c T:Nat} (hR:R.length=T) (hk:k + c≤T) (h:R.take (k + c)=R.take k ++ R.take c):splice (R.take k ++ List.replicate (T - k) z) k (R.take c)=R.take (k + c) ++ List.replicate (T - (k + c)) z:=by
 unfold splice
 have l1:(R.take k).length=k:=by simp;omega
 have l2:(R.take c).length=c:=by simp;omega
 rw [List.take_append_of_le_length (by omega),List.take_of_length_le (by omega),l2,List.drop_append,List.drop_of_length_le (by omega),l1,h]
 simp
 omega
theorem qK {α β:Type} (f:α→β) (xs:List α) (k:Nat) (ys:List α):(splice xs k ys).map f=splice (xs.map f) k (ys.map f):=by
 unfold splice;simp
theorem Own.xm {w:World} {base E g T:Nat} {xs:List Value} (h:Own w base E (some ⟨g,0,none⟩) T T xs):w.heap[g]? =some (.cells xs.toArray E (0,0)):=by
 rcases h.1.2 with ⟨h2,_⟩ | ⟨g',cap,cur,hv,_,hh,_,_,hs,ht⟩
 ·cases h2
 ·injection hv with h1 h2 h3
  injection h1 with h1;injection h1 with h1
  subst h1 h3
  have:cur.toList=xs:=by rw [←ht,List.take_of_length_le];rw [Array.length_toList,hs];exact Nat.le_refl _
  rw [hh,←this,Array.toArray_toList]
theorem Own.of_heap {w w':World} {base E g T:Nat} {xs ys:List Value} (h:Own w base E (some ⟨g,0,none⟩) T T xs) (hh:w'.heap[g]? =some (.cells ys.toArray E (0,0))) (hl:ys.length=T):Own w' base E (some ⟨g,0,none⟩) T T ys:=by
 refine ⟨⟨by rw [hl,Nat.mul_one], .inr ⟨g,T,ys.toArray,rfl,(h.lt g rfl).1,hh,Nat.le_refl _,by have:=h.2;simp [maxLen];omega,by simp [hl], ?_⟩⟩,h.2⟩
 simp [←hl]
section
variable {P:Program} {ops:Array Oper} {rest:List Oper} {o:Oper} {a:Act} {Q:Exit→Act→World→Prop}
theorem sR {S E:TypeId} {z:Value} {bytes:Nat} (et:ET P S E z bytes) (w:World) (hg:o.guard=none) (d s:Operand) (ho:o.op= .call { callee:= .builtin .copy,args:= #[d,s],argTypes:= #[S,S] })
  (base g T off:Nat) (xs cs:List Value) (hown:Own w base E (some ⟨g,0,none⟩) T T xs) (dp:Option Addr) (dLen dCap:Nat) (hd:a.eval d= .slice dp dLen dCap) (sp:Option Addr) (sLen sCap:Nat) (hs:a.eval s= .slice sp sLen sCap)
  (hn:cs.length=Nat.min sLen dLen) (hpos:0 < cs.length→dp=some ⟨g,off,none⟩∧∃ad,sp=some ad∧∀j v,cs[j]? =some v→w.cell? (ad.add j)=some v) (hfit:off + cs.length≤T) (h1:∀v∈cs,v.oneCell'=true)
  (h:∀w',Own w' base E (some ⟨g,0,none⟩) T T (splice xs off cs)→Below g w w'→wpList P ops Q rest (a.put o.dst (goInt cs.length)) w'):wpList P ops Q (o :: rest) a w:=by
 obtain ⟨i,hi,hz,hsz,hby⟩:=info_parts et.info
 refine wpList_copy_splice hg d s S S ho E et.und (by rw [hi];simp [hsz]) dp sp dLen dCap sLen sCap hd hs g off xs E hown.xm cs hn hpos (by rw [hown.len];exact hfit) h1 g w (Below.refl _ _) (Nat.le_refl _) ?_
 intro w' hh hb
 exact h w' (hown.of_heap hh.out (by rw [length_splice _ _ _ (by rw [hown.len];exact hfit),hown.len])) hb
theorem vB {S E:TypeId} {z:Value} {bytes:Nat} (et:ET P S E z bytes) {w:World} {K:Act→World→Prop} {X:Prop} (hg:o.guard=none) (d s:Operand) (ho:o.op= .call { callee:= .builtin .copy,args:= #[d,s],argTypes:= #[S,S] })
  (base g T off:Nat) (xs cs:List Value) (hown:Own w base E (some ⟨g,0,none⟩) T T xs) (dp:Option Addr) (dLen dCap:Nat) (hd:a.eval d= .slice dp dLen dCap) (sp:Option Addr) (sLen sCap:Nat) (hs:a.eval s= .slice sp sLen sCap)
  (hn:cs.length=Nat.min sLen dLen) (hpos:0 < cs.length→dp=some ⟨g,off,none⟩∧∃ad,sp=some ad∧∀j v,cs[j]? =some v→w.cell? (ad.add j)=some v) (hfit:off + cs.length≤T) (h1:∀v∈cs,v.oneCell'=true)
  (h:∀w',Own w' base E (some ⟨g,0,none⟩) T T (splice xs off cs)→Below g w w'→K (a.put o.dst (goInt cs.length)) w'):if Region.wanted o (yielded ops a.tmps)=true then Oper.wp P o a w K Q else X:=by
 obtain ⟨i,hi,hz,hsz,hby⟩:=info_parts et.info
 refine step_copy_splice hg d s S S ho E et.und (by rw [hi];simp [hsz]) dp sp dLen dCap sLen sCap hd hs g off xs E hown.xm cs hn hpos (by rw [hown.len];exact hfit) h1 g w (Below.refl _ _) (Nat.le_refl _) ?_
 intro w' hh hb
 exact h w' (hown.of_heap hh.out (by rw [length_splice _ _ _ (by rw [hown.len];exact hfit),hown.len])) hb
end
set_option maxRecDepth 100000 in
set_option maxHeartbeats 3200000 in
theorem q7 (ao:Option Addr) (n c count:Nat) (zs:List Int) (w:World) (h:db w ao n zs) (hn:n≤1048576) (hc:count≤1048576) (hnc:n * count≤1048576) (hpos:0 < n * count):
  Calls Tryz.prog 118 #[.slice ao n c, .int .i64 count] w fun e w'=>∃ao' c',e= .returned (.slice ao' (n * count) c')∧Own w' w.heap.size 2 ao' (n * count) c' ((dT zs count).map (Value.int .i64))∧Below w.heap.size w w':=by
 have HL:=Lib.hid h.1
 have hn0:0 < n:=Nat.pos_of_mul_pos_right hpos
 have hc0:0 < count:=Nat.pos_of_mul_pos_left hpos
 have hle:n≤n * count:=Nat.le_mul_of_pos_right _ hc0
 obtain ⟨T,hT⟩:∃T,n * count=T:=⟨_,rfl⟩
 rw [hT] at hpos hle ⊢
 have HT:=Lib.hid hT
 have hT2:T≤1048576:=by omega
 clear hT hnc
 have hRl:((dT zs count)).length=T:=by rw [iF,HL.out,HT.out]
 have HR:=Lib.hid hRl
 clear hRl
 obtain ⟨b,off,rfl,hb0,hcells⟩:=h.yT hn0
 obtain ⟨cs,hcs⟩:∃cs:List Value,cs=((dT zs count).take n).map (Value.int .i64):=⟨_,rfl⟩
 have hcl:cs.length=n:=by rw [hcs];simp [HR.out];omega
 have hc1:∀v∈cs,v.oneCell'=true:=by rw [hcs];exact ints_oneCell _ _
 have hcsv:∀j v,cs[j]? =some v→w.cell? ⟨b,off + j,none⟩=some v:=by
  intro j v hv
  have hj:j < n:=by have:=(List.getElem?_eq_some_iff.1 hv).1;omega
  have hrn:(dT zs count).take n=zs:=by
   have e:dT zs count=zs ++ dT zs (count - 1):=by
    have:count=1 + (count - 1):=by omega
    conv=>lhs;rw [this]
    rw [l6,uX]
   rw [e,←HL.out,List.take_left'];rfl
  rw [hcs,hrn,List.getElem?_map,List.getElem?_eq_getElem (by rw [HL.out];exact hj)] at hv
  rw [hcells j hj,←hv,ct (by rw [HL.out];exact hj)];rfl
 have HCS:=Lib.hid hcs
 have HCL:=Lib.hid hcl
 have HC1:=Lib.hid hc1
 have HCV:=Lib.hid hcsv
 have x1:=gP n (by omega)
 have x2:=gP count (by omega)
 clear hcs hcl hc1 hcsv hcells
 go_enter Tryz.func118,Tryz.ntmps118
 go_wp2_with (first | (go_at_call 146;refine (oO n count _ hn hc (by rw [HT.out];omega)).mono ?_;rintro e w' ⟨rfl,rfl⟩;rw [HT.out]) | (at_make;refine sX xa _ rfl _ _ rfl w.heap.size _ _ _ _ T rfl rfl rfl rfl (by omega) (Nat.le_refl _) ?_;intro w1 hown hgrow hsz;have hb1:Below w.heap.size w w1:=(Below.refl _ _).grown hgrow (Nat.le_refl _) (by simp);clear hgrow) | (with_reducible refine sR (o:=⟨some 33,_,_,_,_,_⟩) xa _ rfl (.tmp 31) (.tmp 32) rfl w.heap.size w.heap.size T 0 _ cs hown _ _ _ rfl _ _ _ rfl ?_ ?_ ?_ HC1.out ?_))
 ·rw [HCL.out];exact (Nat.min_eq_left hle).symm
 ·exact fun _ j v hv=>(hb1.cell (p:=⟨b,off + j,none⟩) hb0).trans (HCV.out j v hv)
 ·rw [HCL.out];omega
 intro w2 o2 b2
 have hb2:Below w.heap.size w w2:=hb1.trans b2
 have e0:splice (List.replicate T (Value.int .i64 0)) 0 cs=((dT zs count).take n ++ List.replicate (T - n) 0).map (Value.int .i64):=by
  rw [HCS.out,←List.map_replicate]
  have:=lW (R:=dT zs count) (z:=(0:Int)) (k:=0) (c:=n) HR.out (by omega) (by simp)
  simp only [List.take_zero,List.nil_append,Nat.zero_add,Nat.sub_zero] at this
  rw [←this]
  simp [splice]
 rw [e0] at o2
 rw [HCL.out]
 clear e0 hown hsz hb1 b2 HCV HC1 HCS HCL
 go_wp2
 go_loopw [8] (fun i wr=>∃k j:Nat,i= .int .i64 k∧0 < k∧k≤T∧(k=n * j∧j≤count∨k=T)∧Own wr w.heap.size 2 (some ⟨w.heap.size,0,none⟩) T T (((dT zs count).take k ++ List.replicate (T - k) 0).map (Value.int .i64))∧Below w.heap.size w wr) (fun i _=>T - (intOf i).toNat)
 case atStart=>exact ⟨n,1,by simp,hn0,hle, .inl ⟨by omega,by omega⟩,o2,hb2⟩
 case round=>
  obtain ⟨k,j,rfl,hk0,hkT,hkj,ho,hb⟩:=hrel
  clear o2 hb2
  have HK:=Lib.hid hkj
  clear hkj
  by_cases hlt:k < T
  ·obtain ⟨c2,hc2⟩:∃c2,c2=Nat.min k (T - k):=⟨_,rfl⟩
   have hc2a:c2≤k:=by rw [hc2];exact Nat.min_le_left _ _
   have hc2b:c2≤T - k:=by rw [hc2];exact Nat.min_le_right _ _
   have hc2c:0 < c2:=by rw [hc2];exact Nat.lt_min.2 ⟨hk0,by omega⟩
   have hdb:(dT zs count).take (k + c2)=(dT zs count).take k ++ (dT zs count).take c2:=by
    rcases HK.out with ⟨e,hj⟩ | e
    ·have hx:c2≤zs.length * (count - j):=by rw [HL.out,Nat.mul_sub,HT.out,←e];exact hc2b
     have:=oJ (zs:=zs) hj hx
     rwa [HL.out,←e] at this
    ·omega
   obtain ⟨cs,hcs⟩:∃cs:List Value,cs=((dT zs count).take c2).map (Value.int .i64):=⟨_,rfl⟩
   have hcl:cs.length=c2:=by rw [hcs];simp [HR.out];omega
   have hc1:∀v∈cs,v.oneCell'=true:=by rw [hcs];exact ints_oneCell _ _
   have hcsv:∀j v,cs[j]? =some v→wr.cell? ⟨w.heap.size,j,none⟩=some v:=by
    intro j v hv
    have hj:j < c2:=by have:=(List.getElem?_eq_some_iff.1 hv).1;omega
    obtain ⟨g',eg, -, -, -,hcell, -⟩:=ho.form (by omega)
    injection eg with eg;injection eg with eg;subst eg
    rw [hcell j (by omega),←hv,hcs,List.getElem?_map,List.getElem?_map,List.getElem?_append_left (by simp [HR.out];omega),List.getElem?_take,List.getElem?_take,if_pos (by omega),if_pos (by omega)]
   have HD:=Lib.hid hdb
   have HC:=Lib.hid hcs
   have HCL:=Lib.hid hcl
   have HC1:=Lib.hid hc1
   have HCV:=Lib.hid hcsv
   have HC2:=Lib.hid hc2
   have hTk:((T - k:Nat):Int)=(T:Int) - k:=by omega
   clear hdb hcs hcl hc1 hcsv hc2 hTk
   go_wp2_with fail
   have HB:=Lib.hid hb
   have HS:=Lib.hid (show ((k:Nat):Int) + ((c2:Nat):Int)=((k + c2:Nat):Int) by omega)
   have hw:IntKind.i64.wrap (((k + c2:Nat):Nat):Int)=((k + c2:Nat):Int):=by simp [IntKind.wrap,IntKind.signed,IntKind.bits];omega
   have HW:=Lib.hid hw
   clear hw
   go_region_held3 (fun w'=>Below w.heap.size w w') (first | exact HB.out.drew | assumption) (first | (refine vB (o:=⟨some 45,_,_,_,_,_⟩) xa rfl (.tmp 41) (.tmp 44) rfl w.heap.size w.heap.size T k _ cs (ho.drewN 1) _ _ _ rfl _ _ _ rfl ?_ ?_ ?_ HC1.out ?_;(rw [HCL.out,HC2.out]);(intro _;exact ⟨if_neg (by omega),_,rfl,fun j v hv=>by have hx:=HCV.out j v hv;by_cases e:j=0<;>simp_all [Addr.add]⟩);(rw [HCL.out];omega);intro w3 o3 b3;have b4:Below w.heap.size w w3:=HB.out.drew.trans b3))
   rw [HCL.out,HS.out,HW.out]
   have o4:Own w3 w.heap.size 2 (some ⟨w.heap.size,0,none⟩) T T (((dT zs count).take (k + c2) ++ List.replicate (T - (k + c2)) 0).map (Value.int .i64)):=by
    have e:=lW (R:=dT zs count) (z:=(0:Int)) (k:=k) (c:=c2) HR.out (by omega) HD.out
    rw [←e]
    rw [HC.out] at o3
    rw [qK]
    exact o3
   go_roundw
   case rel=>
    refine ⟨_,_,_,_,_,_,_,_,_,_,_,_,_,_,⟨k + c2,2 * j,rfl,by omega,by omega, ?_,o4,b4⟩,rfl⟩
    rcases HK.out with ⟨e,hj⟩ | e
    ·by_cases hx:k≤T - k
     ·have hc2k:c2=k:=by rw [HC2.out];exact Nat.min_eq_left hx
      left
      have e2:n * (2 * j)=k + k:=by rw [e,Nat.mul_left_comm];omega
      refine ⟨by omega, ?_⟩
      have:n * (2 * j)≤n * count:=by rw [HT.out];omega
      exact Nat.le_of_mul_le_mul_left this hn0
     ·have hc2k:c2=T - k:=by rw [HC2.out];exact Nat.min_eq_right (by omega)
      right;omega
    ·omega
   case measure=>simp [intOf];omega
  ·obtain rfl:k=T:=by omega
   rw [Nat.sub_self,List.replicate_zero,List.append_nil,List.take_of_length_le (Nat.le_of_eq HR.out)] at ho
   go_wp2
   go_ret
   exact ⟨_,_,rfl,ho,hb⟩
end Go.Proofs.YtekbhbcgoadciaaGreat
namespace Go.Proofs.YtekbhbcgoadciaaGreat
open Go.RowKit
theorem mi (x n:Nat):FC Tryz.prog 62 [] [o1 (.sl x 0 n)] [] (vv (I6 n)) []:=by
 refine a5 (nt:=5) Tryz.func62 rfl rfl (by simp) fun w0 ω0=> ?_
 (refine aj ?_;refine ag ?_;apply ae rfl;(exact ai rfl rfl);refine aq ?_;refine an ?_;refine aj ?_;refine ag ?_;apply ae rfl;(exact ah rfl rfl);apply ae rfl;(exact br rfl rfl rfl (by as_aux_lemma=>kernel_rfl));apply ae rfl;(exact ai rfl rfl);refine aq ?_;refine an ?_;refine aK ?_)
 exact aW (.inl rfl) rfl (.tmp rfl) trivial trivial
theorem fw (x i n:Nat):FC Tryz.prog 62 [] [o1 (.esl x i 0 n)] [] (vv (I6 n)) []:=by
 refine a5 (nt:=5) Tryz.func62 rfl rfl (by simp) fun w0 ω0=> ?_
 (refine aj ?_;refine ag ?_;apply ae rfl;(exact ai rfl rfl);refine aq ?_;refine an ?_;refine aj ?_;refine ag ?_;apply ae rfl;(exact ah rfl rfl);apply ae rfl;(exact br rfl rfl rfl (by as_aux_lemma=>kernel_rfl));apply ae rfl;(exact ai rfl rfl);refine aq ?_;refine an ?_;refine aK ?_)
 exact aW (.inl rfl) rfl (.tmp rfl) trivial trivial
theorem pJ (z:Int):∀n,dT [z] n=List.replicate n z:=fun n=>by
 unfold dT
 induction n with
 | zero=>rfl
 | succ n ih=>simp [List.replicate_succ] at ih ⊢
theorem vq {α:Type} (x:Nat) (c:α):lk x [(x,c)]=some c:=by simp [lk]
theorem jr (x y n:Nat) (z:Int) (hn:n≤1048576) (hn0:0 < n):
  FC Tryz.prog 118 [(x,⟨false,2,1, .bG (aH [z])⟩)] [o1 (.sl x 0 1),vv (I6 n)] [(y,⟨true,2,1, .bG (aH (List.replicate n z))⟩)] (o1 (.sl y 0 n)) []:=by
 have h:=kQ (P:=Tryz.prog) (f:=118) (ins:= [(x,⟨false,2,1, .bG (aH [z])⟩)]) (args:= [o1 (.sl x 0 1),vv (I6 n)]) (x:=y) (E:=2) (zs:=List.replicate n z) fun w η ω us hm hd=>by
  obtain ⟨hl,ha⟩:=hd
  obtain ⟨u0,h0,d0⟩:=ha 0 _ rfl
  obtain ⟨u1,h1,d1⟩:=ha 1 _ rfl
  obtain ⟨ao,c,e0,hi⟩:=xq (zs:= [z]) (E:=2) (own:=false) hm (vq _ _) d0 (by simp)
  have d1:u1=I6 n:=d1
  subst e0 d1
  obtain rfl:us= [.slice ao 1 c,I6 n]:=by
   match us,hl,h0,h1 with
   | [p,q],_,h0,h1=>simp at h0 h1;rw [h0,h1]
  refine (q7 ao 1 c n [z] w hi (by omega) hn (by omega) (by omega)).mono ?_
  rintro e w' ⟨ao',c',rfl,ho,hb⟩
  rw [Nat.one_mul,pJ] at ho
  rw [List.length_replicate]
  exact ⟨ao',c',by rw [Nat.one_mul],ho,hb⟩
 rw [List.length_replicate] at h
 exact h
end Go.Proofs.YtekbhbcgoadciaaGreat
namespace Go.Proofs.YtekbhbcgoadciaaGreat
open Go.RowKit
abbrev eo (ps:cT):List gG:=ps.flatMap fun p=> [.v (I6 (p.1:Int)), .r 2 1 p.2.length (aH p.2)]
abbrev mH (ps:cT):Ch:=⟨true,83,2, .mix (eo ps)⟩
theorem kg (ps:cT):(eo ps).length=ps.length * 2:=by
 induction ps with
 | nil=>rfl
 | cons p r ih=>simp [eo] at ih ⊢;omega
theorem gu:∀ {ps:cT} {k:Nat},k < ps.length→(eo ps)[k * 2]? =some (.v (I6 ((cx ps k).1:Int)))∧(eo ps)[k * 2 + 1]? =some (.r 2 1 (cx ps k).2.length (aH (cx ps k).2))
 | [],_,h=>by simp at h
 | p :: r,0,_=>⟨rfl,rfl⟩
 | p :: r,k + 1,h=>by
  have:=gu (ps:=r) (k:=k) (by simpa using h)
  rw [show (k + 1) * 2=k * 2 + 2 by omega]
  exact this
theorem tw (a b:cT):eo (a ++ b)=eo a ++ eo b:=by simp [eo]
theorem pR:∀(ps:cT) (k:Nat) (m:Nat) (zs:List Int),k < ps.length→((eo ps).set (k * 2) (.v (I6 (m:Int)))).set (k * 2 + 1) (.r 2 1 zs.length (aH zs))=eo (ps.set k (m,zs))
 | [],_,_,_,h=>by simp at h
 | p :: r,0,m,zs,_=>rfl
 | p :: r,k + 1,m,zs,h=>by
  have:=pR r k m zs (by simpa using h)
  rw [show (k + 1) * 2=k * 2 + 2 by omega]
  show ((.v (I6 (p.1:Int))) :: .r 2 1 p.2.length (aH p.2) :: ((eo r).set (k * 2) (.v (I6 (m:Int)))).set (k * 2 + 1) (.r 2 1 zs.length (aH zs)))=_
  rw [this];rfl
set_option maxRecDepth 100000 in
set_option maxHeartbeats 2000000 in
theorem lU (zs:List Int) (L mask:Nat) (hL:zs.length=L) (h4:L≤4) (hm:mask < 1000):
  FC Tryz.prog 69 [(1003,cf zs)] [o1 (.sl 1003 0 L),vv (I6 mask)] [(2000,mH (comps zs mask))] (o1 (.sl 2000 0 (comps zs mask).length)) []:=by
 have hSz:=mi 1003 L
 refine a5 (nt:=68) Tryz.func69 rfl rfl (by simp) fun w0 ω0=> ?_
 have hil:L≤(aH zs).length:=by rw [aO,hL];exact Nat.le_refl _
 have hL1:IntKind.i64.wrap ((L:Int) + 1)=((L + 1:Nat):Int):=IntWalk.i64_in _ (by omega)
 (refine aj ?_;refine ag ?_;apply ae rfl;(exact ai rfl rfl);refine aq ?_;refine an ?_;refine aj ?_;refine ag ?_;apply ae rfl;(exact ai rfl rfl);refine aq ?_;refine an ?_;refine aj ?_;refine ag ?_;apply ae rfl;(exact ai rfl rfl);refine aq ?_;refine an ?_;refine aj ?_;refine aj ?_;refine ag ?_;apply ae rfl;(exact ah rfl rfl);apply ae rfl;(first | (apply ar 62;exact au hSz (by as_aux_lemma=>kernel_rfl) rfl rfl ⟨rfl,trivial⟩ trivial rfl rfl) | exact aJ rfl rfl rfl hL1);apply ae rfl;(first | (apply ar 62;exact au hSz (by as_aux_lemma=>kernel_rfl) rfl rfl ⟨rfl,trivial⟩ trivial rfl rfl) | exact aJ rfl rfl rfl hL1);apply ae rfl;(exact ah rfl rfl);refine aq ?_;refine an ?_;refine aD ?_)
 refine bx (fun q:Nat×cT×Bool=>St.of [(0,o1 (.sl 1003 0 L)),(1,vv (I6 mask)),(5,o1 (.sl 2000 0 q.2.1.length)),(6,vv (.bool q.2.2)),(11,vv (I6 (L + 1:Nat))),(12,vv (I6 q.1))] [(1003,cf zs),(2000,mH q.2.1)])
  (fun q=>q.1≤L + 1∧eA zs mask q.1=q.2.1∧(q.1≤L→q.2.2=jn zs mask q.1)) (fun q=>L + 1 - q.1) (0, [],false) ⟨Nat.zero_le _,rfl,fun _=>rfl⟩
  (Wk.trans (js (t:=5) (n:=2000) (k:=2) (E:=83) (d:= .mix (eo [])) rfl rfl) (Wk.of ⟨rfl,rfl,rfl,rfl,rfl,rfl,trivial⟩ ⟨rfl,rfl,trivial⟩ trivial)) ?_
 rintro ⟨i,ps,jb⟩ ⟨hi,hp,hj⟩
 dsimp only at hi hp hj ⊢
 have hps:=jf zs mask i (by omega)
 have hnx:=eh zs mask i
 rw [hp] at hps hnx
 have hpl:ps.length≤5:=by have:=fq ps;have:=hps.sum;omega
 have hmx:=kg ps
 (refine aj ?_;refine ag ?_;apply ae rfl;(exact aB rfl rfl rfl rfl);refine aq ?_;refine an ?_;refine aj ?_)
 refine bM rfl (fun hlt=> ?_) (fun hlt=> ?_)
 ·have hiL:i≤L:=by omega
  have hj:=hj hiL
  have hi64:i≤64:=by omega
  have hmm:mask < 1000000:=by omega
  have hmle:mask / 2 ^ i≤mask:=Nat.div_le_self _ _
  (refine aG ?_;refine an ?_;refine aj ?_;refine aD ?_;refine aj ?_;refine ag ?_;apply ae rfl;(exact ah rfl rfl);apply ae rfl;(exact ai rfl rfl);refine aq ?_;refine an ?_;refine aj ?_;refine aj ?_;refine ag ?_;apply ae rfl;(exact ah rfl rfl);apply ae rfl;(exact ah rfl rfl);apply ae rfl;(first | exact bn (g:=i) rfl rfl rfl hi64 | exact bB rfl rfl hmm | exact cG rfl rfl);apply ae rfl;(first | exact bn (g:=i) rfl rfl rfl hi64 | exact bB rfl rfl hmm | exact cG rfl rfl);apply ae rfl;(first | exact bn (g:=i) rfl rfl rfl hi64 | exact bB rfl rfl hmm | exact cG rfl rfl);refine aq ?_;refine an ?_)
  refine ax rfl (fun hb=> ?_) (fun hb=> ?_)
  ·have hb:dM mask i=false:=by simpa using hb
   have hv:eA zs mask (i + 1)=ps:=by rw [hnx];unfold fN;rw [if_neg (by rw [hb];simp)]
   (refine aj ?_;refine ag ?_;apply ae rfl;(exact ai rfl rfl);refine aq ?_;refine an ?_;refine a6 ?_;refine aE ?_;refine aP ?_;refine an ?_;refine ag ?_;apply ae rfl;(exact aJ rfl rfl rfl (by first | exact IntWalk.i64_in _ (by omega) | rfl));apply ae rfl;(exact ah rfl rfl);refine aq ?_)
   exact aX (i + 1,ps,false) ⟨by omega,hv,fun _=>by unfold jn;rw [Nat.add_sub_cancel,hb];simp⟩ (by show L + 1 - (i + 1) < L + 1 - i;omega) (Wk.of ⟨rfl,rfl,rfl,rfl,rfl,rfl,trivial⟩ ⟨rfl,rfl,trivial⟩ trivial)
  ·have hb:dM mask i=true:=by simpa using hb
   unfold fN at hnx
   rw [if_pos hb,←hj] at hnx
   have hjn:∀b:Bool,i≤L→(i + 1≤L→b= !(aC zs i == 2))→(i + 1≤L→b=jn zs mask (i + 1)):=fun b _ h1 h2=>by
    rw [h1 h2];unfold jn;rw [Nat.add_sub_cancel,hb];simp
   have hi5:i≤5:=by omega
   (refine aG ?_;refine an ?_;refine aj ?_;refine aj ?_;refine ag ?_;apply ae rfl;(exact ah rfl rfl);refine aq ?_;refine an ?_)
   refine cq (St.of [(0,o1 (.sl 1003 0 L)),(1,vv (I6 mask)),(5,o1 (.sl 2000 0 (eA zs mask (i + 1)).length)),(7,vv (I6 i)),(11,vv (I6 (L + 1:Nat))),(12,vv (I6 i))] [(1003,cf zs),(2000,mH (eA zs mask (i + 1)))]) ?_ ?_
   ·refine ax rfl (fun hjb=> ?_) (fun hjb=> ?_)
    ·have hjs:=fZ (hj ▸ hjb)
     have hne:=hps.ne hjs.1 hjs.2.1
     obtain ⟨j,hjl⟩:∃j,ps.length=j + 1:=⟨ps.length - 1,by omega⟩
     have hjp:j < ps.length:=by omega
     have hv:eA zs mask (i + 1)=ps.set j ((cx ps j).1 ||| 2 ^ i,(cx ps j).2 ++ [aC zs (i - 1)]):=by
      rw [hnx,if_pos hjb];unfold jP;rw [show ps.length - 1=j by omega]
     have hsub:IntKind.i64.wrap ((ps.length:Int) - 1)=(j:Int):=by rw [hjl];exact (IntWalk.i64_in _ (by omega)).trans (by omega)
     have hget:=gu hjp
     have hmlt:=hps.lt _ (fx hjp)
     have hllt:=lq (fx hjp)
     have hsum:=hps.sum
     have h2i:2 ^ i≤2 ^ 5:=Nat.pow_le_pow_right (by decide) hi5
     have hset:=pR ps j ((cx ps j).1 ||| 2 ^ i) ((cx ps j).2 ++ [aC zs (i - 1)]) hjp
     have hml:(eo ps).length=ps.length * 2:=hmx
     rw [hv]
     generalize (cx ps j).1=m at *
     generalize (cx ps j).2=labs at *
     have gz:(aH zs)[i - 1]? =some (I6 (aC zs (i - 1))):=aR (by omega)
     have hi1:(i:Int) - 1=((i - 1:Nat):Int):=by omega
     have hi1L:i - 1 < L:=by omega
     have hm6:m < 1000000:=by omega
     have h2i6:2 ^ i < 1000000:=by omega
     have hv0:(eo ps)[j * 2 + 0]? =some (.v (I6 (m:Int))):=hget.1
     have hv1:((eo ps).set (j * 2 + 0) (.v (I6 ((m ||| 2 ^ i:Nat):Int))))[j * 2 + 1]? =some (.r 2 1 labs.length (aH labs)):=by
      rw [List.getElem?_set_ne (by omega)];exact hget.2
     have hvl:(aH (labs ++ [aC zs (i - 1)])).length=(labs.length + 1) * 1:=by rw [aO];simp
     have hk1l:j * 2 + 1 < (((eo ps).set (j * 2 + 0) (.v (I6 ((m ||| 2 ^ i:Nat):Int)))).set (j * 2 + 1) .any).length:=by rw [List.length_set,List.length_set];omega
     have hfin:(((eo ps).set (j * 2 + 0) (.v (I6 ((m ||| 2 ^ i:Nat):Int)))).set (j * 2 + 1) .any).set (j * 2 + 1) (.r 2 1 (labs.length + 1) (aH (labs ++ [aC zs (i - 1)])))=eo (ps.set j (m ||| 2 ^ i,labs ++ [aC zs (i - 1)])):=by
      rw [List.set_set,←hset];simp
     have hix:ps.length * 2≤(eo ps).length:=Nat.le_of_eq hmx.symm
     (refine aj ?_;refine ag ?_;apply ae rfl;(exact ah rfl rfl);apply ae rfl;(exact ah rfl rfl);apply ae rfl;(exact br rfl rfl rfl (by as_aux_lemma=>kernel_rfl));apply ae rfl;(first | exact bf rfl rfl rfl hsub | exact dy (k:=2) (j:=j) rfl rfl rfl rfl rfl (by as_aux_lemma=>kernel_rfl) rfl hjp hix (by omega) rfl);apply ae rfl;(first | exact bf rfl rfl rfl hsub | exact dy (k:=2) (j:=j) rfl rfl rfl rfl rfl (by as_aux_lemma=>kernel_rfl) rfl hjp hix (by omega) rfl);apply ae rfl;(exact ai rfl rfl);refine aq ?_;refine an ?_;refine aj ?_)
     apply dK 7 [] [[], [0], [0,1], [0,1,2], [], [4], [0,1,2,3,4,5], [0,1,2,3,4,5,6], [0,1,2,3,4,5,6,7], [0,1,2,3,4,5,6,7,8]] [26,27,28,29,30,31,32] [] (by kernel_rfl) (by kernel_rfl)
     ·(apply aF rfl;(intro S1 hS;exact ah rfl (hS.op rfl));apply aF rfl;(intro S1 hS;exact ep rfl (hS.op rfl) (hS.ch _ _ rfl));apply aF rfl;(intro S1 hS;exact bm (d:=0) rfl (hS.op rfl) (hS.ch _ _ rfl) (by as_aux_lemma=>kernel_rfl));(first | (apply aF rfl;(focus (intro S1 hS;exact kL rfl (by as_aux_lemma=>kernel_rfl) (hS.op rfl) (hS.ch _ _ rfl) rfl hv0))) | (apply aF rfl;(focus (intro S1 hS;exact dv (g:=i) rfl (hS.op rfl) (hS.op rfl) hi5))) | (apply aF rfl;(focus (intro S1 hS;exact cY rfl (hS.op rfl) (hS.op rfl) hm6 h2i6))));apply aF rfl;(intro S1 hS;exact ah rfl (hS.op rfl));(first | (apply aF rfl;(focus (intro S1 hS;exact kL rfl (by as_aux_lemma=>kernel_rfl) (hS.op rfl) (hS.ch _ _ rfl) rfl hv0))) | (apply aF rfl;(focus (intro S1 hS;exact dv (g:=i) rfl (hS.op rfl) (hS.op rfl) hi5))) | (apply aF rfl;(focus (intro S1 hS;exact cY rfl (hS.op rfl) (hS.op rfl) hm6 h2i6))));(first | (apply aF rfl;(focus (intro S1 hS;exact kL rfl (by as_aux_lemma=>kernel_rfl) (hS.op rfl) (hS.ch _ _ rfl) rfl hv0))) | (apply aF rfl;(focus (intro S1 hS;exact dv (g:=i) rfl (hS.op rfl) (hS.op rfl) hi5))) | (apply aF rfl;(focus (intro S1 hS;exact cY rfl (hS.op rfl) (hS.op rfl) hm6 h2i6))));exact eR.nil)
     ·rfl
     ((apply aZ 7 rfl (by as_aux_lemma=>kernel_rfl) rfl rfl;(exact ep rfl rfl rfl));(apply aZ 8 rfl (by as_aux_lemma=>kernel_rfl) rfl rfl;(exact bm (d:=0) rfl rfl rfl (by as_aux_lemma=>kernel_rfl)));(apply aZ 9 rfl (by as_aux_lemma=>kernel_rfl) rfl rfl;(exact rp rfl rfl rfl rfl rfl hv0 (by as_aux_lemma=>kernel_rfl) rfl));(refine bF (by as_aux_lemma=>kernel_rfl) ?_;skip))
     (refine an ?_)
     apply rh 11 [] 0 [[], [], [1], [1,2], [1,2,3], [], [], [6], [5,6,7], [5,6,7,8], [5,6,7,8,9], [1,2,3,4,5,6,7,8,9,10], [0,1,2,3,4,5,6,7,8,9,10,11], [0,1,2,3,4,5,6,7,8,9,10,11,12], [0,1,2,3,4,5,6,7,8,9,10,11,12,13]] [35,36,37,38,39,40,41,42,43,44,45] [45] (by kernel_rfl) (by kernel_rfl) rfl
     ·(apply aF rfl;(intro S1 hS;exact ah rfl (hS.op rfl));apply aF rfl;(intro S1 hS;exact ah rfl (hS.op rfl));apply aF rfl;(intro S1 hS;exact ep rfl (hS.op rfl) (hS.ch _ _ rfl));apply aF rfl;(intro S1 hS;exact bm (d:=1) rfl (hS.op rfl) (hS.ch _ _ rfl) (by as_aux_lemma=>kernel_rfl));(first | (apply aF rfl;(focus (intro S1 hS;exact gK rfl (by as_aux_lemma=>kernel_rfl) (hS.op rfl) (hS.ch _ _ rfl) rfl hv1))) | (apply aF rfl;(focus (intro S1 hS;exact bf rfl (hS.op rfl) (hS.op rfl) (IntWalk.i64_in _ (by omega))))) | (apply aF rfl;(focus (intro S1 hS;exact aS (j:=i - 1) rfl (hS.op rfl) (hS.op rfl) (hS.ch _ _ rfl) rfl (by as_aux_lemma=>kernel_rfl) hi1 hi1L hil))) | (apply aF rfl;(focus (intro S1 hS;exact aV rfl (by as_aux_lemma=>kernel_rfl) (hS.op rfl) (hS.ch _ _ rfl) rfl gz))));apply aF rfl;(intro S1 hS;exact ah rfl (hS.op rfl));apply aF rfl;(intro S1 hS;exact ah rfl (hS.op rfl));(first | (apply aF rfl;(focus (intro S1 hS;exact gK rfl (by as_aux_lemma=>kernel_rfl) (hS.op rfl) (hS.ch _ _ rfl) rfl hv1))) | (apply aF rfl;(focus (intro S1 hS;exact bf rfl (hS.op rfl) (hS.op rfl) (IntWalk.i64_in _ (by omega))))) | (apply aF rfl;(focus (intro S1 hS;exact aS (j:=i - 1) rfl (hS.op rfl) (hS.op rfl) (hS.ch _ _ rfl) rfl (by as_aux_lemma=>kernel_rfl) hi1 hi1L hil))) | (apply aF rfl;(focus (intro S1 hS;exact aV rfl (by as_aux_lemma=>kernel_rfl) (hS.op rfl) (hS.ch _ _ rfl) rfl gz))));(first | (apply aF rfl;(focus (intro S1 hS;exact gK rfl (by as_aux_lemma=>kernel_rfl) (hS.op rfl) (hS.ch _ _ rfl) rfl hv1))) | (apply aF rfl;(focus (intro S1 hS;exact bf rfl (hS.op rfl) (hS.op rfl) (IntWalk.i64_in _ (by omega))))) | (apply aF rfl;(focus (intro S1 hS;exact aS (j:=i - 1) rfl (hS.op rfl) (hS.op rfl) (hS.ch _ _ rfl) rfl (by as_aux_lemma=>kernel_rfl) hi1 hi1L hil))) | (apply aF rfl;(focus (intro S1 hS;exact aV rfl (by as_aux_lemma=>kernel_rfl) (hS.op rfl) (hS.ch _ _ rfl) rfl gz))));(first | (apply aF rfl;(focus (intro S1 hS;exact gK rfl (by as_aux_lemma=>kernel_rfl) (hS.op rfl) (hS.ch _ _ rfl) rfl hv1))) | (apply aF rfl;(focus (intro S1 hS;exact bf rfl (hS.op rfl) (hS.op rfl) (IntWalk.i64_in _ (by omega))))) | (apply aF rfl;(focus (intro S1 hS;exact aS (j:=i - 1) rfl (hS.op rfl) (hS.op rfl) (hS.ch _ _ rfl) rfl (by as_aux_lemma=>kernel_rfl) hi1 hi1L hil))) | (apply aF rfl;(focus (intro S1 hS;exact aV rfl (by as_aux_lemma=>kernel_rfl) (hS.op rfl) (hS.ch _ _ rfl) rfl gz))));apply gE rfl;(intro S1 hS;exact cJ (E:=2) rfl (by as_aux_lemma=>kernel_rfl) (hS.op rfl));exact eR.nil)
     ·rfl
     ·refine cK (St.of [(0,o1 (.sl 1003 0 L)),(1,vv (I6 mask)),(5,o1 (.sl 2000 0 ps.length)),(7,vv (I6 i)),(11,vv (I6 (L + 1:Nat))),(12,vv (I6 i))] [(1003,cf zs),(2000,mH (ps.set j (m ||| 2 ^ i,labs ++ [aC zs (i - 1)])))]) ?_ ?_
      ·((apply aZ 11 rfl (by as_aux_lemma=>kernel_rfl) rfl rfl;((first | exact bN.pre (fD (n:=2000) (z:=46) (s:=39) rfl rfl hv1 rfl) (bp rfl (by as_aux_lemma=>kernel_rfl) rfl rfl rfl rfl rfl rfl (by omega)) | exact eV rfl rfl rfl rfl hvl rfl hk1l (by as_aux_lemma=>kernel_rfl))));(apply aZ 12 rfl (by as_aux_lemma=>kernel_rfl) rfl rfl;(exact ep rfl rfl rfl));(apply aZ 13 rfl (by as_aux_lemma=>kernel_rfl) rfl rfl;(exact bm (d:=1) rfl rfl rfl (by as_aux_lemma=>kernel_rfl)));(apply aZ 14 rfl (by as_aux_lemma=>kernel_rfl) rfl rfl;((first | exact bN.pre (fD (n:=2000) (z:=46) (s:=39) rfl rfl hv1 rfl) (bp rfl (by as_aux_lemma=>kernel_rfl) rfl rfl rfl rfl rfl rfl (by omega)) | exact eV rfl rfl rfl rfl hvl rfl hk1l (by as_aux_lemma=>kernel_rfl))));(refine bF (by as_aux_lemma=>kernel_rfl) ?_;exact aU (Wk.of ⟨rfl,rfl,rfl,rfl,rfl,rfl,trivial⟩ ⟨rfl,congrArg (fun l=>some (⟨true,83,2, .mix l⟩:Ch)) hfin,trivial⟩ trivial)))
      ·(skip)
       exact aU (Wk.of ⟨rfl,rfl,congrArg (fun n=>some (o1 (.sl 2000 0 n))) (List.length_set ..).symm,rfl,rfl,rfl,trivial⟩ ⟨rfl,rfl,trivial⟩ trivial)
     ·refine cK (St.of [(0,o1 (.sl 1003 0 L)),(1,vv (I6 mask)),(5,o1 (.sl 2000 0 ps.length)),(7,vv (I6 i)),(11,vv (I6 (L + 1:Nat))),(12,vv (I6 i))] [(1003,cf zs),(2000,mH (ps.set j (m ||| 2 ^ i,labs ++ [aC zs (i - 1)])))]) ?_ ?_
      ·((apply eI 0 11 rfl (by as_aux_lemma=>kernel_rfl) rfl rfl rfl rfl;(exact ah rfl rfl);((first | exact bN.pre (fD (n:=2000) (z:=46) (s:=39) rfl rfl hv1 rfl) (bp rfl (by as_aux_lemma=>kernel_rfl) rfl rfl rfl rfl rfl rfl (by omega)) | exact eV rfl rfl rfl rfl hvl rfl hk1l (by as_aux_lemma=>kernel_rfl)));(focus ((apply aZ 11 rfl (by as_aux_lemma=>kernel_rfl) rfl rfl;((first | exact bN.pre (fD (n:=2000) (z:=46) (s:=39) rfl rfl hv1 rfl) (bp rfl (by as_aux_lemma=>kernel_rfl) rfl rfl rfl rfl rfl rfl (by omega)) | exact eV rfl rfl rfl rfl hvl rfl hk1l (by as_aux_lemma=>kernel_rfl))));(apply aZ 12 rfl (by as_aux_lemma=>kernel_rfl) rfl rfl;(exact ep rfl rfl rfl));(apply aZ 13 rfl (by as_aux_lemma=>kernel_rfl) rfl rfl;(exact bm (d:=1) rfl rfl rfl (by as_aux_lemma=>kernel_rfl)));(apply aZ 14 rfl (by as_aux_lemma=>kernel_rfl) rfl rfl;((first | exact bN.pre (fD (n:=2000) (z:=46) (s:=39) rfl rfl hv1 rfl) (bp rfl (by as_aux_lemma=>kernel_rfl) rfl rfl rfl rfl rfl rfl (by omega)) | exact eV rfl rfl rfl rfl hvl rfl hk1l (by as_aux_lemma=>kernel_rfl))));(refine bF (by as_aux_lemma=>kernel_rfl) ?_;exact aU (Wk.of ⟨rfl,rfl,rfl,rfl,rfl,rfl,trivial⟩ ⟨rfl,congrArg (fun l=>some (⟨true,83,2, .mix l⟩:Ch)) hfin,trivial⟩ trivial))));(focus ((apply aZ 0 rfl (by as_aux_lemma=>kernel_rfl) rfl rfl;(exact ah rfl rfl));(apply aZ 12 rfl (by as_aux_lemma=>kernel_rfl) rfl rfl;(exact ep rfl rfl rfl));(apply aZ 13 rfl (by as_aux_lemma=>kernel_rfl) rfl rfl;(exact bm (d:=1) rfl rfl rfl (by as_aux_lemma=>kernel_rfl)));(apply aZ 14 rfl (by as_aux_lemma=>kernel_rfl) rfl rfl;((first | exact bN.pre (fD (n:=2000) (z:=46) (s:=39) rfl rfl hv1 rfl) (bp rfl (by as_aux_lemma=>kernel_rfl) rfl rfl rfl rfl rfl rfl (by omega)) | exact eV rfl rfl rfl rfl hvl rfl hk1l (by as_aux_lemma=>kernel_rfl))));(refine bF (by as_aux_lemma=>kernel_rfl) ?_;exact aU (Wk.of ⟨rfl,rfl,rfl,rfl,rfl,rfl,trivial⟩ ⟨rfl,congrArg (fun l=>some (⟨true,83,2, .mix l⟩:Ch)) hfin,trivial⟩ trivial))))))
      ·(skip)
       exact aU (Wk.of ⟨rfl,rfl,congrArg (fun n=>some (o1 (.sl 2000 0 n))) (List.length_set ..).symm,rfl,rfl,rfl,trivial⟩ ⟨rfl,rfl,trivial⟩ trivial)
    ·have hv:eA zs mask (i + 1)=ps ++ [(2 ^ i, [])]:=by rw [hnx,if_neg (by rw [hjb];simp)]
     rw [hv]
     have hcel:∀(j:Nat) (c:gG) (u:Value), [gG.v (I6 ((2 ^ i:Nat):Int)),gG.r 2 1 0 []][j]? =some c→ [I6 ((2 ^ i:Nat):Int),Value.slice none 0 0][j]? =some u→lQ c u:=by
      intro j c u h1 h2
      match j,h1,h2 with
      | 0,h1,h2=>simp at h1 h2;subst h1 h2;rfl
      | 1,h1,h2=>simp at h1 h2;subst h1 h2;exact ⟨rfl,rfl,rfl⟩
     have h1c:∀v∈ [I6 ((2 ^ i:Nat):Int),Value.slice none 0 0],v.oneCell'=true:=by
      intro v hv
      rcases List.mem_cons.1 hv with rfl | hv
      ·rfl
      ·obtain rfl:v= .slice none 0 0:=by simpa using hv
       rfl
     (refine ag ?_;apply ae rfl;(exact ah rfl rfl);apply ae rfl;(exact ah rfl rfl);apply ae rfl;(first | exact dv (g:=i) rfl rfl rfl hi5 | exact fX (vs:= [I6 ((2 ^ i:Nat):Int), .slice none 0 0]) rfl rfl rfl | exact iR (E:=83) rfl (by as_aux_lemma=>kernel_rfl) rfl | exact fA (cn:= [gG.v (I6 ((2 ^ i:Nat):Int)),gG.r 2 1 0 []]) (news:= [I6 ((2 ^ i:Nat):Int), .slice none 0 0]) (k:=2) (m:=1) rfl (by as_aux_lemma=>kernel_rfl) rfl rfl rfl hmx rfl (dc (k:=2) (vs:= [I6 ((2 ^ i:Nat):Int), .slice none 0 0]) rfl rfl rfl rfl (Nat.le_refl _)) (by omega) h1c rfl hcel (by omega));apply ae rfl;(first | exact dv (g:=i) rfl rfl rfl hi5 | exact fX (vs:= [I6 ((2 ^ i:Nat):Int), .slice none 0 0]) rfl rfl rfl | exact iR (E:=83) rfl (by as_aux_lemma=>kernel_rfl) rfl | exact fA (cn:= [gG.v (I6 ((2 ^ i:Nat):Int)),gG.r 2 1 0 []]) (news:= [I6 ((2 ^ i:Nat):Int), .slice none 0 0]) (k:=2) (m:=1) rfl (by as_aux_lemma=>kernel_rfl) rfl rfl rfl hmx rfl (dc (k:=2) (vs:= [I6 ((2 ^ i:Nat):Int), .slice none 0 0]) rfl rfl rfl rfl (Nat.le_refl _)) (by omega) h1c rfl hcel (by omega));apply ae rfl;(first | exact dv (g:=i) rfl rfl rfl hi5 | exact fX (vs:= [I6 ((2 ^ i:Nat):Int), .slice none 0 0]) rfl rfl rfl | exact iR (E:=83) rfl (by as_aux_lemma=>kernel_rfl) rfl | exact fA (cn:= [gG.v (I6 ((2 ^ i:Nat):Int)),gG.r 2 1 0 []]) (news:= [I6 ((2 ^ i:Nat):Int), .slice none 0 0]) (k:=2) (m:=1) rfl (by as_aux_lemma=>kernel_rfl) rfl rfl rfl hmx rfl (dc (k:=2) (vs:= [I6 ((2 ^ i:Nat):Int), .slice none 0 0]) rfl rfl rfl rfl (Nat.le_refl _)) (by omega) h1c rfl hcel (by omega));apply ae rfl;(first | exact dv (g:=i) rfl rfl rfl hi5 | exact fX (vs:= [I6 ((2 ^ i:Nat):Int), .slice none 0 0]) rfl rfl rfl | exact iR (E:=83) rfl (by as_aux_lemma=>kernel_rfl) rfl | exact fA (cn:= [gG.v (I6 ((2 ^ i:Nat):Int)),gG.r 2 1 0 []]) (news:= [I6 ((2 ^ i:Nat):Int), .slice none 0 0]) (k:=2) (m:=1) rfl (by as_aux_lemma=>kernel_rfl) rfl rfl rfl hmx rfl (dc (k:=2) (vs:= [I6 ((2 ^ i:Nat):Int), .slice none 0 0]) rfl rfl rfl rfl (Nat.le_refl _)) (by omega) h1c rfl hcel (by omega));apply ae rfl;(exact ai rfl rfl);refine aq ?_)
     exact aU (Wk.of ⟨rfl,rfl,congrArg (fun n=>some (o1 (.sl 2000 0 n))) (by simp),rfl,rfl,rfl,trivial⟩ ⟨rfl,congrArg (fun l=>some (⟨true,83,2, .mix l⟩:Ch)) (tw ps [(2 ^ i, [])]).symm,trivial⟩ trivial)
   ·(refine an ?_;refine ag ?_;apply ae rfl;(exact ah rfl rfl);apply ae rfl;(exact ah rfl rfl);apply ae rfl;(apply ar 62;exact au hSz (by as_aux_lemma=>kernel_rfl) rfl rfl ⟨rfl,trivial⟩ trivial rfl rfl);apply ae rfl;(exact aB rfl rfl rfl rfl);apply ae rfl;(exact ah rfl rfl))
    refine bH 59 rfl (fun h1=> ?_) (fun h1=> ?_)
    ·have h1':i < L:=by have:=of_decide_eq_true h1;omega
     have gi:(aH zs)[i]? =some (I6 (aC zs i)):=aR (by omega)
     (apply aw rfl rfl rfl;(exact ah rfl rfl);apply aw rfl rfl rfl;(exact ah rfl rfl);apply aw rfl rfl rfl;(exact aS (j:=i) rfl rfl rfl rfl rfl (by as_aux_lemma=>kernel_rfl) rfl h1' hil);apply aw rfl rfl rfl;(exact aV rfl (by as_aux_lemma=>kernel_rfl) rfl rfl rfl (by first | assumption | exact aR (by assumption) | exact bV (by assumption) | exact aR (by omega) | exact bV (by omega) | rfl));apply aw rfl rfl rfl;(exact aB rfl rfl rfl rfl);apply ae rfl;(exact aY rfl rfl rfl);apply ae rfl;(exact ai rfl rfl);refine aq ?_;refine aI ?_;refine an ?_;refine ag ?_;apply ae rfl;(exact aJ rfl rfl rfl (by first | exact IntWalk.i64_in _ (by omega) | rfl));apply ae rfl;(exact ah rfl rfl);refine aq ?_)
     exact aX (i + 1,eA zs mask (i + 1),aC zs i != 2) ⟨by omega,rfl,hjn _ hiL fun _=>rfl⟩ (by show L + 1 - (i + 1) < L + 1 - i;omega) (Wk.of ⟨rfl,rfl,rfl,rfl,rfl,rfl,trivial⟩ ⟨rfl,rfl,trivial⟩ trivial)
    ·have h1':¬i < L:=by have:=of_decide_eq_false h1;omega
     (apply aA rfl rfl rfl rfl rfl;apply aA rfl rfl rfl rfl rfl;apply aA rfl rfl rfl rfl rfl;apply aA rfl rfl rfl rfl rfl;apply aA rfl rfl rfl rfl rfl;apply ae rfl;(exact a7 rfl rfl rfl);apply ae rfl;(exact ai rfl rfl);refine aq ?_;refine aI ?_;refine an ?_;refine ag ?_;apply ae rfl;(exact aJ rfl rfl rfl (by first | exact IntWalk.i64_in _ (by omega) | rfl));apply ae rfl;(exact ah rfl rfl);refine aq ?_)
     exact aX (i + 1,eA zs mask (i + 1),false) ⟨by omega,rfl,fun h=>absurd h (by omega)⟩ (by show L + 1 - (i + 1) < L + 1 - i;omega) (Wk.of ⟨rfl,rfl,rfl,rfl,rfl,rfl,trivial⟩ ⟨rfl,rfl,trivial⟩ trivial)
 ·obtain rfl:i=L + 1:=by omega
  have hv:comps zs mask=ps:=by unfold comps;rw [hL];exact hp
  rw [hv]
  (refine a6 ?_;refine aE ?_;refine aE ?_;refine aP ?_;refine an ?_;refine aj ?_;refine ag ?_;apply ae rfl;(exact ah rfl rfl);apply ae rfl;(exact ai rfl rfl);refine aq ?_;refine an ?_;refine aK ?_)
  exact aW (.inl rfl) rfl (.tmp rfl) ⟨rfl,trivial⟩ trivial
end Go.Proofs.YtekbhbcgoadciaaGreat
namespace Go.Proofs.YtekbhbcgoadciaaGreat
open Go.RowKit
abbrev cA (mv:Int) (i m:Nat):AV:= .s (.agg [.val (I6 mv), .esl 1000 i 0 m])
abbrev dj (cs:List gG):Ch:=⟨false,83,2, .mix cs⟩
set_option maxRecDepth 100000 in
set_option maxHeartbeats 1000000 in
theorem cH (cs:List gG) (mv:Int) (i m n:Nat) (labs list:List Int) (hi:cs[i]? =some (.r 2 1 m (aH labs))) (hm:labs.length=m) (hn:list.length=n) (hm4:m≤1000000) (hn4:n≤1000000):
  FC Tryz.prog 117 [(1000,dj cs),(1001,cf list)] [cA mv i m,o1 (.sl 1001 0 n)] [] (vv (.bool (bA labs list))) []:=by
 have hC:=si 1001 7 n list hn hn4
 have hE:=gr cs i m n 83 2 labs list hi hm hn hm4 hn4
 have hE2:=(gr cs i m n 83 2 labs list.reverse hi hm (by simpa using hn) hm4 hn4).nm [(1000,1000),(1001,7)] (by kernel_rfl)
 have hE2:FC Tryz.prog 119 [(1000,dj cs),(7,cf list.reverse)] [o1 (.esl 1000 i 0 m),o1 (.sl 7 0 n)] [] (vv (.bool (labs == list.reverse))) []:=hE2
 have hRv:∀ao c (w:World),Own w 0 2 ao n c (aH list)→Calls Tryz.prog 145 #[.slice ao n c] w fun e w'=>e= .returned (.tuple #[])∧Own w' 0 2 ao n c (aH list.reverse)∧w.grownBy w' (bk ao):=fun ao c w h=>o9 ao n c list w 0 h
 have hrl:list.reverse.length=n:=by simpa using hn
 refine a5 (nt:=20) Tryz.func117 rfl rfl (by simp) fun w0 ω0=> ?_
 (refine aj ?_;refine ag ?_;apply ae rfl;(exact eY rfl rfl rfl rfl);apply ae rfl;(exact ai rfl rfl);refine aq ?_;refine an ?_;refine aj ?_;refine ag ?_;apply ae rfl;(exact ah rfl rfl);apply ae rfl;(first | (apply ar 144;exact bl hC (by as_aux_lemma=>kernel_rfl) rfl rfl ⟨rfl,trivial⟩ ⟨⟨_,rfl, .inl rfl⟩,trivial⟩ rfl rfl rfl) | (apply ar 145;exact kb (zs:=list) rfl (by as_aux_lemma=>kernel_rfl) rfl rfl hn hrl (by omega) hRv) | (apply ar 119;exact au hE (by as_aux_lemma=>kernel_rfl) rfl rfl ⟨rfl,rfl,trivial⟩ ⟨⟨_,rfl, .inl rfl⟩,⟨_,rfl, .inl rfl⟩,trivial⟩ rfl rfl));apply ae rfl;(exact ai rfl rfl);refine aq ?_;refine an ?_;refine aj ?_;refine ag ?_;apply ae rfl;(exact ah rfl rfl);apply ae rfl;(first | (apply ar 144;exact bl hC (by as_aux_lemma=>kernel_rfl) rfl rfl ⟨rfl,trivial⟩ ⟨⟨_,rfl, .inl rfl⟩,trivial⟩ rfl rfl rfl) | (apply ar 145;exact kb (zs:=list) rfl (by as_aux_lemma=>kernel_rfl) rfl rfl hn hrl (by omega) hRv) | (apply ar 119;exact au hE (by as_aux_lemma=>kernel_rfl) rfl rfl ⟨rfl,rfl,trivial⟩ ⟨⟨_,rfl, .inl rfl⟩,⟨_,rfl, .inl rfl⟩,trivial⟩ rfl rfl));refine aq ?_;refine an ?_;refine aj ?_;refine ag ?_;apply ae rfl;(exact bm (d:=1) rfl rfl rfl (by as_aux_lemma=>kernel_rfl));apply ae rfl;(exact bW rfl (by as_aux_lemma=>kernel_rfl) rfl rfl rfl rfl);apply ae rfl;(exact ah rfl rfl);apply ae rfl;(first | (apply ar 144;exact bl hC (by as_aux_lemma=>kernel_rfl) rfl rfl ⟨rfl,trivial⟩ ⟨⟨_,rfl, .inl rfl⟩,trivial⟩ rfl rfl rfl) | (apply ar 145;exact kb (zs:=list) rfl (by as_aux_lemma=>kernel_rfl) rfl rfl hn hrl (by omega) hRv) | (apply ar 119;exact au hE (by as_aux_lemma=>kernel_rfl) rfl rfl ⟨rfl,rfl,trivial⟩ ⟨⟨_,rfl, .inl rfl⟩,⟨_,rfl, .inl rfl⟩,trivial⟩ rfl rfl));apply ae rfl;(exact ah rfl rfl))
 refine bH 14 rfl (fun h1=> ?_) (fun h1=> ?_)
 ·have hv:bA labs list=true:=by unfold bA;rw [h1];rfl
  rw [hv]
  (apply aA rfl rfl rfl rfl rfl;apply aA rfl rfl rfl rfl rfl;apply aA rfl rfl rfl rfl rfl;apply aA rfl rfl rfl rfl rfl;apply ae rfl;(exact aY rfl rfl rfl);apply ae rfl;(exact ai rfl rfl);refine aq ?_;refine an ?_;refine aK ?_)
  exact aW (.inl rfl) rfl (.tmp rfl) trivial trivial
 ·have hv:bA labs list=(labs == list.reverse):=by unfold bA;rw [h1];rfl
  rw [hv]
  (apply aw rfl rfl rfl;(exact bm (d:=1) rfl rfl rfl (by as_aux_lemma=>kernel_rfl));apply aw rfl rfl rfl;(exact bW rfl (by as_aux_lemma=>kernel_rfl) rfl rfl rfl rfl);apply aw rfl rfl rfl;(exact ah rfl rfl);apply aw rfl rfl rfl;(apply ar 119;exact au hE2 (by as_aux_lemma=>kernel_rfl) rfl rfl ⟨rfl,rfl,trivial⟩ ⟨⟨_,rfl, .inl rfl⟩,⟨_,rfl, .inr rfl⟩,trivial⟩ rfl rfl);apply ae rfl;(exact a7 rfl rfl rfl);apply ae rfl;(exact ai rfl rfl);refine aq ?_;refine an ?_;refine aK ?_)
  exact aW (.inl rfl) rfl (.tmp rfl) trivial trivial
set_option maxRecDepth 100000 in
set_option maxHeartbeats 2000000 in
theorem wu (cs:List gG) (mv:Int) (i m:Nat) (labs:List Int) (hi:cs[i]? =some (.r 2 1 m (aH labs))) (hm:labs.length=m) (hm4:m≤4) (h0:m=0):
  FC Tryz.prog 70 [(1000,dj cs)] [cA mv i m] [(15,bI [2])] (o1 (.sl 15 0 1)) []:=by
 have hSz:=fw 1000 i m
 refine a5 (nt:=75) Tryz.func70 rfl rfl (by simp) fun w0 ω0=> ?_
 have hw1:IntKind.i64.wrap ((m:Int) + 1)=(m:Int) + 1:=IntWalk.i64_in _ (by omega)
 (refine aj ?_;refine ag ?_;apply ae rfl;(exact eY rfl rfl rfl rfl);apply ae rfl;(exact ai rfl rfl);refine aq ?_;refine an ?_;refine aj ?_;refine ag ?_;apply ae rfl;(exact bm (d:=1) rfl rfl rfl (by as_aux_lemma=>kernel_rfl));apply ae rfl;(exact bW rfl (by as_aux_lemma=>kernel_rfl) rfl rfl rfl rfl);apply ae rfl;(first | (apply ar 62;exact au hSz (by as_aux_lemma=>kernel_rfl) rfl rfl ⟨rfl,trivial⟩ trivial rfl rfl) | exact aJ rfl rfl rfl hw1);apply ae rfl;(first | (apply ar 62;exact au hSz (by as_aux_lemma=>kernel_rfl) rfl rfl ⟨rfl,trivial⟩ trivial rfl rfl) | exact aJ rfl rfl rfl hw1);apply ae rfl;(exact ai rfl rfl);refine aq ?_;refine an ?_;refine aj ?_;refine aD ?_;refine aj ?_;refine ag ?_;apply ae rfl;(exact ah rfl rfl);apply ae rfl;(exact aB rfl rfl rfl rfl);apply ae rfl;(exact ai rfl rfl);refine aq ?_;refine an ?_)
 refine ax rfl (fun _=> ?_) (fun e=> ?_)
 ·(refine aj ?_;refine ag ?_;apply ae rfl;(exact cJ (E:=2) rfl (by as_aux_lemma=>kernel_rfl) rfl);apply ae rfl;(exact ai rfl rfl);refine aq ?_;refine an ?_;refine aK ?_;refine bh ?_;refine aT ?_)
  exact aW (.inl rfl) rfl (.tmp rfl) ⟨rfl,trivial⟩ trivial
 ·exfalso;simp at e;omega
set_option maxRecDepth 100000 in
set_option maxHeartbeats 2000000 in
theorem vV (cs:List gG) (mv:Int) (i m:Nat) (labs:List Int) (hi:cs[i]? =some (.r 2 1 m (aH labs))) (hm:labs.length=m) (hm4:m≤4) (h0:m=1) (hp:0 < aC labs 0):
  FC Tryz.prog 70 [(1000,dj cs)] [cA mv i m] [(30,bI [2,aC labs 0])] (o1 (.sl 30 0 2)) []:=by
 have hSz:=fw 1000 i m
 refine a5 (nt:=75) Tryz.func70 rfl rfl (by simp) fun w0 ω0=> ?_
 have hgl:(aH labs)[0]? =some (I6 (aC labs 0)):=aR (by omega)
 have hw1:IntKind.i64.wrap ((m:Int) + 1)=(m:Int) + 1:=IntWalk.i64_in _ (by omega)
 (refine aj ?_;refine ag ?_;apply ae rfl;(exact eY rfl rfl rfl rfl);apply ae rfl;(exact ai rfl rfl);refine aq ?_;refine an ?_;refine aj ?_;refine ag ?_;apply ae rfl;(exact bm (d:=1) rfl rfl rfl (by as_aux_lemma=>kernel_rfl));apply ae rfl;(exact bW rfl (by as_aux_lemma=>kernel_rfl) rfl rfl rfl rfl);apply ae rfl;(first | (apply ar 62;exact au hSz (by as_aux_lemma=>kernel_rfl) rfl rfl ⟨rfl,trivial⟩ trivial rfl rfl) | exact aJ rfl rfl rfl hw1);apply ae rfl;(first | (apply ar 62;exact au hSz (by as_aux_lemma=>kernel_rfl) rfl rfl ⟨rfl,trivial⟩ trivial rfl rfl) | exact aJ rfl rfl rfl hw1);apply ae rfl;(exact ai rfl rfl);refine aq ?_;refine an ?_;refine aj ?_;refine aD ?_;refine aj ?_;refine ag ?_;apply ae rfl;(exact ah rfl rfl);apply ae rfl;(exact aB rfl rfl rfl rfl);apply ae rfl;(exact ai rfl rfl);refine aq ?_;refine an ?_)
 refine ax rfl (fun e=> ?_) (fun _=> ?_)
 ·exfalso;simp at e;omega
 (refine aj ?_;refine ag ?_;apply ae rfl;(exact ah rfl rfl);apply ae rfl;(exact aB rfl rfl rfl rfl);apply ae rfl;(exact ah rfl rfl))
 refine bH 19 rfl (fun _=> ?_) (fun e=> ?_)
 ·(apply aw rfl rfl rfl;(exact bm (d:=1) rfl rfl rfl (by as_aux_lemma=>kernel_rfl));apply aw rfl rfl rfl;(exact bW rfl (by as_aux_lemma=>kernel_rfl) rfl rfl rfl rfl);apply aw rfl rfl rfl;(first | exact cX (j:=0) rfl rfl rfl rfl rfl (by as_aux_lemma=>kernel_rfl) hi (by omega) rfl (by omega) (Nat.le_refl _) | exact bY rfl (by as_aux_lemma=>kernel_rfl) rfl rfl rfl hi hgl);apply aw rfl rfl rfl;(first | exact cX (j:=0) rfl rfl rfl rfl rfl (by as_aux_lemma=>kernel_rfl) hi (by omega) rfl (by omega) (Nat.le_refl _) | exact bY rfl (by as_aux_lemma=>kernel_rfl) rfl rfl rfl hi hgl);apply aw rfl rfl rfl;(exact aB rfl rfl rfl rfl);apply ae rfl;(exact aY rfl rfl rfl);apply ae rfl;(exact ai rfl rfl);refine aq ?_;refine an ?_)
  refine ax rfl (fun _=> ?_) (fun e=> ?_)
  ·(refine aj ?_;refine ag ?_;apply ae rfl;(exact bm (d:=1) rfl rfl rfl (by as_aux_lemma=>kernel_rfl));apply ae rfl;(exact bW rfl (by as_aux_lemma=>kernel_rfl) rfl rfl rfl rfl);apply ae rfl;(first | exact cX (j:=0) rfl rfl rfl rfl rfl (by as_aux_lemma=>kernel_rfl) hi (by omega) rfl (by omega) (Nat.le_refl _) | exact bY rfl (by as_aux_lemma=>kernel_rfl) rfl rfl rfl hi hgl);apply ae rfl;(first | exact cX (j:=0) rfl rfl rfl rfl rfl (by as_aux_lemma=>kernel_rfl) hi (by omega) rfl (by omega) (Nat.le_refl _) | exact bY rfl (by as_aux_lemma=>kernel_rfl) rfl rfl rfl hi hgl);apply ae rfl;(exact cr (E:=2) rfl (by as_aux_lemma=>kernel_rfl) rfl rfl);apply ae rfl;(exact ai rfl rfl);refine aq ?_;refine an ?_;refine aK ?_;refine bh ?_;refine aT ?_)
   exact aW (.inl rfl) rfl (.tmp rfl) ⟨rfl,trivial⟩ trivial
  ·exfalso;simp at e;omega
 ·exfalso;simp at e;omega
set_option maxRecDepth 100000 in
set_option maxHeartbeats 2000000 in
theorem vK (cs:List gG) (mv:Int) (i m:Nat) (labs:List Int) (hi:cs[i]? =some (.r 2 1 m (aH labs))) (hm:labs.length=m) (hm4:m≤4) (h0:0 < m) (hq:¬(m=1∧0 < aC labs 0)) (e1:bA labs [3,5]=true):
  FC Tryz.prog 70 [(1000,dj cs)] [cA mv i m] [(35,bI [2,6,10])] (o1 (.sl 35 0 3)) []:=by
 have hSz:=fw 1000 i m
 have hE1:=(cH cs mv i m 2 labs [3,5] hi hm rfl (by omega) (by omega)).nm [(1000,1000),(1001,33)] (by kernel_rfl)
 have hE1:FC Tryz.prog 117 [(1000,dj cs),(33,cf [3,5])] [cA mv i m,o1 (.sl 33 0 2)] [] (vv (.bool (bA labs [3,5]))) []:=hE1
 rw [e1] at hE1
 refine a5 (nt:=75) Tryz.func70 rfl rfl (by simp) fun w0 ω0=> ?_
 have hw1:IntKind.i64.wrap ((m:Int) + 1)=(m:Int) + 1:=IntWalk.i64_in _ (by omega)
 (refine aj ?_;refine ag ?_;apply ae rfl;(exact eY rfl rfl rfl rfl);apply ae rfl;(exact ai rfl rfl);refine aq ?_;refine an ?_;refine aj ?_;refine ag ?_;apply ae rfl;(exact bm (d:=1) rfl rfl rfl (by as_aux_lemma=>kernel_rfl));apply ae rfl;(exact bW rfl (by as_aux_lemma=>kernel_rfl) rfl rfl rfl rfl);apply ae rfl;(first | (apply ar 62;exact au hSz (by as_aux_lemma=>kernel_rfl) rfl rfl ⟨rfl,trivial⟩ trivial rfl rfl) | exact aJ rfl rfl rfl hw1);apply ae rfl;(first | (apply ar 62;exact au hSz (by as_aux_lemma=>kernel_rfl) rfl rfl ⟨rfl,trivial⟩ trivial rfl rfl) | exact aJ rfl rfl rfl hw1);apply ae rfl;(exact ai rfl rfl);refine aq ?_;refine an ?_;refine aj ?_;refine aD ?_;refine aj ?_;refine ag ?_;apply ae rfl;(exact ah rfl rfl);apply ae rfl;(exact aB rfl rfl rfl rfl);apply ae rfl;(exact ai rfl rfl);refine aq ?_;refine an ?_)
 refine ax rfl (fun e=> ?_) (fun _=> ?_)
 ·exfalso;simp at e;omega
 (repeat (first | refine aj ?_ | refine an ?_ | refine aG ?_ | refine aD ?_ | refine aI ?_ | refine a6 ?_ | refine aP ?_ | refine bP rfl ?_ | refine aE ?_))
 refine cq (St.of [(1,o1 (.ptr 1 0)),(3,vv (I6 ((m:Int) + 1))),(16,vv (.bool false))] [(1000,dj cs),(1,⟨true,83,2, .flat [.val (I6 mv), .esl 1000 i 0 m]⟩)]) ?_ ?_
 ·refine ag ?_
  (apply ae rfl;(exact ah rfl rfl);apply ae rfl;(exact aB rfl rfl rfl rfl);apply ae rfl;(exact ah rfl rfl))
  refine bH 19 rfl (fun e1=> ?_) (fun e1=> ?_)
  ·have e1:m=1:=by simp at e1;omega
   have hg2:¬aC labs 0 > 0:=fun h=>hq ⟨e1,h⟩
   have hgl:(aH labs)[0]? =some (I6 (aC labs 0)):=aR (by omega)
   have hbf:df .i64 .gtr (aC labs 0) 0=some (.bool false):=by simp [df];omega
   (apply aw rfl rfl rfl;(exact bm (d:=1) rfl rfl rfl (by as_aux_lemma=>kernel_rfl));apply aw rfl rfl rfl;(exact bW rfl (by as_aux_lemma=>kernel_rfl) rfl rfl rfl rfl);apply aw rfl rfl rfl;(first | exact aB rfl rfl rfl hbf | exact cX (j:=0) rfl rfl rfl rfl rfl (by as_aux_lemma=>kernel_rfl) hi (by omega) rfl (by omega) (Nat.le_refl _) | exact bY rfl (by as_aux_lemma=>kernel_rfl) rfl rfl rfl hi hgl);apply aw rfl rfl rfl;(first | exact aB rfl rfl rfl hbf | exact cX (j:=0) rfl rfl rfl rfl rfl (by as_aux_lemma=>kernel_rfl) hi (by omega) rfl (by omega) (Nat.le_refl _) | exact bY rfl (by as_aux_lemma=>kernel_rfl) rfl rfl rfl hi hgl);apply aw rfl rfl rfl;(first | exact aB rfl rfl rfl hbf | exact cX (j:=0) rfl rfl rfl rfl rfl (by as_aux_lemma=>kernel_rfl) hi (by omega) rfl (by omega) (Nat.le_refl _) | exact bY rfl (by as_aux_lemma=>kernel_rfl) rfl rfl rfl hi hgl);apply ae rfl;(exact aY rfl rfl rfl);apply ae rfl;(exact ai rfl rfl);refine aq ?_)
   exact aU (Wk.of ⟨rfl,rfl,rfl,trivial⟩ ⟨rfl,rfl,trivial⟩ trivial)
  ·(apply aA rfl rfl rfl rfl rfl;apply aA rfl rfl rfl rfl rfl;apply aA rfl rfl rfl rfl rfl;apply aA rfl rfl rfl rfl rfl;apply aA rfl rfl rfl rfl rfl;apply ae rfl;(exact a7 rfl rfl rfl);apply ae rfl;(exact ai rfl rfl);refine aq ?_)
   exact aU (Wk.of ⟨rfl,rfl,rfl,trivial⟩ ⟨rfl,rfl,trivial⟩ trivial)
 (refine an ?_)
 refine ax rfl (fun e=>by cases e) (fun _=> ?_)
 (refine aj ?_;refine ag ?_;apply ae rfl;(exact bX rfl rfl rfl rfl rfl rfl (by as_aux_lemma=>kernel_rfl));apply ae rfl;(exact cr (E:=2) rfl (by as_aux_lemma=>kernel_rfl) rfl rfl);apply ae rfl;(first | (apply ar 117;exact au hE1 (by as_aux_lemma=>kernel_rfl) rfl rfl ⟨⟨.inl rfl, .inl rfl,trivial⟩,rfl,trivial⟩ ⟨⟨_,rfl, .inl rfl⟩,⟨_,rfl, .inr rfl⟩,trivial⟩ rfl rfl) | exact aM (E:=2) rfl (by as_aux_lemma=>kernel_rfl) rfl rfl rfl | exact aL (E:=2) rfl (by as_aux_lemma=>kernel_rfl) rfl rfl rfl rfl);apply ae rfl;(exact ai rfl rfl);refine aq ?_;refine an ?_)
 refine ax rfl (fun _=> ?_) (fun e=>by cases e)
 (refine aj ?_;refine ag ?_;apply ae rfl;(first | exact aM (E:=2) rfl (by as_aux_lemma=>kernel_rfl) rfl rfl rfl | exact aL (E:=2) rfl (by as_aux_lemma=>kernel_rfl) rfl rfl rfl rfl);apply ae rfl;(exact ai rfl rfl);refine aq ?_;refine an ?_;refine aK ?_;refine bh ?_;refine aT ?_)
 exact aW (.inl rfl) rfl (.tmp rfl) ⟨rfl,trivial⟩ trivial
set_option maxRecDepth 100000 in
set_option maxHeartbeats 2000000 in
theorem wK (cs:List gG) (mv:Int) (i m:Nat) (labs:List Int) (hi:cs[i]? =some (.r 2 1 m (aH labs))) (hm:labs.length=m) (hm4:m≤4) (h0:0 < m) (hq:¬(m=1∧0 < aC labs 0)) (e1:bA labs [3,5]=false) (e2:bA labs [3,3,5]=true):
  FC Tryz.prog 70 [(1000,dj cs)] [cA mv i m] [(40,bI [2,12,20,30])] (o1 (.sl 40 0 4)) []:=by
 have hSz:=fw 1000 i m
 have hE1:=(cH cs mv i m 2 labs [3,5] hi hm rfl (by omega) (by omega)).nm [(1000,1000),(1001,33)] (by kernel_rfl)
 have hE1:FC Tryz.prog 117 [(1000,dj cs),(33,cf [3,5])] [cA mv i m,o1 (.sl 33 0 2)] [] (vv (.bool (bA labs [3,5]))) []:=hE1
 rw [e1] at hE1
 have hE2:=(cH cs mv i m 3 labs [3,3,5] hi hm rfl (by omega) (by omega)).nm [(1000,1000),(1001,38)] (by kernel_rfl)
 have hE2:FC Tryz.prog 117 [(1000,dj cs),(38,cf [3,3,5])] [cA mv i m,o1 (.sl 38 0 3)] [] (vv (.bool (bA labs [3,3,5]))) []:=hE2
 rw [e2] at hE2
 refine a5 (nt:=75) Tryz.func70 rfl rfl (by simp) fun w0 ω0=> ?_
 have hw1:IntKind.i64.wrap ((m:Int) + 1)=(m:Int) + 1:=IntWalk.i64_in _ (by omega)
 (refine aj ?_;refine ag ?_;apply ae rfl;(exact eY rfl rfl rfl rfl);apply ae rfl;(exact ai rfl rfl);refine aq ?_;refine an ?_;refine aj ?_;refine ag ?_;apply ae rfl;(exact bm (d:=1) rfl rfl rfl (by as_aux_lemma=>kernel_rfl));apply ae rfl;(exact bW rfl (by as_aux_lemma=>kernel_rfl) rfl rfl rfl rfl);apply ae rfl;(first | (apply ar 62;exact au hSz (by as_aux_lemma=>kernel_rfl) rfl rfl ⟨rfl,trivial⟩ trivial rfl rfl) | exact aJ rfl rfl rfl hw1);apply ae rfl;(first | (apply ar 62;exact au hSz (by as_aux_lemma=>kernel_rfl) rfl rfl ⟨rfl,trivial⟩ trivial rfl rfl) | exact aJ rfl rfl rfl hw1);apply ae rfl;(exact ai rfl rfl);refine aq ?_;refine an ?_;refine aj ?_;refine aD ?_;refine aj ?_;refine ag ?_;apply ae rfl;(exact ah rfl rfl);apply ae rfl;(exact aB rfl rfl rfl rfl);apply ae rfl;(exact ai rfl rfl);refine aq ?_;refine an ?_)
 refine ax rfl (fun e=> ?_) (fun _=> ?_)
 ·exfalso;simp at e;omega
 (repeat (first | refine aj ?_ | refine an ?_ | refine aG ?_ | refine aD ?_ | refine aI ?_ | refine a6 ?_ | refine aP ?_ | refine bP rfl ?_ | refine aE ?_))
 refine cq (St.of [(1,o1 (.ptr 1 0)),(3,vv (I6 ((m:Int) + 1))),(16,vv (.bool false))] [(1000,dj cs),(1,⟨true,83,2, .flat [.val (I6 mv), .esl 1000 i 0 m]⟩)]) ?_ ?_
 ·refine ag ?_
  (apply ae rfl;(exact ah rfl rfl);apply ae rfl;(exact aB rfl rfl rfl rfl);apply ae rfl;(exact ah rfl rfl))
  refine bH 19 rfl (fun e1=> ?_) (fun e1=> ?_)
  ·have e1:m=1:=by simp at e1;omega
   have hg2:¬aC labs 0 > 0:=fun h=>hq ⟨e1,h⟩
   have hgl:(aH labs)[0]? =some (I6 (aC labs 0)):=aR (by omega)
   have hbf:df .i64 .gtr (aC labs 0) 0=some (.bool false):=by simp [df];omega
   (apply aw rfl rfl rfl;(exact bm (d:=1) rfl rfl rfl (by as_aux_lemma=>kernel_rfl));apply aw rfl rfl rfl;(exact bW rfl (by as_aux_lemma=>kernel_rfl) rfl rfl rfl rfl);apply aw rfl rfl rfl;(first | exact aB rfl rfl rfl hbf | exact cX (j:=0) rfl rfl rfl rfl rfl (by as_aux_lemma=>kernel_rfl) hi (by omega) rfl (by omega) (Nat.le_refl _) | exact bY rfl (by as_aux_lemma=>kernel_rfl) rfl rfl rfl hi hgl);apply aw rfl rfl rfl;(first | exact aB rfl rfl rfl hbf | exact cX (j:=0) rfl rfl rfl rfl rfl (by as_aux_lemma=>kernel_rfl) hi (by omega) rfl (by omega) (Nat.le_refl _) | exact bY rfl (by as_aux_lemma=>kernel_rfl) rfl rfl rfl hi hgl);apply aw rfl rfl rfl;(first | exact aB rfl rfl rfl hbf | exact cX (j:=0) rfl rfl rfl rfl rfl (by as_aux_lemma=>kernel_rfl) hi (by omega) rfl (by omega) (Nat.le_refl _) | exact bY rfl (by as_aux_lemma=>kernel_rfl) rfl rfl rfl hi hgl);apply ae rfl;(exact aY rfl rfl rfl);apply ae rfl;(exact ai rfl rfl);refine aq ?_)
   exact aU (Wk.of ⟨rfl,rfl,rfl,trivial⟩ ⟨rfl,rfl,trivial⟩ trivial)
  ·(apply aA rfl rfl rfl rfl rfl;apply aA rfl rfl rfl rfl rfl;apply aA rfl rfl rfl rfl rfl;apply aA rfl rfl rfl rfl rfl;apply aA rfl rfl rfl rfl rfl;apply ae rfl;(exact a7 rfl rfl rfl);apply ae rfl;(exact ai rfl rfl);refine aq ?_)
   exact aU (Wk.of ⟨rfl,rfl,rfl,trivial⟩ ⟨rfl,rfl,trivial⟩ trivial)
 (refine an ?_)
 refine ax rfl (fun e=>by cases e) (fun _=> ?_)
 (refine aj ?_;refine ag ?_;apply ae rfl;(exact bX rfl rfl rfl rfl rfl rfl (by as_aux_lemma=>kernel_rfl));apply ae rfl;(exact cr (E:=2) rfl (by as_aux_lemma=>kernel_rfl) rfl rfl);apply ae rfl;(first | (apply ar 117;exact au hE1 (by as_aux_lemma=>kernel_rfl) rfl rfl ⟨⟨.inl rfl, .inl rfl,trivial⟩,rfl,trivial⟩ ⟨⟨_,rfl, .inl rfl⟩,⟨_,rfl, .inr rfl⟩,trivial⟩ rfl rfl) | exact aM (E:=2) rfl (by as_aux_lemma=>kernel_rfl) rfl rfl rfl | exact aL (E:=2) rfl (by as_aux_lemma=>kernel_rfl) rfl rfl rfl rfl);apply ae rfl;(exact ai rfl rfl);refine aq ?_;refine an ?_)
 refine ax rfl (fun e=>by cases e) (fun _=> ?_)
 (refine aj ?_;refine ag ?_;apply ae rfl;(exact bX rfl rfl rfl rfl rfl rfl (by as_aux_lemma=>kernel_rfl));apply ae rfl;(first | (apply ar 117;exact au hE2 (by as_aux_lemma=>kernel_rfl) rfl rfl ⟨⟨.inl rfl, .inl rfl,trivial⟩,rfl,trivial⟩ ⟨⟨_,rfl, .inl rfl⟩,⟨_,rfl, .inr rfl⟩,trivial⟩ rfl rfl) | exact aM (E:=2) rfl (by as_aux_lemma=>kernel_rfl) rfl rfl rfl | exact aL (E:=2) rfl (by as_aux_lemma=>kernel_rfl) rfl rfl rfl rfl);apply ae rfl;(first | (apply ar 117;exact au hE2 (by as_aux_lemma=>kernel_rfl) rfl rfl ⟨⟨.inl rfl, .inl rfl,trivial⟩,rfl,trivial⟩ ⟨⟨_,rfl, .inl rfl⟩,⟨_,rfl, .inr rfl⟩,trivial⟩ rfl rfl) | exact aM (E:=2) rfl (by as_aux_lemma=>kernel_rfl) rfl rfl rfl | exact aL (E:=2) rfl (by as_aux_lemma=>kernel_rfl) rfl rfl rfl rfl);apply ae rfl;(exact ai rfl rfl);refine aq ?_;refine an ?_)
 refine ax rfl (fun _=> ?_) (fun e=>by cases e)
 (refine aj ?_;refine ag ?_;apply ae rfl;(first | exact aM (E:=2) rfl (by as_aux_lemma=>kernel_rfl) rfl rfl rfl | exact aL (E:=2) rfl (by as_aux_lemma=>kernel_rfl) rfl rfl rfl rfl);apply ae rfl;(exact ai rfl rfl);refine aq ?_;refine an ?_;refine aK ?_;refine bh ?_;refine aT ?_)
 exact aW (.inl rfl) rfl (.tmp rfl) ⟨rfl,trivial⟩ trivial
set_option maxRecDepth 100000 in
set_option maxHeartbeats 2000000 in
theorem wL (cs:List gG) (mv:Int) (i m:Nat) (labs:List Int) (hi:cs[i]? =some (.r 2 1 m (aH labs))) (hm:labs.length=m) (hm4:m≤4) (h0:0 < m) (hq:¬(m=1∧0 < aC labs 0)) (e1:bA labs [3,5]=false) (e2:bA labs [3,3,5]=false) (e3:bA labs [3,4,3]=true):
  FC Tryz.prog 70 [(1000,dj cs)] [cA mv i m] [(45,bI [2,6,8,12])] (o1 (.sl 45 0 4)) []:=by
 have hSz:=fw 1000 i m
 have hE1:=(cH cs mv i m 2 labs [3,5] hi hm rfl (by omega) (by omega)).nm [(1000,1000),(1001,33)] (by kernel_rfl)
 have hE1:FC Tryz.prog 117 [(1000,dj cs),(33,cf [3,5])] [cA mv i m,o1 (.sl 33 0 2)] [] (vv (.bool (bA labs [3,5]))) []:=hE1
 rw [e1] at hE1
 have hE2:=(cH cs mv i m 3 labs [3,3,5] hi hm rfl (by omega) (by omega)).nm [(1000,1000),(1001,38)] (by kernel_rfl)
 have hE2:FC Tryz.prog 117 [(1000,dj cs),(38,cf [3,3,5])] [cA mv i m,o1 (.sl 38 0 3)] [] (vv (.bool (bA labs [3,3,5]))) []:=hE2
 rw [e2] at hE2
 have hE3:=(cH cs mv i m 3 labs [3,4,3] hi hm rfl (by omega) (by omega)).nm [(1000,1000),(1001,43)] (by kernel_rfl)
 have hE3:FC Tryz.prog 117 [(1000,dj cs),(43,cf [3,4,3])] [cA mv i m,o1 (.sl 43 0 3)] [] (vv (.bool (bA labs [3,4,3]))) []:=hE3
 rw [e3] at hE3
 refine a5 (nt:=75) Tryz.func70 rfl rfl (by simp) fun w0 ω0=> ?_
 have hw1:IntKind.i64.wrap ((m:Int) + 1)=(m:Int) + 1:=IntWalk.i64_in _ (by omega)
 (refine aj ?_;refine ag ?_;apply ae rfl;(exact eY rfl rfl rfl rfl);apply ae rfl;(exact ai rfl rfl);refine aq ?_;refine an ?_;refine aj ?_;refine ag ?_;apply ae rfl;(exact bm (d:=1) rfl rfl rfl (by as_aux_lemma=>kernel_rfl));apply ae rfl;(exact bW rfl (by as_aux_lemma=>kernel_rfl) rfl rfl rfl rfl);apply ae rfl;(first | (apply ar 62;exact au hSz (by as_aux_lemma=>kernel_rfl) rfl rfl ⟨rfl,trivial⟩ trivial rfl rfl) | exact aJ rfl rfl rfl hw1);apply ae rfl;(first | (apply ar 62;exact au hSz (by as_aux_lemma=>kernel_rfl) rfl rfl ⟨rfl,trivial⟩ trivial rfl rfl) | exact aJ rfl rfl rfl hw1);apply ae rfl;(exact ai rfl rfl);refine aq ?_;refine an ?_;refine aj ?_;refine aD ?_;refine aj ?_;refine ag ?_;apply ae rfl;(exact ah rfl rfl);apply ae rfl;(exact aB rfl rfl rfl rfl);apply ae rfl;(exact ai rfl rfl);refine aq ?_;refine an ?_)
 refine ax rfl (fun e=> ?_) (fun _=> ?_)
 ·exfalso;simp at e;omega
 (repeat (first | refine aj ?_ | refine an ?_ | refine aG ?_ | refine aD ?_ | refine aI ?_ | refine a6 ?_ | refine aP ?_ | refine bP rfl ?_ | refine aE ?_))
 refine cq (St.of [(1,o1 (.ptr 1 0)),(3,vv (I6 ((m:Int) + 1))),(16,vv (.bool false))] [(1000,dj cs),(1,⟨true,83,2, .flat [.val (I6 mv), .esl 1000 i 0 m]⟩)]) ?_ ?_
 ·refine ag ?_
  (apply ae rfl;(exact ah rfl rfl);apply ae rfl;(exact aB rfl rfl rfl rfl);apply ae rfl;(exact ah rfl rfl))
  refine bH 19 rfl (fun e1=> ?_) (fun e1=> ?_)
  ·have e1:m=1:=by simp at e1;omega
   have hg2:¬aC labs 0 > 0:=fun h=>hq ⟨e1,h⟩
   have hgl:(aH labs)[0]? =some (I6 (aC labs 0)):=aR (by omega)
   have hbf:df .i64 .gtr (aC labs 0) 0=some (.bool false):=by simp [df];omega
   (apply aw rfl rfl rfl;(exact bm (d:=1) rfl rfl rfl (by as_aux_lemma=>kernel_rfl));apply aw rfl rfl rfl;(exact bW rfl (by as_aux_lemma=>kernel_rfl) rfl rfl rfl rfl);apply aw rfl rfl rfl;(first | exact aB rfl rfl rfl hbf | exact cX (j:=0) rfl rfl rfl rfl rfl (by as_aux_lemma=>kernel_rfl) hi (by omega) rfl (by omega) (Nat.le_refl _) | exact bY rfl (by as_aux_lemma=>kernel_rfl) rfl rfl rfl hi hgl);apply aw rfl rfl rfl;(first | exact aB rfl rfl rfl hbf | exact cX (j:=0) rfl rfl rfl rfl rfl (by as_aux_lemma=>kernel_rfl) hi (by omega) rfl (by omega) (Nat.le_refl _) | exact bY rfl (by as_aux_lemma=>kernel_rfl) rfl rfl rfl hi hgl);apply aw rfl rfl rfl;(first | exact aB rfl rfl rfl hbf | exact cX (j:=0) rfl rfl rfl rfl rfl (by as_aux_lemma=>kernel_rfl) hi (by omega) rfl (by omega) (Nat.le_refl _) | exact bY rfl (by as_aux_lemma=>kernel_rfl) rfl rfl rfl hi hgl);apply ae rfl;(exact aY rfl rfl rfl);apply ae rfl;(exact ai rfl rfl);refine aq ?_)
   exact aU (Wk.of ⟨rfl,rfl,rfl,trivial⟩ ⟨rfl,rfl,trivial⟩ trivial)
  ·(apply aA rfl rfl rfl rfl rfl;apply aA rfl rfl rfl rfl rfl;apply aA rfl rfl rfl rfl rfl;apply aA rfl rfl rfl rfl rfl;apply aA rfl rfl rfl rfl rfl;apply ae rfl;(exact a7 rfl rfl rfl);apply ae rfl;(exact ai rfl rfl);refine aq ?_)
   exact aU (Wk.of ⟨rfl,rfl,rfl,trivial⟩ ⟨rfl,rfl,trivial⟩ trivial)
 (refine an ?_)
 refine ax rfl (fun e=>by cases e) (fun _=> ?_)
 (refine aj ?_;refine ag ?_;apply ae rfl;(exact bX rfl rfl rfl rfl rfl rfl (by as_aux_lemma=>kernel_rfl));apply ae rfl;(exact cr (E:=2) rfl (by as_aux_lemma=>kernel_rfl) rfl rfl);apply ae rfl;(first | (apply ar 117;exact au hE1 (by as_aux_lemma=>kernel_rfl) rfl rfl ⟨⟨.inl rfl, .inl rfl,trivial⟩,rfl,trivial⟩ ⟨⟨_,rfl, .inl rfl⟩,⟨_,rfl, .inr rfl⟩,trivial⟩ rfl rfl) | exact aM (E:=2) rfl (by as_aux_lemma=>kernel_rfl) rfl rfl rfl | exact aL (E:=2) rfl (by as_aux_lemma=>kernel_rfl) rfl rfl rfl rfl);apply ae rfl;(exact ai rfl rfl);refine aq ?_;refine an ?_)
 refine ax rfl (fun e=>by cases e) (fun _=> ?_)
 (refine aj ?_;refine ag ?_;apply ae rfl;(exact bX rfl rfl rfl rfl rfl rfl (by as_aux_lemma=>kernel_rfl));apply ae rfl;(first | (apply ar 117;exact au hE2 (by as_aux_lemma=>kernel_rfl) rfl rfl ⟨⟨.inl rfl, .inl rfl,trivial⟩,rfl,trivial⟩ ⟨⟨_,rfl, .inl rfl⟩,⟨_,rfl, .inr rfl⟩,trivial⟩ rfl rfl) | exact aM (E:=2) rfl (by as_aux_lemma=>kernel_rfl) rfl rfl rfl | exact aL (E:=2) rfl (by as_aux_lemma=>kernel_rfl) rfl rfl rfl rfl);apply ae rfl;(first | (apply ar 117;exact au hE2 (by as_aux_lemma=>kernel_rfl) rfl rfl ⟨⟨.inl rfl, .inl rfl,trivial⟩,rfl,trivial⟩ ⟨⟨_,rfl, .inl rfl⟩,⟨_,rfl, .inr rfl⟩,trivial⟩ rfl rfl) | exact aM (E:=2) rfl (by as_aux_lemma=>kernel_rfl) rfl rfl rfl | exact aL (E:=2) rfl (by as_aux_lemma=>kernel_rfl) rfl rfl rfl rfl);apply ae rfl;(exact ai rfl rfl);refine aq ?_;refine an ?_)
 refine ax rfl (fun e=>by cases e) (fun _=> ?_)
 (refine aj ?_;refine ag ?_;apply ae rfl;(exact bX rfl rfl rfl rfl rfl rfl (by as_aux_lemma=>kernel_rfl));apply ae rfl;(first | (apply ar 117;exact au hE3 (by as_aux_lemma=>kernel_rfl) rfl rfl ⟨⟨.inl rfl, .inl rfl,trivial⟩,rfl,trivial⟩ ⟨⟨_,rfl, .inl rfl⟩,⟨_,rfl, .inr rfl⟩,trivial⟩ rfl rfl) | exact aM (E:=2) rfl (by as_aux_lemma=>kernel_rfl) rfl rfl rfl | exact aL (E:=2) rfl (by as_aux_lemma=>kernel_rfl) rfl rfl rfl rfl);apply ae rfl;(first | (apply ar 117;exact au hE3 (by as_aux_lemma=>kernel_rfl) rfl rfl ⟨⟨.inl rfl, .inl rfl,trivial⟩,rfl,trivial⟩ ⟨⟨_,rfl, .inl rfl⟩,⟨_,rfl, .inr rfl⟩,trivial⟩ rfl rfl) | exact aM (E:=2) rfl (by as_aux_lemma=>kernel_rfl) rfl rfl rfl | exact aL (E:=2) rfl (by as_aux_lemma=>kernel_rfl) rfl rfl rfl rfl);apply ae rfl;(exact ai rfl rfl);refine aq ?_;refine an ?_)
 refine ax rfl (fun _=> ?_) (fun e=>by cases e)
 (refine aj ?_;refine ag ?_;apply ae rfl;(first | exact aM (E:=2) rfl (by as_aux_lemma=>kernel_rfl) rfl rfl rfl | exact aL (E:=2) rfl (by as_aux_lemma=>kernel_rfl) rfl rfl rfl rfl);apply ae rfl;(exact ai rfl rfl);refine aq ?_;refine an ?_;refine aK ?_;refine bh ?_;refine aT ?_)
 exact aW (.inl rfl) rfl (.tmp rfl) ⟨rfl,trivial⟩ trivial
set_option maxRecDepth 100000 in
set_option maxHeartbeats 2000000 in
theorem vt (cs:List gG) (mv:Int) (i m:Nat) (labs:List Int) (hi:cs[i]? =some (.r 2 1 m (aH labs))) (hm:labs.length=m) (hm4:m≤4) (h0:0 < m) (hq:¬(m=1∧0 < aC labs 0)) (e1:bA labs [3,5]=false) (e2:bA labs [3,3,5]=false) (e3:bA labs [3,4,3]=false) (e4:labs=List.replicate m 3):
  FC Tryz.prog 70 [(1000,dj cs)] [cA mv i m] [(2100,bI (eD (m + 1) 1))] (o1 (.sl 2100 0 (m + 1))) []:=by
 have hSz:=fw 1000 i m
 have hE1:=(cH cs mv i m 2 labs [3,5] hi hm rfl (by omega) (by omega)).nm [(1000,1000),(1001,33)] (by kernel_rfl)
 have hE1:FC Tryz.prog 117 [(1000,dj cs),(33,cf [3,5])] [cA mv i m,o1 (.sl 33 0 2)] [] (vv (.bool (bA labs [3,5]))) []:=hE1
 rw [e1] at hE1
 have hE2:=(cH cs mv i m 3 labs [3,3,5] hi hm rfl (by omega) (by omega)).nm [(1000,1000),(1001,38)] (by kernel_rfl)
 have hE2:FC Tryz.prog 117 [(1000,dj cs),(38,cf [3,3,5])] [cA mv i m,o1 (.sl 38 0 3)] [] (vv (.bool (bA labs [3,3,5]))) []:=hE2
 rw [e2] at hE2
 have hE3:=(cH cs mv i m 3 labs [3,4,3] hi hm rfl (by omega) (by omega)).nm [(1000,1000),(1001,43)] (by kernel_rfl)
 have hE3:FC Tryz.prog 117 [(1000,dj cs),(43,cf [3,4,3])] [cA mv i m,o1 (.sl 43 0 3)] [] (vv (.bool (bA labs [3,4,3]))) []:=hE3
 rw [e3] at hE3
 refine a5 (nt:=75) Tryz.func70 rfl rfl (by simp) fun w0 ω0=> ?_
 have hR:FC Tryz.prog 118 [(46,⟨false,2,1, .bG (aH [3])⟩)] [o1 (.sl 46 0 1),vv (I6 m)] [(50,⟨true,2,1, .bG (aH (List.replicate m 3))⟩)] (o1 (.sl 50 0 m)) []:=jr 46 50 m 3 (by omega) h0
 have hrl:(List.replicate m (3:Int)).length=m:=by simp
 have hQ:=(gr cs i m m 83 2 labs (List.replicate m 3) hi hm hrl (by omega) (by omega)).nm [(1000,1000),(1001,50)] (by kernel_rfl)
 have hQ:FC Tryz.prog 119 [(1000,dj cs),(50,cf (List.replicate m 3))] [o1 (.esl 1000 i 0 m),o1 (.sl 50 0 m)] [] (vv (.bool (labs == List.replicate m 3))) []:=hQ
 have hF:=(cH cs mv i m m labs ((List.replicate m 3).set 0 4) hi hm (by simp) (by omega) (by omega)).nm [(1000,1000),(1001,50)] (by kernel_rfl)
 have hF:FC Tryz.prog 117 [(1000,dj cs),(50,cf ((List.replicate m 3).set 0 4))] [cA mv i m,o1 (.sl 50 0 m)] [] (vv (.bool (bA labs ((List.replicate m 3).set 0 4)))) []:=hF
 have e4':(labs == List.replicate m 3)=true:=by simpa using e4
 rw [e4'] at hQ
 have hw1:IntKind.i64.wrap ((m:Int) + 1)=(m:Int) + 1:=IntWalk.i64_in _ (by omega)
 (refine aj ?_;refine ag ?_;apply ae rfl;(exact eY rfl rfl rfl rfl);apply ae rfl;(exact ai rfl rfl);refine aq ?_;refine an ?_;refine aj ?_;refine ag ?_;apply ae rfl;(exact bm (d:=1) rfl rfl rfl (by as_aux_lemma=>kernel_rfl));apply ae rfl;(exact bW rfl (by as_aux_lemma=>kernel_rfl) rfl rfl rfl rfl);apply ae rfl;(first | (apply ar 62;exact au hSz (by as_aux_lemma=>kernel_rfl) rfl rfl ⟨rfl,trivial⟩ trivial rfl rfl) | exact aJ rfl rfl rfl hw1);apply ae rfl;(first | (apply ar 62;exact au hSz (by as_aux_lemma=>kernel_rfl) rfl rfl ⟨rfl,trivial⟩ trivial rfl rfl) | exact aJ rfl rfl rfl hw1);apply ae rfl;(exact ai rfl rfl);refine aq ?_;refine an ?_;refine aj ?_;refine aD ?_;refine aj ?_;refine ag ?_;apply ae rfl;(exact ah rfl rfl);apply ae rfl;(exact aB rfl rfl rfl rfl);apply ae rfl;(exact ai rfl rfl);refine aq ?_;refine an ?_)
 refine ax rfl (fun e=> ?_) (fun _=> ?_)
 ·exfalso;simp at e;omega
 (repeat (first | refine aj ?_ | refine an ?_ | refine aG ?_ | refine aD ?_ | refine aI ?_ | refine a6 ?_ | refine aP ?_ | refine bP rfl ?_ | refine aE ?_))
 refine cq (St.of [(1,o1 (.ptr 1 0)),(3,vv (I6 ((m:Int) + 1))),(16,vv (.bool false))] [(1000,dj cs),(1,⟨true,83,2, .flat [.val (I6 mv), .esl 1000 i 0 m]⟩)]) ?_ ?_
 ·refine ag ?_
  (apply ae rfl;(exact ah rfl rfl);apply ae rfl;(exact aB rfl rfl rfl rfl);apply ae rfl;(exact ah rfl rfl))
  refine bH 19 rfl (fun e1=> ?_) (fun e1=> ?_)
  ·have e1:m=1:=by simp at e1;omega
   have hg2:¬aC labs 0 > 0:=fun h=>hq ⟨e1,h⟩
   have hgl:(aH labs)[0]? =some (I6 (aC labs 0)):=aR (by omega)
   have hbf:df .i64 .gtr (aC labs 0) 0=some (.bool false):=by simp [df];omega
   (apply aw rfl rfl rfl;(exact bm (d:=1) rfl rfl rfl (by as_aux_lemma=>kernel_rfl));apply aw rfl rfl rfl;(exact bW rfl (by as_aux_lemma=>kernel_rfl) rfl rfl rfl rfl);apply aw rfl rfl rfl;(first | exact aB rfl rfl rfl hbf | exact cX (j:=0) rfl rfl rfl rfl rfl (by as_aux_lemma=>kernel_rfl) hi (by omega) rfl (by omega) (Nat.le_refl _) | exact bY rfl (by as_aux_lemma=>kernel_rfl) rfl rfl rfl hi hgl);apply aw rfl rfl rfl;(first | exact aB rfl rfl rfl hbf | exact cX (j:=0) rfl rfl rfl rfl rfl (by as_aux_lemma=>kernel_rfl) hi (by omega) rfl (by omega) (Nat.le_refl _) | exact bY rfl (by as_aux_lemma=>kernel_rfl) rfl rfl rfl hi hgl);apply aw rfl rfl rfl;(first | exact aB rfl rfl rfl hbf | exact cX (j:=0) rfl rfl rfl rfl rfl (by as_aux_lemma=>kernel_rfl) hi (by omega) rfl (by omega) (Nat.le_refl _) | exact bY rfl (by as_aux_lemma=>kernel_rfl) rfl rfl rfl hi hgl);apply ae rfl;(exact aY rfl rfl rfl);apply ae rfl;(exact ai rfl rfl);refine aq ?_)
   exact aU (Wk.of ⟨rfl,rfl,rfl,trivial⟩ ⟨rfl,rfl,trivial⟩ trivial)
  ·(apply aA rfl rfl rfl rfl rfl;apply aA rfl rfl rfl rfl rfl;apply aA rfl rfl rfl rfl rfl;apply aA rfl rfl rfl rfl rfl;apply aA rfl rfl rfl rfl rfl;apply ae rfl;(exact a7 rfl rfl rfl);apply ae rfl;(exact ai rfl rfl);refine aq ?_)
   exact aU (Wk.of ⟨rfl,rfl,rfl,trivial⟩ ⟨rfl,rfl,trivial⟩ trivial)
 (refine an ?_)
 refine ax rfl (fun e=>by cases e) (fun _=> ?_)
 (refine aj ?_;refine ag ?_;apply ae rfl;(exact bX rfl rfl rfl rfl rfl rfl (by as_aux_lemma=>kernel_rfl));apply ae rfl;(exact cr (E:=2) rfl (by as_aux_lemma=>kernel_rfl) rfl rfl);apply ae rfl;(first | (apply ar 117;exact au hE1 (by as_aux_lemma=>kernel_rfl) rfl rfl ⟨⟨.inl rfl, .inl rfl,trivial⟩,rfl,trivial⟩ ⟨⟨_,rfl, .inl rfl⟩,⟨_,rfl, .inr rfl⟩,trivial⟩ rfl rfl) | exact aM (E:=2) rfl (by as_aux_lemma=>kernel_rfl) rfl rfl rfl | exact aL (E:=2) rfl (by as_aux_lemma=>kernel_rfl) rfl rfl rfl rfl);apply ae rfl;(exact ai rfl rfl);refine aq ?_;refine an ?_)
 refine ax rfl (fun e=>by cases e) (fun _=> ?_)
 (refine aj ?_;refine ag ?_;apply ae rfl;(exact bX rfl rfl rfl rfl rfl rfl (by as_aux_lemma=>kernel_rfl));apply ae rfl;(first | (apply ar 117;exact au hE2 (by as_aux_lemma=>kernel_rfl) rfl rfl ⟨⟨.inl rfl, .inl rfl,trivial⟩,rfl,trivial⟩ ⟨⟨_,rfl, .inl rfl⟩,⟨_,rfl, .inr rfl⟩,trivial⟩ rfl rfl) | exact aM (E:=2) rfl (by as_aux_lemma=>kernel_rfl) rfl rfl rfl | exact aL (E:=2) rfl (by as_aux_lemma=>kernel_rfl) rfl rfl rfl rfl);apply ae rfl;(first | (apply ar 117;exact au hE2 (by as_aux_lemma=>kernel_rfl) rfl rfl ⟨⟨.inl rfl, .inl rfl,trivial⟩,rfl,trivial⟩ ⟨⟨_,rfl, .inl rfl⟩,⟨_,rfl, .inr rfl⟩,trivial⟩ rfl rfl) | exact aM (E:=2) rfl (by as_aux_lemma=>kernel_rfl) rfl rfl rfl | exact aL (E:=2) rfl (by as_aux_lemma=>kernel_rfl) rfl rfl rfl rfl);apply ae rfl;(exact ai rfl rfl);refine aq ?_;refine an ?_)
 refine ax rfl (fun e=>by cases e) (fun _=> ?_)
 (refine aj ?_;refine ag ?_;apply ae rfl;(exact bX rfl rfl rfl rfl rfl rfl (by as_aux_lemma=>kernel_rfl));apply ae rfl;(first | (apply ar 117;exact au hE3 (by as_aux_lemma=>kernel_rfl) rfl rfl ⟨⟨.inl rfl, .inl rfl,trivial⟩,rfl,trivial⟩ ⟨⟨_,rfl, .inl rfl⟩,⟨_,rfl, .inr rfl⟩,trivial⟩ rfl rfl) | exact aM (E:=2) rfl (by as_aux_lemma=>kernel_rfl) rfl rfl rfl | exact aL (E:=2) rfl (by as_aux_lemma=>kernel_rfl) rfl rfl rfl rfl);apply ae rfl;(first | (apply ar 117;exact au hE3 (by as_aux_lemma=>kernel_rfl) rfl rfl ⟨⟨.inl rfl, .inl rfl,trivial⟩,rfl,trivial⟩ ⟨⟨_,rfl, .inl rfl⟩,⟨_,rfl, .inr rfl⟩,trivial⟩ rfl rfl) | exact aM (E:=2) rfl (by as_aux_lemma=>kernel_rfl) rfl rfl rfl | exact aL (E:=2) rfl (by as_aux_lemma=>kernel_rfl) rfl rfl rfl rfl);apply ae rfl;(exact ai rfl rfl);refine aq ?_;refine an ?_)
 refine ax rfl (fun e=>by cases e) (fun _=> ?_)
 (refine aG ?_;refine aI ?_;refine an ?_;refine aj ?_;refine ag ?_;apply ae rfl;(exact cJ (E:=2) rfl (by as_aux_lemma=>kernel_rfl) rfl);apply ae rfl;(exact bm (d:=1) rfl rfl rfl (by as_aux_lemma=>kernel_rfl));apply ae rfl;(exact bW rfl (by as_aux_lemma=>kernel_rfl) rfl rfl rfl rfl);apply ae rfl;(exact br rfl rfl rfl (by as_aux_lemma=>kernel_rfl));apply ae rfl;(first | (apply ar 118;exact bl hR (by as_aux_lemma=>kernel_rfl) rfl rfl ⟨rfl,rfl,trivial⟩ ⟨⟨_,rfl, .inr rfl⟩,trivial⟩ rfl rfl rfl) | (apply ar 119;exact au hQ (by as_aux_lemma=>kernel_rfl) rfl rfl ⟨rfl,rfl,trivial⟩ ⟨⟨_,rfl, .inl rfl⟩,⟨_,rfl, .inr rfl⟩,trivial⟩ rfl rfl));apply ae rfl;(exact ai rfl rfl);refine aq ?_;refine an ?_;refine aj ?_;refine ag ?_;apply ae rfl;(exact ai rfl rfl);refine aq ?_;refine an ?_;refine aj ?_;refine aj ?_;refine ag ?_;apply ae rfl;(exact bm (d:=1) rfl rfl rfl (by as_aux_lemma=>kernel_rfl));apply ae rfl;(exact bW rfl (by as_aux_lemma=>kernel_rfl) rfl rfl rfl rfl);apply ae rfl;(exact ah rfl rfl);apply ae rfl;(first | (apply ar 118;exact bl hR (by as_aux_lemma=>kernel_rfl) rfl rfl ⟨rfl,rfl,trivial⟩ ⟨⟨_,rfl, .inr rfl⟩,trivial⟩ rfl rfl rfl) | (apply ar 119;exact au hQ (by as_aux_lemma=>kernel_rfl) rfl rfl ⟨rfl,rfl,trivial⟩ ⟨⟨_,rfl, .inl rfl⟩,⟨_,rfl, .inr rfl⟩,trivial⟩ rfl rfl));refine aq ?_;refine an ?_)
 refine ax rfl (fun _=> ?_) (fun e=>by cases e)
 (refine ag ?_;apply ae rfl;(exact ai rfl rfl);refine aq ?_;refine an ?_;refine aj ?_;refine aj ?_;refine ag ?_;apply ae rfl;(exact ah rfl rfl);apply ae rfl;(exact aB rfl rfl rfl rfl);refine aq ?_;refine an ?_)
 refine ax rfl (fun e=>by cases e) (fun _=> ?_)
 (refine aG ?_;refine an ?_;refine aj ?_;refine ag ?_;apply ae rfl;(exact ai rfl rfl);refine aq ?_;refine an ?_;refine aj ?_;refine aj ?_;refine ag ?_;apply ae rfl;(exact ah rfl rfl);apply ae rfl;(exact ah rfl rfl);refine aq ?_;refine an ?_;refine aD ?_)
 have hlp:∀k:Nat,k≤5→IntKind.i64.wrap ((1:Int) * (k:Int))=(1:Int) * k∧IntKind.i64.wrap (2 + (1:Int) * (k:Int))=2 + (1:Int) * k:=fun k hk=>⟨IntWalk.i64_in _ (by omega),IntWalk.i64_in _ (by omega)⟩
 refine bx (fun k:Nat=>St.of [(5,vv (I6 1)),(6,o1 (.sl 2100 0 k)),(62,vv (I6 ((m:Int) + 1))),(63,vv (I6 k))] [(2100,bI (eD k 1))]) (fun k=>k≤m + 1) (fun k=>m + 1 - k) 0 (Nat.zero_le _) (Wk.trans (js (t:=6) (n:=2100) (k:=1) (E:=2) (d:= .bG (aH (eD 0 1))) rfl rfl) (Wk.of ⟨rfl,rfl,rfl,rfl,trivial⟩ ⟨rfl,trivial⟩ trivial)) ?_
 rintro k hk
 have hlk:=hlp k (by omega)
 (refine aj ?_;refine ag ?_;apply ae rfl;(exact aB rfl rfl rfl rfl);refine aq ?_;refine an ?_;refine aj ?_)
 refine bM rfl (fun hlt=> ?_) (fun hlt=> ?_)
 ·(refine aG ?_;refine an ?_;refine aj ?_;refine aD ?_;refine aj ?_;refine ag ?_;apply ae rfl;(exact ah rfl rfl);apply ae rfl;(exact ai rfl rfl);refine aq ?_;refine an ?_;refine ag ?_;apply ae rfl;(exact ah rfl rfl);apply ae rfl;(exact ah rfl rfl);apply ae rfl;(exact ah rfl rfl);apply ae rfl;(first | exact cV rfl rfl rfl hlk.1 | exact aJ rfl rfl rfl hlk.2 | exact bp rfl (by as_aux_lemma=>kernel_rfl) rfl rfl rfl (cF _ _) rfl rfl (by omega));apply ae rfl;(first | exact cV rfl rfl rfl hlk.1 | exact aJ rfl rfl rfl hlk.2 | exact bp rfl (by as_aux_lemma=>kernel_rfl) rfl rfl rfl (cF _ _) rfl rfl (by omega));apply ae rfl;(exact cJ (E:=2) rfl (by as_aux_lemma=>kernel_rfl) rfl);apply ae rfl;(first | exact cV rfl rfl rfl hlk.1 | exact aJ rfl rfl rfl hlk.2 | exact bp rfl (by as_aux_lemma=>kernel_rfl) rfl rfl rfl (cF _ _) rfl rfl (by omega));apply ae rfl;(exact ai rfl rfl);refine aq ?_;refine aI ?_;refine an ?_;refine ag ?_;apply ae rfl;(exact aJ rfl rfl rfl (by first | exact IntWalk.i64_in _ (by omega) | rfl));apply ae rfl;(exact ah rfl rfl);refine aq ?_)
  exact aX (k + 1) (by omega) (by omega) (Wk.of ⟨rfl,rfl,rfl,rfl,trivial⟩ ⟨by rw [fC];rfl,trivial⟩ trivial)
 ·obtain rfl:k=m + 1:=by omega
  (refine a6 ?_;refine aE ?_;refine aE ?_;refine aP ?_;refine an ?_;refine aj ?_;refine ag ?_;apply ae rfl;(exact ah rfl rfl);apply ae rfl;(exact ai rfl rfl);refine aq ?_;refine an ?_;refine aK ?_)
  exact aW (.inl rfl) rfl (.tmp rfl) ⟨rfl,trivial⟩ trivial
set_option maxRecDepth 100000 in
set_option maxHeartbeats 2000000 in
theorem wR (cs:List gG) (mv:Int) (i m:Nat) (labs:List Int) (hi:cs[i]? =some (.r 2 1 m (aH labs))) (hm:labs.length=m) (hm4:m≤4) (h0:0 < m) (hq:¬(m=1∧0 < aC labs 0)) (e1:bA labs [3,5]=false) (e2:bA labs [3,3,5]=false) (e3:bA labs [3,4,3]=false) (e4:labs≠List.replicate m 3) (e5:bA labs ((List.replicate m (3:Int)).set 0 4)=true):
  FC Tryz.prog 70 [(1000,dj cs)] [cA mv i m] [(2100,bI (eD (m + 1) 2))] (o1 (.sl 2100 0 (m + 1))) []:=by
 have hSz:=fw 1000 i m
 have hE1:=(cH cs mv i m 2 labs [3,5] hi hm rfl (by omega) (by omega)).nm [(1000,1000),(1001,33)] (by kernel_rfl)
 have hE1:FC Tryz.prog 117 [(1000,dj cs),(33,cf [3,5])] [cA mv i m,o1 (.sl 33 0 2)] [] (vv (.bool (bA labs [3,5]))) []:=hE1
 rw [e1] at hE1
 have hE2:=(cH cs mv i m 3 labs [3,3,5] hi hm rfl (by omega) (by omega)).nm [(1000,1000),(1001,38)] (by kernel_rfl)
 have hE2:FC Tryz.prog 117 [(1000,dj cs),(38,cf [3,3,5])] [cA mv i m,o1 (.sl 38 0 3)] [] (vv (.bool (bA labs [3,3,5]))) []:=hE2
 rw [e2] at hE2
 have hE3:=(cH cs mv i m 3 labs [3,4,3] hi hm rfl (by omega) (by omega)).nm [(1000,1000),(1001,43)] (by kernel_rfl)
 have hE3:FC Tryz.prog 117 [(1000,dj cs),(43,cf [3,4,3])] [cA mv i m,o1 (.sl 43 0 3)] [] (vv (.bool (bA labs [3,4,3]))) []:=hE3
 rw [e3] at hE3
 refine a5 (nt:=75) Tryz.func70 rfl rfl (by simp) fun w0 ω0=> ?_
 have hR:FC Tryz.prog 118 [(46,⟨false,2,1, .bG (aH [3])⟩)] [o1 (.sl 46 0 1),vv (I6 m)] [(50,⟨true,2,1, .bG (aH (List.replicate m 3))⟩)] (o1 (.sl 50 0 m)) []:=jr 46 50 m 3 (by omega) h0
 have hrl:(List.replicate m (3:Int)).length=m:=by simp
 have hQ:=(gr cs i m m 83 2 labs (List.replicate m 3) hi hm hrl (by omega) (by omega)).nm [(1000,1000),(1001,50)] (by kernel_rfl)
 have hQ:FC Tryz.prog 119 [(1000,dj cs),(50,cf (List.replicate m 3))] [o1 (.esl 1000 i 0 m),o1 (.sl 50 0 m)] [] (vv (.bool (labs == List.replicate m 3))) []:=hQ
 have hF:=(cH cs mv i m m labs ((List.replicate m 3).set 0 4) hi hm (by simp) (by omega) (by omega)).nm [(1000,1000),(1001,50)] (by kernel_rfl)
 have hF:FC Tryz.prog 117 [(1000,dj cs),(50,cf ((List.replicate m 3).set 0 4))] [cA mv i m,o1 (.sl 50 0 m)] [] (vv (.bool (bA labs ((List.replicate m 3).set 0 4)))) []:=hF
 have e4':(labs == List.replicate m 3)=false:=by simpa using e4
 rw [e4'] at hQ
 rw [e5] at hF
 have hw1:IntKind.i64.wrap ((m:Int) + 1)=(m:Int) + 1:=IntWalk.i64_in _ (by omega)
 (refine aj ?_;refine ag ?_;apply ae rfl;(exact eY rfl rfl rfl rfl);apply ae rfl;(exact ai rfl rfl);refine aq ?_;refine an ?_;refine aj ?_;refine ag ?_;apply ae rfl;(exact bm (d:=1) rfl rfl rfl (by as_aux_lemma=>kernel_rfl));apply ae rfl;(exact bW rfl (by as_aux_lemma=>kernel_rfl) rfl rfl rfl rfl);apply ae rfl;(first | (apply ar 62;exact au hSz (by as_aux_lemma=>kernel_rfl) rfl rfl ⟨rfl,trivial⟩ trivial rfl rfl) | exact aJ rfl rfl rfl hw1);apply ae rfl;(first | (apply ar 62;exact au hSz (by as_aux_lemma=>kernel_rfl) rfl rfl ⟨rfl,trivial⟩ trivial rfl rfl) | exact aJ rfl rfl rfl hw1);apply ae rfl;(exact ai rfl rfl);refine aq ?_;refine an ?_;refine aj ?_;refine aD ?_;refine aj ?_;refine ag ?_;apply ae rfl;(exact ah rfl rfl);apply ae rfl;(exact aB rfl rfl rfl rfl);apply ae rfl;(exact ai rfl rfl);refine aq ?_;refine an ?_)
 refine ax rfl (fun e=> ?_) (fun _=> ?_)
 ·exfalso;simp at e;omega
 (repeat (first | refine aj ?_ | refine an ?_ | refine aG ?_ | refine aD ?_ | refine aI ?_ | refine a6 ?_ | refine aP ?_ | refine bP rfl ?_ | refine aE ?_))
 refine cq (St.of [(1,o1 (.ptr 1 0)),(3,vv (I6 ((m:Int) + 1))),(16,vv (.bool false))] [(1000,dj cs),(1,⟨true,83,2, .flat [.val (I6 mv), .esl 1000 i 0 m]⟩)]) ?_ ?_
 ·refine ag ?_
  (apply ae rfl;(exact ah rfl rfl);apply ae rfl;(exact aB rfl rfl rfl rfl);apply ae rfl;(exact ah rfl rfl))
  refine bH 19 rfl (fun e1=> ?_) (fun e1=> ?_)
  ·have e1:m=1:=by simp at e1;omega
   have hg2:¬aC labs 0 > 0:=fun h=>hq ⟨e1,h⟩
   have hgl:(aH labs)[0]? =some (I6 (aC labs 0)):=aR (by omega)
   have hbf:df .i64 .gtr (aC labs 0) 0=some (.bool false):=by simp [df];omega
   (apply aw rfl rfl rfl;(exact bm (d:=1) rfl rfl rfl (by as_aux_lemma=>kernel_rfl));apply aw rfl rfl rfl;(exact bW rfl (by as_aux_lemma=>kernel_rfl) rfl rfl rfl rfl);apply aw rfl rfl rfl;(first | exact aB rfl rfl rfl hbf | exact cX (j:=0) rfl rfl rfl rfl rfl (by as_aux_lemma=>kernel_rfl) hi (by omega) rfl (by omega) (Nat.le_refl _) | exact bY rfl (by as_aux_lemma=>kernel_rfl) rfl rfl rfl hi hgl);apply aw rfl rfl rfl;(first | exact aB rfl rfl rfl hbf | exact cX (j:=0) rfl rfl rfl rfl rfl (by as_aux_lemma=>kernel_rfl) hi (by omega) rfl (by omega) (Nat.le_refl _) | exact bY rfl (by as_aux_lemma=>kernel_rfl) rfl rfl rfl hi hgl);apply aw rfl rfl rfl;(first | exact aB rfl rfl rfl hbf | exact cX (j:=0) rfl rfl rfl rfl rfl (by as_aux_lemma=>kernel_rfl) hi (by omega) rfl (by omega) (Nat.le_refl _) | exact bY rfl (by as_aux_lemma=>kernel_rfl) rfl rfl rfl hi hgl);apply ae rfl;(exact aY rfl rfl rfl);apply ae rfl;(exact ai rfl rfl);refine aq ?_)
   exact aU (Wk.of ⟨rfl,rfl,rfl,trivial⟩ ⟨rfl,rfl,trivial⟩ trivial)
  ·(apply aA rfl rfl rfl rfl rfl;apply aA rfl rfl rfl rfl rfl;apply aA rfl rfl rfl rfl rfl;apply aA rfl rfl rfl rfl rfl;apply aA rfl rfl rfl rfl rfl;apply ae rfl;(exact a7 rfl rfl rfl);apply ae rfl;(exact ai rfl rfl);refine aq ?_)
   exact aU (Wk.of ⟨rfl,rfl,rfl,trivial⟩ ⟨rfl,rfl,trivial⟩ trivial)
 (refine an ?_)
 refine ax rfl (fun e=>by cases e) (fun _=> ?_)
 (refine aj ?_;refine ag ?_;apply ae rfl;(exact bX rfl rfl rfl rfl rfl rfl (by as_aux_lemma=>kernel_rfl));apply ae rfl;(exact cr (E:=2) rfl (by as_aux_lemma=>kernel_rfl) rfl rfl);apply ae rfl;(first | (apply ar 117;exact au hE1 (by as_aux_lemma=>kernel_rfl) rfl rfl ⟨⟨.inl rfl, .inl rfl,trivial⟩,rfl,trivial⟩ ⟨⟨_,rfl, .inl rfl⟩,⟨_,rfl, .inr rfl⟩,trivial⟩ rfl rfl) | exact aM (E:=2) rfl (by as_aux_lemma=>kernel_rfl) rfl rfl rfl | exact aL (E:=2) rfl (by as_aux_lemma=>kernel_rfl) rfl rfl rfl rfl);apply ae rfl;(exact ai rfl rfl);refine aq ?_;refine an ?_)
 refine ax rfl (fun e=>by cases e) (fun _=> ?_)
 (refine aj ?_;refine ag ?_;apply ae rfl;(exact bX rfl rfl rfl rfl rfl rfl (by as_aux_lemma=>kernel_rfl));apply ae rfl;(first | (apply ar 117;exact au hE2 (by as_aux_lemma=>kernel_rfl) rfl rfl ⟨⟨.inl rfl, .inl rfl,trivial⟩,rfl,trivial⟩ ⟨⟨_,rfl, .inl rfl⟩,⟨_,rfl, .inr rfl⟩,trivial⟩ rfl rfl) | exact aM (E:=2) rfl (by as_aux_lemma=>kernel_rfl) rfl rfl rfl | exact aL (E:=2) rfl (by as_aux_lemma=>kernel_rfl) rfl rfl rfl rfl);apply ae rfl;(first | (apply ar 117;exact au hE2 (by as_aux_lemma=>kernel_rfl) rfl rfl ⟨⟨.inl rfl, .inl rfl,trivial⟩,rfl,trivial⟩ ⟨⟨_,rfl, .inl rfl⟩,⟨_,rfl, .inr rfl⟩,trivial⟩ rfl rfl) | exact aM (E:=2) rfl (by as_aux_lemma=>kernel_rfl) rfl rfl rfl | exact aL (E:=2) rfl (by as_aux_lemma=>kernel_rfl) rfl rfl rfl rfl);apply ae rfl;(exact ai rfl rfl);refine aq ?_;refine an ?_)
 refine ax rfl (fun e=>by cases e) (fun _=> ?_)
 (refine aj ?_;refine ag ?_;apply ae rfl;(exact bX rfl rfl rfl rfl rfl rfl (by as_aux_lemma=>kernel_rfl));apply ae rfl;(first | (apply ar 117;exact au hE3 (by as_aux_lemma=>kernel_rfl) rfl rfl ⟨⟨.inl rfl, .inl rfl,trivial⟩,rfl,trivial⟩ ⟨⟨_,rfl, .inl rfl⟩,⟨_,rfl, .inr rfl⟩,trivial⟩ rfl rfl) | exact aM (E:=2) rfl (by as_aux_lemma=>kernel_rfl) rfl rfl rfl | exact aL (E:=2) rfl (by as_aux_lemma=>kernel_rfl) rfl rfl rfl rfl);apply ae rfl;(first | (apply ar 117;exact au hE3 (by as_aux_lemma=>kernel_rfl) rfl rfl ⟨⟨.inl rfl, .inl rfl,trivial⟩,rfl,trivial⟩ ⟨⟨_,rfl, .inl rfl⟩,⟨_,rfl, .inr rfl⟩,trivial⟩ rfl rfl) | exact aM (E:=2) rfl (by as_aux_lemma=>kernel_rfl) rfl rfl rfl | exact aL (E:=2) rfl (by as_aux_lemma=>kernel_rfl) rfl rfl rfl rfl);apply ae rfl;(exact ai rfl rfl);refine aq ?_;refine an ?_)
 refine ax rfl (fun e=>by cases e) (fun _=> ?_)
 (refine aG ?_;refine aI ?_;refine an ?_;refine aj ?_;refine ag ?_;apply ae rfl;(exact cJ (E:=2) rfl (by as_aux_lemma=>kernel_rfl) rfl);apply ae rfl;(exact bm (d:=1) rfl rfl rfl (by as_aux_lemma=>kernel_rfl));apply ae rfl;(exact bW rfl (by as_aux_lemma=>kernel_rfl) rfl rfl rfl rfl);apply ae rfl;(exact br rfl rfl rfl (by as_aux_lemma=>kernel_rfl));apply ae rfl;(first | (apply ar 118;exact bl hR (by as_aux_lemma=>kernel_rfl) rfl rfl ⟨rfl,rfl,trivial⟩ ⟨⟨_,rfl, .inr rfl⟩,trivial⟩ rfl rfl rfl) | (apply ar 119;exact au hQ (by as_aux_lemma=>kernel_rfl) rfl rfl ⟨rfl,rfl,trivial⟩ ⟨⟨_,rfl, .inl rfl⟩,⟨_,rfl, .inr rfl⟩,trivial⟩ rfl rfl));apply ae rfl;(exact ai rfl rfl);refine aq ?_;refine an ?_;refine aj ?_;refine ag ?_;apply ae rfl;(exact ai rfl rfl);refine aq ?_;refine an ?_;refine aj ?_;refine aj ?_;refine ag ?_;apply ae rfl;(exact bm (d:=1) rfl rfl rfl (by as_aux_lemma=>kernel_rfl));apply ae rfl;(exact bW rfl (by as_aux_lemma=>kernel_rfl) rfl rfl rfl rfl);apply ae rfl;(exact ah rfl rfl);apply ae rfl;(first | (apply ar 118;exact bl hR (by as_aux_lemma=>kernel_rfl) rfl rfl ⟨rfl,rfl,trivial⟩ ⟨⟨_,rfl, .inr rfl⟩,trivial⟩ rfl rfl rfl) | (apply ar 119;exact au hQ (by as_aux_lemma=>kernel_rfl) rfl rfl ⟨rfl,rfl,trivial⟩ ⟨⟨_,rfl, .inl rfl⟩,⟨_,rfl, .inr rfl⟩,trivial⟩ rfl rfl));refine aq ?_;refine an ?_)
 refine ax rfl (fun e=>by cases e) (fun _=> ?_)
 (refine aj ?_;refine ag ?_;apply ae rfl;(exact ah rfl rfl);apply ae rfl;(exact aS rfl rfl rfl rfl rfl (by as_aux_lemma=>kernel_rfl) (by first | rfl | exact (Int.toNat_of_nonneg (by omega)).symm) (by first | assumption | omega | (simp;omega)) (by first | exact Nat.le_refl _ | exact Nat.le_of_eq (aO _).symm | exact Nat.le_of_eq (eu _).symm | (refine Nat.le_trans ?_ (Nat.le_of_eq (aO _).symm);(first | omega | (simp;done) | (simp;omega))) | (refine Nat.le_trans ?_ (Nat.le_of_eq (eu _).symm);(first | omega | (simp;done) | (simp;omega)))));apply ae rfl;(first | exact aS (j:=0) rfl rfl rfl rfl rfl (by as_aux_lemma=>kernel_rfl) rfl h0 (by rw [aO,hrl];exact Nat.le_refl _) | exact eL rfl rfl rfl rfl rfl (by rw [hrl];exact h0) (by as_aux_lemma=>kernel_rfl) | (apply ar 117;exact au hF (by as_aux_lemma=>kernel_rfl) rfl rfl ⟨⟨.inl rfl, .inl rfl,trivial⟩,rfl,trivial⟩ ⟨⟨_,rfl, .inl rfl⟩,⟨_,rfl, .inr rfl⟩,trivial⟩ rfl rfl));refine aq ?_;refine an ?_;refine aj ?_;refine ag ?_;apply ae rfl;(exact bX rfl rfl rfl rfl rfl rfl (by as_aux_lemma=>kernel_rfl));apply ae rfl;(exact ah rfl rfl);apply ae rfl;(first | exact aS (j:=0) rfl rfl rfl rfl rfl (by as_aux_lemma=>kernel_rfl) rfl h0 (by rw [aO,hrl];exact Nat.le_refl _) | exact eL rfl rfl rfl rfl rfl (by rw [hrl];exact h0) (by as_aux_lemma=>kernel_rfl) | (apply ar 117;exact au hF (by as_aux_lemma=>kernel_rfl) rfl rfl ⟨⟨.inl rfl, .inl rfl,trivial⟩,rfl,trivial⟩ ⟨⟨_,rfl, .inl rfl⟩,⟨_,rfl, .inr rfl⟩,trivial⟩ rfl rfl));refine aq ?_;refine an ?_)
 refine ax rfl (fun _=> ?_) (fun e=>by cases e)
 (refine ag ?_;apply ae rfl;(exact ai rfl rfl);refine aq ?_;refine an ?_;refine aj ?_;refine aj ?_;refine ag ?_;apply ae rfl;(exact ah rfl rfl);apply ae rfl;(exact aB rfl rfl rfl rfl);refine aq ?_;refine an ?_)
 refine ax rfl (fun e=>by cases e) (fun _=> ?_)
 (refine aG ?_;refine an ?_;refine aj ?_;refine ag ?_;apply ae rfl;(exact ai rfl rfl);refine aq ?_;refine an ?_;refine aj ?_;refine aj ?_;refine ag ?_;apply ae rfl;(exact ah rfl rfl);apply ae rfl;(exact ah rfl rfl);refine aq ?_;refine an ?_;refine aD ?_)
 have hlp:∀k:Nat,k≤5→IntKind.i64.wrap ((2:Int) * (k:Int))=(2:Int) * k∧IntKind.i64.wrap (2 + (2:Int) * (k:Int))=2 + (2:Int) * k:=fun k hk=>⟨IntWalk.i64_in _ (by omega),IntWalk.i64_in _ (by omega)⟩
 refine bx (fun k:Nat=>St.of [(5,vv (I6 2)),(6,o1 (.sl 2100 0 k)),(62,vv (I6 ((m:Int) + 1))),(63,vv (I6 k))] [(2100,bI (eD k 2))]) (fun k=>k≤m + 1) (fun k=>m + 1 - k) 0 (Nat.zero_le _) (Wk.trans (js (t:=6) (n:=2100) (k:=1) (E:=2) (d:= .bG (aH (eD 0 2))) rfl rfl) (Wk.of ⟨rfl,rfl,rfl,rfl,trivial⟩ ⟨rfl,trivial⟩ trivial)) ?_
 rintro k hk
 have hlk:=hlp k (by omega)
 (refine aj ?_;refine ag ?_;apply ae rfl;(exact aB rfl rfl rfl rfl);refine aq ?_;refine an ?_;refine aj ?_)
 refine bM rfl (fun hlt=> ?_) (fun hlt=> ?_)
 ·(refine aG ?_;refine an ?_;refine aj ?_;refine aD ?_;refine aj ?_;refine ag ?_;apply ae rfl;(exact ah rfl rfl);apply ae rfl;(exact ai rfl rfl);refine aq ?_;refine an ?_;refine ag ?_;apply ae rfl;(exact ah rfl rfl);apply ae rfl;(exact ah rfl rfl);apply ae rfl;(exact ah rfl rfl);apply ae rfl;(first | exact cV rfl rfl rfl hlk.1 | exact aJ rfl rfl rfl hlk.2 | exact bp rfl (by as_aux_lemma=>kernel_rfl) rfl rfl rfl (cF _ _) rfl rfl (by omega));apply ae rfl;(first | exact cV rfl rfl rfl hlk.1 | exact aJ rfl rfl rfl hlk.2 | exact bp rfl (by as_aux_lemma=>kernel_rfl) rfl rfl rfl (cF _ _) rfl rfl (by omega));apply ae rfl;(exact cJ (E:=2) rfl (by as_aux_lemma=>kernel_rfl) rfl);apply ae rfl;(first | exact cV rfl rfl rfl hlk.1 | exact aJ rfl rfl rfl hlk.2 | exact bp rfl (by as_aux_lemma=>kernel_rfl) rfl rfl rfl (cF _ _) rfl rfl (by omega));apply ae rfl;(exact ai rfl rfl);refine aq ?_;refine aI ?_;refine an ?_;refine ag ?_;apply ae rfl;(exact aJ rfl rfl rfl (by first | exact IntWalk.i64_in _ (by omega) | rfl));apply ae rfl;(exact ah rfl rfl);refine aq ?_)
  exact aX (k + 1) (by omega) (by omega) (Wk.of ⟨rfl,rfl,rfl,rfl,trivial⟩ ⟨by rw [fC];rfl,trivial⟩ trivial)
 ·obtain rfl:k=m + 1:=by omega
  (refine a6 ?_;refine aE ?_;refine aE ?_;refine aP ?_;refine an ?_;refine aj ?_;refine ag ?_;apply ae rfl;(exact ah rfl rfl);apply ae rfl;(exact ai rfl rfl);refine aq ?_;refine an ?_;refine aK ?_)
  exact aW (.inl rfl) rfl (.tmp rfl) ⟨rfl,trivial⟩ trivial
set_option maxRecDepth 100000 in
set_option maxHeartbeats 2000000 in
theorem wF (cs:List gG) (mv:Int) (i m:Nat) (labs:List Int) (hi:cs[i]? =some (.r 2 1 m (aH labs))) (hm:labs.length=m) (hm4:m≤4) (h0:0 < m) (hq:¬(m=1∧0 < aC labs 0)) (e1:bA labs [3,5]=false) (e2:bA labs [3,3,5]=false) (e3:bA labs [3,4,3]=false) (e4:labs≠List.replicate m 3) (e5:bA labs ((List.replicate m (3:Int)).set 0 4)=false):
  FC Tryz.prog 70 [(1000,dj cs)] [cA mv i m] [] (vv (.slice none 0 0)) []:=by
 have hSz:=fw 1000 i m
 have hE1:=(cH cs mv i m 2 labs [3,5] hi hm rfl (by omega) (by omega)).nm [(1000,1000),(1001,33)] (by kernel_rfl)
 have hE1:FC Tryz.prog 117 [(1000,dj cs),(33,cf [3,5])] [cA mv i m,o1 (.sl 33 0 2)] [] (vv (.bool (bA labs [3,5]))) []:=hE1
 rw [e1] at hE1
 have hE2:=(cH cs mv i m 3 labs [3,3,5] hi hm rfl (by omega) (by omega)).nm [(1000,1000),(1001,38)] (by kernel_rfl)
 have hE2:FC Tryz.prog 117 [(1000,dj cs),(38,cf [3,3,5])] [cA mv i m,o1 (.sl 38 0 3)] [] (vv (.bool (bA labs [3,3,5]))) []:=hE2
 rw [e2] at hE2
 have hE3:=(cH cs mv i m 3 labs [3,4,3] hi hm rfl (by omega) (by omega)).nm [(1000,1000),(1001,43)] (by kernel_rfl)
 have hE3:FC Tryz.prog 117 [(1000,dj cs),(43,cf [3,4,3])] [cA mv i m,o1 (.sl 43 0 3)] [] (vv (.bool (bA labs [3,4,3]))) []:=hE3
 rw [e3] at hE3
 refine a5 (nt:=75) Tryz.func70 rfl rfl (by simp) fun w0 ω0=> ?_
 have hR:FC Tryz.prog 118 [(46,⟨false,2,1, .bG (aH [3])⟩)] [o1 (.sl 46 0 1),vv (I6 m)] [(50,⟨true,2,1, .bG (aH (List.replicate m 3))⟩)] (o1 (.sl 50 0 m)) []:=jr 46 50 m 3 (by omega) h0
 have hrl:(List.replicate m (3:Int)).length=m:=by simp
 have hQ:=(gr cs i m m 83 2 labs (List.replicate m 3) hi hm hrl (by omega) (by omega)).nm [(1000,1000),(1001,50)] (by kernel_rfl)
 have hQ:FC Tryz.prog 119 [(1000,dj cs),(50,cf (List.replicate m 3))] [o1 (.esl 1000 i 0 m),o1 (.sl 50 0 m)] [] (vv (.bool (labs == List.replicate m 3))) []:=hQ
 have hF:=(cH cs mv i m m labs ((List.replicate m 3).set 0 4) hi hm (by simp) (by omega) (by omega)).nm [(1000,1000),(1001,50)] (by kernel_rfl)
 have hF:FC Tryz.prog 117 [(1000,dj cs),(50,cf ((List.replicate m 3).set 0 4))] [cA mv i m,o1 (.sl 50 0 m)] [] (vv (.bool (bA labs ((List.replicate m 3).set 0 4)))) []:=hF
 have e4':(labs == List.replicate m 3)=false:=by simpa using e4
 rw [e4'] at hQ
 rw [e5] at hF
 have hw1:IntKind.i64.wrap ((m:Int) + 1)=(m:Int) + 1:=IntWalk.i64_in _ (by omega)
 (refine aj ?_;refine ag ?_;apply ae rfl;(exact eY rfl rfl rfl rfl);apply ae rfl;(exact ai rfl rfl);refine aq ?_;refine an ?_;refine aj ?_;refine ag ?_;apply ae rfl;(exact bm (d:=1) rfl rfl rfl (by as_aux_lemma=>kernel_rfl));apply ae rfl;(exact bW rfl (by as_aux_lemma=>kernel_rfl) rfl rfl rfl rfl);apply ae rfl;(first | (apply ar 62;exact au hSz (by as_aux_lemma=>kernel_rfl) rfl rfl ⟨rfl,trivial⟩ trivial rfl rfl) | exact aJ rfl rfl rfl hw1);apply ae rfl;(first | (apply ar 62;exact au hSz (by as_aux_lemma=>kernel_rfl) rfl rfl ⟨rfl,trivial⟩ trivial rfl rfl) | exact aJ rfl rfl rfl hw1);apply ae rfl;(exact ai rfl rfl);refine aq ?_;refine an ?_;refine aj ?_;refine aD ?_;refine aj ?_;refine ag ?_;apply ae rfl;(exact ah rfl rfl);apply ae rfl;(exact aB rfl rfl rfl rfl);apply ae rfl;(exact ai rfl rfl);refine aq ?_;refine an ?_)
 refine ax rfl (fun e=> ?_) (fun _=> ?_)
 ·exfalso;simp at e;omega
 (repeat (first | refine aj ?_ | refine an ?_ | refine aG ?_ | refine aD ?_ | refine aI ?_ | refine a6 ?_ | refine aP ?_ | refine bP rfl ?_ | refine aE ?_))
 refine cq (St.of [(1,o1 (.ptr 1 0)),(3,vv (I6 ((m:Int) + 1))),(16,vv (.bool false))] [(1000,dj cs),(1,⟨true,83,2, .flat [.val (I6 mv), .esl 1000 i 0 m]⟩)]) ?_ ?_
 ·refine ag ?_
  (apply ae rfl;(exact ah rfl rfl);apply ae rfl;(exact aB rfl rfl rfl rfl);apply ae rfl;(exact ah rfl rfl))
  refine bH 19 rfl (fun e1=> ?_) (fun e1=> ?_)
  ·have e1:m=1:=by simp at e1;omega
   have hg2:¬aC labs 0 > 0:=fun h=>hq ⟨e1,h⟩
   have hgl:(aH labs)[0]? =some (I6 (aC labs 0)):=aR (by omega)
   have hbf:df .i64 .gtr (aC labs 0) 0=some (.bool false):=by simp [df];omega
   (apply aw rfl rfl rfl;(exact bm (d:=1) rfl rfl rfl (by as_aux_lemma=>kernel_rfl));apply aw rfl rfl rfl;(exact bW rfl (by as_aux_lemma=>kernel_rfl) rfl rfl rfl rfl);apply aw rfl rfl rfl;(first | exact aB rfl rfl rfl hbf | exact cX (j:=0) rfl rfl rfl rfl rfl (by as_aux_lemma=>kernel_rfl) hi (by omega) rfl (by omega) (Nat.le_refl _) | exact bY rfl (by as_aux_lemma=>kernel_rfl) rfl rfl rfl hi hgl);apply aw rfl rfl rfl;(first | exact aB rfl rfl rfl hbf | exact cX (j:=0) rfl rfl rfl rfl rfl (by as_aux_lemma=>kernel_rfl) hi (by omega) rfl (by omega) (Nat.le_refl _) | exact bY rfl (by as_aux_lemma=>kernel_rfl) rfl rfl rfl hi hgl);apply aw rfl rfl rfl;(first | exact aB rfl rfl rfl hbf | exact cX (j:=0) rfl rfl rfl rfl rfl (by as_aux_lemma=>kernel_rfl) hi (by omega) rfl (by omega) (Nat.le_refl _) | exact bY rfl (by as_aux_lemma=>kernel_rfl) rfl rfl rfl hi hgl);apply ae rfl;(exact aY rfl rfl rfl);apply ae rfl;(exact ai rfl rfl);refine aq ?_)
   exact aU (Wk.of ⟨rfl,rfl,rfl,trivial⟩ ⟨rfl,rfl,trivial⟩ trivial)
  ·(apply aA rfl rfl rfl rfl rfl;apply aA rfl rfl rfl rfl rfl;apply aA rfl rfl rfl rfl rfl;apply aA rfl rfl rfl rfl rfl;apply aA rfl rfl rfl rfl rfl;apply ae rfl;(exact a7 rfl rfl rfl);apply ae rfl;(exact ai rfl rfl);refine aq ?_)
   exact aU (Wk.of ⟨rfl,rfl,rfl,trivial⟩ ⟨rfl,rfl,trivial⟩ trivial)
 (refine an ?_)
 refine ax rfl (fun e=>by cases e) (fun _=> ?_)
 (refine aj ?_;refine ag ?_;apply ae rfl;(exact bX rfl rfl rfl rfl rfl rfl (by as_aux_lemma=>kernel_rfl));apply ae rfl;(exact cr (E:=2) rfl (by as_aux_lemma=>kernel_rfl) rfl rfl);apply ae rfl;(first | (apply ar 117;exact au hE1 (by as_aux_lemma=>kernel_rfl) rfl rfl ⟨⟨.inl rfl, .inl rfl,trivial⟩,rfl,trivial⟩ ⟨⟨_,rfl, .inl rfl⟩,⟨_,rfl, .inr rfl⟩,trivial⟩ rfl rfl) | exact aM (E:=2) rfl (by as_aux_lemma=>kernel_rfl) rfl rfl rfl | exact aL (E:=2) rfl (by as_aux_lemma=>kernel_rfl) rfl rfl rfl rfl);apply ae rfl;(exact ai rfl rfl);refine aq ?_;refine an ?_)
 refine ax rfl (fun e=>by cases e) (fun _=> ?_)
 (refine aj ?_;refine ag ?_;apply ae rfl;(exact bX rfl rfl rfl rfl rfl rfl (by as_aux_lemma=>kernel_rfl));apply ae rfl;(first | (apply ar 117;exact au hE2 (by as_aux_lemma=>kernel_rfl) rfl rfl ⟨⟨.inl rfl, .inl rfl,trivial⟩,rfl,trivial⟩ ⟨⟨_,rfl, .inl rfl⟩,⟨_,rfl, .inr rfl⟩,trivial⟩ rfl rfl) | exact aM (E:=2) rfl (by as_aux_lemma=>kernel_rfl) rfl rfl rfl | exact aL (E:=2) rfl (by as_aux_lemma=>kernel_rfl) rfl rfl rfl rfl);apply ae rfl;(first | (apply ar 117;exact au hE2 (by as_aux_lemma=>kernel_rfl) rfl rfl ⟨⟨.inl rfl, .inl rfl,trivial⟩,rfl,trivial⟩ ⟨⟨_,rfl, .inl rfl⟩,⟨_,rfl, .inr rfl⟩,trivial⟩ rfl rfl) | exact aM (E:=2) rfl (by as_aux_lemma=>kernel_rfl) rfl rfl rfl | exact aL (E:=2) rfl (by as_aux_lemma=>kernel_rfl) rfl rfl rfl rfl);apply ae rfl;(exact ai rfl rfl);refine aq ?_;refine an ?_)
 refine ax rfl (fun e=>by cases e) (fun _=> ?_)
 (refine aj ?_;refine ag ?_;apply ae rfl;(exact bX rfl rfl rfl rfl rfl rfl (by as_aux_lemma=>kernel_rfl));apply ae rfl;(first | (apply ar 117;exact au hE3 (by as_aux_lemma=>kernel_rfl) rfl rfl ⟨⟨.inl rfl, .inl rfl,trivial⟩,rfl,trivial⟩ ⟨⟨_,rfl, .inl rfl⟩,⟨_,rfl, .inr rfl⟩,trivial⟩ rfl rfl) | exact aM (E:=2) rfl (by as_aux_lemma=>kernel_rfl) rfl rfl rfl | exact aL (E:=2) rfl (by as_aux_lemma=>kernel_rfl) rfl rfl rfl rfl);apply ae rfl;(first | (apply ar 117;exact au hE3 (by as_aux_lemma=>kernel_rfl) rfl rfl ⟨⟨.inl rfl, .inl rfl,trivial⟩,rfl,trivial⟩ ⟨⟨_,rfl, .inl rfl⟩,⟨_,rfl, .inr rfl⟩,trivial⟩ rfl rfl) | exact aM (E:=2) rfl (by as_aux_lemma=>kernel_rfl) rfl rfl rfl | exact aL (E:=2) rfl (by as_aux_lemma=>kernel_rfl) rfl rfl rfl rfl);apply ae rfl;(exact ai rfl rfl);refine aq ?_;refine an ?_)
 refine ax rfl (fun e=>by cases e) (fun _=> ?_)
 (refine aG ?_;refine aI ?_;refine an ?_;refine aj ?_;refine ag ?_;apply ae rfl;(exact cJ (E:=2) rfl (by as_aux_lemma=>kernel_rfl) rfl);apply ae rfl;(exact bm (d:=1) rfl rfl rfl (by as_aux_lemma=>kernel_rfl));apply ae rfl;(exact bW rfl (by as_aux_lemma=>kernel_rfl) rfl rfl rfl rfl);apply ae rfl;(exact br rfl rfl rfl (by as_aux_lemma=>kernel_rfl));apply ae rfl;(first | (apply ar 118;exact bl hR (by as_aux_lemma=>kernel_rfl) rfl rfl ⟨rfl,rfl,trivial⟩ ⟨⟨_,rfl, .inr rfl⟩,trivial⟩ rfl rfl rfl) | (apply ar 119;exact au hQ (by as_aux_lemma=>kernel_rfl) rfl rfl ⟨rfl,rfl,trivial⟩ ⟨⟨_,rfl, .inl rfl⟩,⟨_,rfl, .inr rfl⟩,trivial⟩ rfl rfl));apply ae rfl;(exact ai rfl rfl);refine aq ?_;refine an ?_;refine aj ?_;refine ag ?_;apply ae rfl;(exact ai rfl rfl);refine aq ?_;refine an ?_;refine aj ?_;refine aj ?_;refine ag ?_;apply ae rfl;(exact bm (d:=1) rfl rfl rfl (by as_aux_lemma=>kernel_rfl));apply ae rfl;(exact bW rfl (by as_aux_lemma=>kernel_rfl) rfl rfl rfl rfl);apply ae rfl;(exact ah rfl rfl);apply ae rfl;(first | (apply ar 118;exact bl hR (by as_aux_lemma=>kernel_rfl) rfl rfl ⟨rfl,rfl,trivial⟩ ⟨⟨_,rfl, .inr rfl⟩,trivial⟩ rfl rfl rfl) | (apply ar 119;exact au hQ (by as_aux_lemma=>kernel_rfl) rfl rfl ⟨rfl,rfl,trivial⟩ ⟨⟨_,rfl, .inl rfl⟩,⟨_,rfl, .inr rfl⟩,trivial⟩ rfl rfl));refine aq ?_;refine an ?_)
 refine ax rfl (fun e=>by cases e) (fun _=> ?_)
 (refine aj ?_;refine ag ?_;apply ae rfl;(exact ah rfl rfl);apply ae rfl;(exact aS rfl rfl rfl rfl rfl (by as_aux_lemma=>kernel_rfl) (by first | rfl | exact (Int.toNat_of_nonneg (by omega)).symm) (by first | assumption | omega | (simp;omega)) (by first | exact Nat.le_refl _ | exact Nat.le_of_eq (aO _).symm | exact Nat.le_of_eq (eu _).symm | (refine Nat.le_trans ?_ (Nat.le_of_eq (aO _).symm);(first | omega | (simp;done) | (simp;omega))) | (refine Nat.le_trans ?_ (Nat.le_of_eq (eu _).symm);(first | omega | (simp;done) | (simp;omega)))));apply ae rfl;(first | exact aS (j:=0) rfl rfl rfl rfl rfl (by as_aux_lemma=>kernel_rfl) rfl h0 (by rw [aO,hrl];exact Nat.le_refl _) | exact eL rfl rfl rfl rfl rfl (by rw [hrl];exact h0) (by as_aux_lemma=>kernel_rfl) | (apply ar 117;exact au hF (by as_aux_lemma=>kernel_rfl) rfl rfl ⟨⟨.inl rfl, .inl rfl,trivial⟩,rfl,trivial⟩ ⟨⟨_,rfl, .inl rfl⟩,⟨_,rfl, .inr rfl⟩,trivial⟩ rfl rfl));refine aq ?_;refine an ?_;refine aj ?_;refine ag ?_;apply ae rfl;(exact bX rfl rfl rfl rfl rfl rfl (by as_aux_lemma=>kernel_rfl));apply ae rfl;(exact ah rfl rfl);apply ae rfl;(first | exact aS (j:=0) rfl rfl rfl rfl rfl (by as_aux_lemma=>kernel_rfl) rfl h0 (by rw [aO,hrl];exact Nat.le_refl _) | exact eL rfl rfl rfl rfl rfl (by rw [hrl];exact h0) (by as_aux_lemma=>kernel_rfl) | (apply ar 117;exact au hF (by as_aux_lemma=>kernel_rfl) rfl rfl ⟨⟨.inl rfl, .inl rfl,trivial⟩,rfl,trivial⟩ ⟨⟨_,rfl, .inl rfl⟩,⟨_,rfl, .inr rfl⟩,trivial⟩ rfl rfl));refine aq ?_;refine an ?_)
 refine ax rfl (fun e=>by cases e) (fun _=> ?_)
 (refine aG ?_;refine an ?_;refine aj ?_;refine aj ?_;refine ag ?_;apply ae rfl;(exact ah rfl rfl);apply ae rfl;(exact aB rfl rfl rfl rfl);refine aq ?_;refine an ?_)
 refine ax rfl (fun _=> ?_) (fun e=>by cases e)
 (refine aj ?_;refine ag ?_;apply ae rfl;(exact ai rfl rfl);refine aq ?_;refine an ?_;refine aK ?_;refine aT ?_)
 exact aW (.inl rfl) rfl (.tmp rfl) trivial trivial
theorem rD (cs:List gG) (mv:Int) (i m:Nat) (labs:List Int) (hi:cs[i]? =some (.r 2 1 m (aH labs))) (hm:labs.length=m) (hm4:m≤4):
  (cO labs= []∧FC Tryz.prog 70 [(1000,dj cs)] [cA mv i m] [] (vv (.slice none 0 0)) [])∨((cO labs).length=m + 1∧FC Tryz.prog 70 [(1000,dj cs)] [cA mv i m] [(2100,bI (cO labs))] (o1 (.sl 2100 0 (m + 1))) []):=by
 unfold cO
 rw [hm]
 by_cases h0:m=0
 ·rw [if_pos h0]
  subst h0
  exact .inr ⟨rfl,(wu cs mv i 0 labs hi hm hm4 rfl).nm [(1000,1000),(15,2100)] (by kernel_rfl)⟩
 rw [if_neg h0]
 by_cases hq:m=1∧0 < aC labs 0
 ·rw [if_pos hq]
  obtain ⟨rfl,hp⟩:=hq
  exact .inr ⟨rfl,(vV cs mv i 1 labs hi hm hm4 rfl hp).nm [(1000,1000),(30,2100)] (by kernel_rfl)⟩
 rw [if_neg hq]
 have h0':0 < m:=by omega
 cases e1:bA labs [3,5] with
 | true=>
  obtain rfl:m=2:=by rcases dx.1 e1 with rfl | rfl<;>exact hm.symm
  exact .inr ⟨rfl,(vK cs mv i 2 labs hi hm hm4 h0' hq e1).nm [(1000,1000),(35,2100)] (by kernel_rfl)⟩
 | false=>
 cases e2:bA labs [3,3,5] with
 | true=>
  obtain rfl:m=3:=by rcases dx.1 e2 with rfl | rfl<;>exact hm.symm
  exact .inr ⟨rfl,(wK cs mv i 3 labs hi hm hm4 h0' hq e1 e2).nm [(1000,1000),(40,2100)] (by kernel_rfl)⟩
 | false=>
 cases e3:bA labs [3,4,3] with
 | true=>
  obtain rfl:m=3:=by rcases dx.1 e3 with rfl | rfl<;>exact hm.symm
  exact .inr ⟨rfl,(wL cs mv i 3 labs hi hm hm4 h0' hq e1 e2 e3).nm [(1000,1000),(45,2100)] (by kernel_rfl)⟩
 | false=>
 by_cases e4:labs=List.replicate m 3
 ·rw [if_pos e4]
  exact .inr ⟨cF _ _,vt cs mv i m labs hi hm hm4 h0' hq e1 e2 e3 e4⟩
 rw [if_neg e4]
 cases e5:bA labs ((List.replicate m (3:Int)).set 0 4) with
 | true=>exact .inr ⟨cF _ _,wR cs mv i m labs hi hm hm4 h0' hq e1 e2 e3 e4 e5⟩
 | false=>exact .inl ⟨rfl,wF cs mv i m labs hi hm hm4 h0' hq e1 e2 e3 e4 e5⟩
end Go.Proofs.YtekbhbcgoadciaaGreat
namespace Go.Proofs.YtekbhbcgoadciaaGreat
open Go.RowKit
theorem ma {ps:cT} {j:Nat} (hj:j < ps.length) (x:Nm):∀(i:Nat) (b:A1), [A1.val (I6 ((cx ps j).1:Int)),A1.esl x (j * 2 + 1) 0 (cx ps j).2.length][i]? =some b→(dL.mix (eo ps)).at_ x (j * 2 + i)=some b:=by
 intro i b hb
 have hg:=gu hj
 match i,hb with
 | 0,hb=>simp at hb;subst hb;simp only [dL.at_,Nat.add_zero];rw [hg.1]
 | 1,hb=>simp at hb;subst hb;simp only [dL.at_];rw [hg.2]
end Go.Proofs.YtekbhbcgoadciaaGreat
namespace Go.Proofs.YtekbhbcgoadciaaGreat
open Go.RowKit
set_option maxHeartbeats 800000 in
theorem mG (ao:Option Addr) (n c:Nat) (zs:List Int) (w:World) (base:Nat) (h:Own w base 2 ao n c (zs.map (Value.int .i64))) (hn:n≤5):
  Calls Tryz.prog 159 #[.slice ao n c, .int .i64 0, .int .i64 n] w fun e w'=>e= .returned (.tuple #[])∧Own w' base 2 ao n c ((bS zs).map (Value.int .i64))∧w.grownBy w' (bk ao):=by
 have hl:zs.length=n:=by have:=h.len;simpa using this
 have HL:=Lib.hid hl
 clear hl
 go_enter Tryz.func159,Tryz.ntmps159
 go_wp2
 go_loopw [6] (fun i wr=>∃(k:Nat) (cur:List Int),1≤k∧(k≤n∨k=1)∧i= .int .i64 k∧cur.length=n∧cur.Perm zs∧(∀x y,x < y→y < k→aC cur x≤aC cur y)∧Own wr base 2 ao n c (cur.map (Value.int .i64))∧w.grownBy wr (bk ao)) (fun i _=>n + 1 - (intOf i).toNat)
 case atStart=>exact ⟨1,zs,Nat.le_refl _, .inr rfl,rfl,HL.out,List.Perm.refl _,fun x y h1 h2=>by omega,h,World.grownBy.refl _ _⟩
 case round=>
  obtain ⟨k,cur,hk1,hk,rfl,hcl,hcp,hca,ho,hg⟩:=hrel
  have HC:=Lib.hid hcl
  have HP:=Lib.hid hcp
  have HA:=Lib.hid hca
  have HO:=Lib.hid ho
  have HG:=Lib.hid hg
  clear hcl hcp hca ho hg
  by_cases hlt:k < n
  ·go_wp2_with fail
   go_loopw [7] (fun i wr=>∃(j:Nat) (cur:List Int),j≤k∧i= .int .i64 j∧cur.length=n∧cur.Perm zs∧y5 cur k j∧Own wr base 2 ao n c (cur.map (Value.int .i64))∧w.grownBy wr (bk ao)) (fun i _=>(intOf i).toNat)
   case atStart=>exact ⟨k,cur,Nat.le_refl _,rfl,HC.out,HP.out,fun x y h1 h2 h3=>HA.out x y h1 (by omega),HO.out,HG.out⟩
   case round=>
    clear HC HP HA HO HG
    obtain ⟨j,cur,hj,rfl,hcl,hcp,hca,ho,hg⟩:=hrel
    have HC:=Lib.hid hcl
    have HP:=Lib.hid hcp
    have HA:=Lib.hid hca
    have HO:=Lib.hid ho
    have HG:=Lib.hid hg
    clear hcl hcp hca ho hg
    by_cases hj0:0 < j
    ·obtain ⟨i,hij⟩:∃i,j=i + 1:=⟨j - 1,by omega⟩
     obtain ⟨g,rfl, -,hgl, -, -, -⟩:=HO.out.form (by omega)
     have hjn:j < n:=by omega
     have hin:i < n:=by omega
     have hc1:=cS HO.out hjn
     have hc2:=cS HO.out hin
     have hS:∀w',Below wr.heap.size wr w'→(w'.cell? ⟨g,j,none⟩=some (.int .i64 (aC cur j))∧w'.cell? ⟨g,i,none⟩=some (.int .i64 (aC cur i))):=fun w' hb=>⟨(hb.cell (p:=⟨g,j,none⟩) (World.block_lt_of_cell? wr _ hc1)).trans hc1,(hb.cell (p:=⟨g,i,none⟩) (World.block_lt_of_cell? wr _ hc2)).trans hc2⟩
     have HS:=Lib.hid hS
     clear hS
     have e1:((j:Int) - 1)=(i:Int):=by omega
     have e2:IntKind.i64.wrap (i:Int)=(i:Int):=IntWalk.i64_in _ (by omega)
     have HIJ:=Lib.hid hij
     clear hij
     by_cases hlt2:aC cur j < aC cur i
     ·have HLT:=Lib.hid hlt2
      clear hlt2 hc1 hc2
      go_wp2_with fail
      (refine cP (by kernel_rfl) (by kernel_rfl) ?_;(repeat (first | go_big_quiet_skip | (go_big_quiet_want;first | (go_big_quiet_op;go_big_quiet_on) | (apply dX;(· (intro _ hw;have f1:=(HS.out _ hw).1;have f0:=(HS.out _ hw).2;go_simp;exact rfl));go_simp;go_big_quiet_on) | (apply dA;(· (intro _ _;go_simp;exact ⟨rfl,rfl⟩));(· (intro _ hw;go_at_call 165;refine (pe _ _ _).mono ?_;rintro e w2 ⟨rfl,rfl⟩;rw [decide_eq_true HLT.out];exact ⟨rfl,hw⟩));go_simp;go_big_quiet_on))));refine wpQuiet_nil ?_;intro wq bq)
      have b3:=bq
      clear bq
      have ho:=HO.out.below b3
      have hg3:=bO HG.out (cN b3 (bk (some ⟨g,0,none⟩)))
      have HG3:=Lib.hid hg3
      have hc1:=cS ho hjn
      have hc2:=cS ho hin
      have hf1:=ho.1.frozenAt j
      have hf2:=ho.1.frozenAt i
      have ho1:Own wq.drew base 2 (some ⟨g,0,none⟩) n c (cur.map (Value.int .i64)):=ho
      obtain ⟨s1,t1⟩:=ho1.stored j (.int .i64 (aC cur i))
      obtain ⟨s2,t2⟩:=s1.stored i (.int .i64 (aC cur j))
      have S2:=Lib.hid s2
      have T1:=Lib.hid t1
      have T2:=Lib.hid t2
      clear s1 t1 s2 t2 ho1 ho hg3 b3
      go_wp2_with fail
      go_region
      go_wp2
      go_roundw
      case rel=>
       have hcl:=HC.out
       obtain rfl:=HIJ.out
       refine ⟨i,(cur.set (i + 1) (aC cur i)).set i (aC cur (i + 1)),by omega,by go_num,by simp [HC.out],(swap_perm cur i (by omega)).trans HP.out,tQ (by omega) (by omega) HA.out HLT.out, ?_, ?_⟩
       ·rw [List.map_set,List.map_set];exact S2.out
       ·exact bO HG3.out (bO (⟨rfl,rfl,rfl,Nat.le_refl _,fun _ _ _=>rfl⟩:wq.grownBy wq.drew _) (bO T1.out T2.out))
      case measure=>have:=HIJ.out;simp [intOf];omega
     ·have HLT:=Lib.hid hlt2
      have hd:decide (aC cur j < aC cur i)=false:=decide_eq_false hlt2
      have HD:=Lib.hid hd
      clear hlt2 hc1 hc2 hd
      go_wp2_with fail
      (refine cP (by kernel_rfl) (by kernel_rfl) ?_;(repeat (first | go_big_quiet_skip | (go_big_quiet_want;first | (go_big_quiet_op;go_big_quiet_on) | (apply dX;(· (intro _ hw;have f1:=(HS.out _ hw).1;have f0:=(HS.out _ hw).2;go_simp;exact rfl));go_simp;go_big_quiet_on) | (apply dA;(· (intro _ _;go_simp;exact ⟨rfl,rfl⟩));(· (intro _ hw;go_at_call 165;refine (pe _ _ _).mono ?_;rintro e w2 ⟨rfl,rfl⟩;rw [HD.out];exact ⟨rfl,hw⟩));go_simp;go_big_quiet_on))));refine wpQuiet_nil ?_;intro wq bq)
      go_wp2_with fail
      go_roundw
      case rel=>
       have hs:=pK HA.out (.inr (by have h1:=HIJ.out;have h2:=HLT.out;rw [show j - 1=i by omega];omega))
       exact ⟨k + 1,cur,by omega,by omega,by go_num,HC.out,HP.out,fun x y h1 h2=>hs x y h1 (by omega),HO.out.below bq,bO HG.out (cN bq _)⟩
      case measure=>simp [intOf];omega
    ·obtain rfl:j=0:=by omega
     go_wp2_with fail
     (refine cP (by kernel_rfl) (by kernel_rfl) ?_;(repeat (first | go_big_quiet_skip | (go_big_quiet_want;first | (go_big_quiet_op;go_big_quiet_on) | (apply dX;(· (intro _ hw;skip;go_simp;exact rfl));go_simp;go_big_quiet_on) | (apply dA;(· (intro _ _;go_simp;exact ⟨rfl,rfl⟩));(· (intro _ hw;fail));go_simp;go_big_quiet_on))));refine wpQuiet_nil ?_;intro wq bq)
     go_wp2_with fail
     go_roundw
     case rel=>
      have hs:=pK HA.out (.inl rfl)
      exact ⟨k + 1,cur,by omega,by omega,by go_num,HC.out,HP.out,fun x y h1 h2=>hs x y h1 (by omega),HO.out.below bq,bO HG.out (cN bq _)⟩
     case measure=>simp [intOf];omega
  ·go_wp2
   go_end0
   have hs:cur=bS zs:=mF HP.out (oh fun x y h1 h2=>HA.out x y h1 (by have:=HC.out;omega))
   exact ⟨rfl,by rw [←hs];exact HO.out,HG.out⟩
end Go.Proofs.YtekbhbcgoadciaaGreat
namespace Go.Proofs.YtekbhbcgoadciaaGreat
open Go.RowKit
set_option maxHeartbeats 800000 in
theorem vJ (ao:Option Addr) (n c:Nat) (r:Int) (zs:List Int) (w:World) (base:Nat) (h:Own w base 2 ao n c (zs.map (Value.int .i64))) (hn:n≤5):
  Calls Tryz.prog 140 #[.slice ao n c, .int .i64 0, .int .i64 n, .int .i64 r] w fun e w'=>e= .returned (.tuple #[])∧Own w' base 2 ao n c ((bS zs).map (Value.int .i64))∧w.grownBy w' (bk ao):=by
 have h12:(n:Int)≤12:=by omega
 go_enter Tryz.func140,Tryz.ntmps140
 go_wp2_with fail
 go_loopw [1,2] (fun x y wr=>x= .int .i64 0∧y= .int .i64 n∧wr=w) (fun _ _ _=>0)
 case atStart=>exact ⟨rfl,rfl,rfl⟩
 case round=>
  obtain ⟨rfl,rfl,rfl⟩:=hrel
  go_wp2_with fail
  refine (mG ao n c zs _ base h hn).mono ?_
  rintro e w1 ⟨rfl,ho,hg⟩
  go_wp2
  refine bodyPost_ret (results_none rfl _ _ _) rfl ?_
  exact ⟨rfl,ho,hg⟩
set_option maxHeartbeats 800000 in
theorem tt (ao:Option Addr) (n c:Nat) (zs:List Int) (w:World) (base:Nat) (h:Own w base 2 ao n c (zs.map (Value.int .i64))) (hn:n≤5):
  Calls Tryz.prog 114 #[.slice ao n c] w fun e w'=>e= .returned (.tuple #[])∧Own w' base 2 ao n c ((bS zs).map (Value.int .i64))∧w.grownBy w' (bk ao):=by
 have hw:IntKind.u64.wrap (n:Int)=(n:Int):=by simp [IntKind.wrap,IntKind.bits,IntKind.signed];omega
 go_enter Tryz.func114,Tryz.ntmps114
 go_wp2_with fail
 refine (wZ n hn _).mono ?_
 rintro e w1 ⟨⟨r,rfl⟩,rfl⟩
 go_wp2_with fail
 refine (vJ ao n c r zs _ base h hn).mono ?_
 rintro e w1 ⟨rfl,ho,hg⟩
 go_wp2
 go_end0
 exact ⟨rfl,ho,hg⟩
end Go.Proofs.YtekbhbcgoadciaaGreat
namespace Go.Proofs.YtekbhbcgoadciaaGreat
open Go.RowKit
section
variable {P:Program} {nt:Nat} {S:St} {t:Nat} {ty:TypeId} {ps:String} {af:Array Edge} {gd:Option (Nat×Bool)} {x y:Operand}
theorem bZ {T E n len m:Nat} {c:Ch} {zs ys:List Int} {b:A1} (ht:Nat.blt t nt=true) (hT:nf P T E 1=true) (hx:S.op x=some (o1 (.sl n 0 len))) (hc:S.ch n=some c) (hce:c=⟨true,E,1, .bG (aH zs)⟩) (hl:zs.length=len)
  (hy:S.op y=some (o1 b)) (hr:Reads S b m 1 (aH ys)) (hm:0 < m) (hb:len + m≤2199023255552):
  bN P nt ⟨some t, .call { callee:= .builtin .append,args:= #[x,y],argTypes:= #[T,T] },ty,ps,af,gd⟩ S ((S.new n ⟨true,E,1, .bG (aH (zs ++ ys))⟩).put t (o1 (.sl n 0 (len + m)))):=by
 have:=eO (P:=P) (nt:=nt) (ty:=ty) (ps:=ps) (af:=af) (gd:=gd) (vs:=aH zs) (news:=aH ys) (m:=m) (k:=1) ht hT rfl hx hc hce rfl (by rw [aO];omega) hy hr hm (by intro v hv;simp [aH] at hv;obtain ⟨a,_,rfl⟩:=hv;rfl) hb
 rw [Nat.zero_mul,List.drop_zero,show aH zs ++ aH ys=aH (zs ++ ys) by simp [aH]] at this
 exact this
end
abbrev xW (zs:List Int) (mask:Nat):AV:= .tup [.one (.sl 2200 0 (eB (comps zs mask) (comps zs mask).length).length), .one (.val (I6 (x9 zs mask:Nat))), .one (.val (.bool true))]
set_option maxRecDepth 100000 in
set_option maxHeartbeats 2000000 in
theorem sW (zs:List Int) (L mask:Nat) (hL:zs.length=L) (hd:bz zs=true) (hmk:mask < 1000) (hf:dC zs mask=true):
  FC Tryz.prog 65 [(1003,cf zs)] [o1 (.sl 1003 0 L),vv (I6 mask)] [(2200,bI (gA zs mask))] (xW zs mask) []:=by
 have h4:L≤4:=by have:=bE hd;omega
 have hC:=(lU zs L mask hL h4 hmk).nm [(1003,1003),(2000,15)] (by kernel_rfl)
 have hC:FC Tryz.prog 69 [(1003,cf zs)] [o1 (.sl 1003 0 L),vv (I6 mask)] [(15,mH (comps zs mask))] (o1 (.sl 15 0 (comps zs mask).length)) []:=hC
 have hlab:∀k,k < (comps zs mask).length→gY (cx (comps zs mask) k).2:=fun k hk=>ga hd hk
 have hcs:fj (comps zs mask)≤5:=by have:=(fu zs mask).sum;omega
 have hnp:(comps zs mask).length≤5:=by have:=fq (comps zs mask);omega
 have hfa:=(gI (ps:=comps zs mask) (comps zs mask).length (Nat.le_refl _)).1 (by simpa [dC] using hf)
 have hcl:∀j,j≤(comps zs mask).length→(eB (comps zs mask) j).length≤5:=fun j hj=>Nat.le_trans (iq hlab j hj) (Nat.le_trans (iM _ _) hcs)
 have hml:=fun j hj h5=>rX hlab (j:=j) hj h5
 unfold gA xW x9
 refine a5 (nt:=42) Tryz.func65 rfl rfl (by simp) fun w0 ω0=> ?_
 generalize comps zs mask=ps at *
 generalize hN:ps.length=N at *
 have hmx:=kg ps
 rw [hN] at hmx
 (refine aj ?_;refine ag ?_;apply ae rfl;(exact ai rfl rfl);apply ae rfl;(exact ai rfl rfl);apply ae rfl;(exact ai rfl rfl);refine aq ?_;refine an ?_;refine aj ?_;refine ag ?_;apply ae rfl;(exact ai rfl rfl);refine aq ?_;refine an ?_;refine aj ?_;refine ag ?_;apply ae rfl;(exact ai rfl rfl);refine aq ?_;refine an ?_;refine aj ?_;refine aj ?_;refine ag ?_;apply ae rfl;(exact ah rfl rfl);apply ae rfl;(exact ah rfl rfl);apply ae rfl;(apply ar 69;exact bl hC (by as_aux_lemma=>kernel_rfl) rfl rfl ⟨rfl,rfl,trivial⟩ ⟨⟨_,rfl, .inl rfl⟩,trivial⟩ rfl rfl rfl);apply ae rfl;(exact br rfl rfl rfl (by as_aux_lemma=>kernel_rfl));apply ae rfl;(exact ah rfl rfl);refine aq ?_;refine an ?_;refine aD ?_)
 refine bx (fun j:Nat=>St.of [(7,o1 (.sl 2200 0 (eB ps j).length)),(8,vv (I6 (gQ ps j:Nat))),(15,o1 (.sl 15 0 N)),(16,vv (I6 N)),(17,vv (I6 j))] [(15,mH ps),(2200,bI (eB ps j))]) (fun j=>j≤N) (fun j=>N - j) 0 (Nat.zero_le _) (Wk.trans (js (t:=7) (n:=2200) (k:=1) (E:=2) (d:= .bG (aH [])) rfl rfl) (Wk.of ⟨rfl,rfl,rfl,rfl,rfl,trivial⟩ ⟨rfl,rfl,trivial⟩ trivial)) ?_
 rintro j hj
 (refine aj ?_;refine ag ?_;apply ae rfl;(exact aB rfl rfl rfl rfl);refine aq ?_;refine an ?_;refine aj ?_)
 refine bM rfl (fun hlt=> ?_) (fun hlt=> ?_)
 ·have hjN:j < N:=by omega
  have hjp:j < ps.length:=by omega
  have hL:=hlab j hjN
  have hne:=hfa j hjN
  have hagg:=ma hjp 15
  have hcel:=(gu hjp).2
  have hix:N * 2≤(eo ps).length:=Nat.le_of_eq hmx.symm
  have hcat:=gy hjp
  have hmul:=kK hjp
  have hc5:=hcl (j + 1) (by omega)
  have hm1:=hml j hj (by omega)
  have hm2:=hml (j + 1) (by omega) (by omega)
  generalize (cx ps j).2=labs at *
  have hm4:=hL.1
  rcases rD (eo ps) ((cx ps j).1:Int) (j * 2 + 1) labs.length labs hcel rfl hm4 with ⟨hnil,hD⟩ | ⟨hsome,hD⟩
  ·exact absurd (by rw [hnil];rfl) hne
  have hD:=hD.nm [(1000,15),(2100,22)] (by kernel_rfl)
  have hD:FC Tryz.prog 70 [(15,dj (eo ps))] [.s (.agg [.val (I6 ((cx ps j).1:Int)), .esl 15 (j * 2 + 1) 0 labs.length])] [(22,bI (cO labs))] (o1 (.sl 22 0 (labs.length + 1))) []:=hD
  have hMx:=(rY (cO labs) (labs.length + 1) hsome (by omega) (by omega) (fun i hi=>pE hL i (by omega))).nm [(1005,22)] (by kernel_rfl)
  have htop:=oF hL hne
  rw [hsome] at htop
  have hMx:FC Tryz.prog 80 [(22,vW (cO labs))] [o1 (.sl 22 0 (labs.length + 1))] [] (vv (I6 (aC (cO labs) (labs.length + 1 - 1)))) []:=hMx
  rw [htop] at hMx
  have htp:=py hL hne
  have htl:=nW hL
  have hG:=tm (gQ ps j) (iU labs) (by omega) (by omega)
  have hgp:=oP (m:=gQ ps j) htp
  rw [←r9] at hmul
  have hw:IntKind.i64.wrap (((gQ ps j:Nat):Int) * ((iU labs / Nat.gcd (gQ ps j) (iU labs):Nat):Int))=((gQ ps (j + 1):Nat):Int):=by
   rw [←Int.natCast_mul,←hmul];exact IntWalk.i64_in _ (by omega)
  have hd0:0 < (aH (cO labs)).length:=by rw [aO];omega
  have hdl:(aH (cO labs)).length=labs.length + 1:=by rw [aO];exact hsome
  have hcl1:(eB ps j).length + (labs.length + 1)=(eB ps (j + 1)).length:=by rw [hcat,List.length_append,hsome]
  have hcb:(eB ps j).length + (labs.length + 1)≤2199023255552:=by omega
  have ht1:iU labs < 1000000000000:=by omega
  (refine aG ?_;refine an ?_;refine aj ?_;refine aD ?_;refine aj ?_;refine ag ?_;apply ae rfl;(first | exact dy (k:=2) (j:=j) rfl rfl rfl rfl rfl (by as_aux_lemma=>kernel_rfl) rfl hjN hix (by omega) rfl | exact cw (k:=2) rfl rfl rfl rfl rfl (by as_aux_lemma=>kernel_rfl) hagg | (apply ar 70;exact bl hD (by as_aux_lemma=>kernel_rfl) rfl rfl ⟨⟨.inl rfl, .inl rfl,trivial⟩,trivial⟩ ⟨⟨_,rfl, .inr rfl⟩,trivial⟩ rfl rfl rfl) | exact eS (b:=false) rfl (by as_aux_lemma=>kernel_rfl) rfl rfl hd0 (.inl ⟨rfl,rfl⟩));apply ae rfl;(first | exact dy (k:=2) (j:=j) rfl rfl rfl rfl rfl (by as_aux_lemma=>kernel_rfl) rfl hjN hix (by omega) rfl | exact cw (k:=2) rfl rfl rfl rfl rfl (by as_aux_lemma=>kernel_rfl) hagg | (apply ar 70;exact bl hD (by as_aux_lemma=>kernel_rfl) rfl rfl ⟨⟨.inl rfl, .inl rfl,trivial⟩,trivial⟩ ⟨⟨_,rfl, .inr rfl⟩,trivial⟩ rfl rfl rfl) | exact eS (b:=false) rfl (by as_aux_lemma=>kernel_rfl) rfl rfl hd0 (.inl ⟨rfl,rfl⟩));apply ae rfl;(exact jw [I6 0, .slice none 0 0] rfl (by as_aux_lemma=>kernel_rfl));apply ae rfl;(exact gW rfl rfl rfl rfl rfl rfl rfl rfl (by as_aux_lemma=>kernel_rfl) rfl);refine aq ?_;refine an ?_;refine aj ?_;refine ag ?_;apply ae rfl;(exact bX rfl rfl rfl rfl rfl rfl (by as_aux_lemma=>kernel_rfl));apply ae rfl;(first | exact dy (k:=2) (j:=j) rfl rfl rfl rfl rfl (by as_aux_lemma=>kernel_rfl) rfl hjN hix (by omega) rfl | exact cw (k:=2) rfl rfl rfl rfl rfl (by as_aux_lemma=>kernel_rfl) hagg | (apply ar 70;exact bl hD (by as_aux_lemma=>kernel_rfl) rfl rfl ⟨⟨.inl rfl, .inl rfl,trivial⟩,trivial⟩ ⟨⟨_,rfl, .inr rfl⟩,trivial⟩ rfl rfl rfl) | exact eS (b:=false) rfl (by as_aux_lemma=>kernel_rfl) rfl rfl hd0 (.inl ⟨rfl,rfl⟩));apply ae rfl;(exact ai rfl rfl);refine aq ?_;refine an ?_;refine aj ?_;refine aj ?_;refine ag ?_;apply ae rfl;(exact ah rfl rfl);apply ae rfl;(first | exact dy (k:=2) (j:=j) rfl rfl rfl rfl rfl (by as_aux_lemma=>kernel_rfl) rfl hjN hix (by omega) rfl | exact cw (k:=2) rfl rfl rfl rfl rfl (by as_aux_lemma=>kernel_rfl) hagg | (apply ar 70;exact bl hD (by as_aux_lemma=>kernel_rfl) rfl rfl ⟨⟨.inl rfl, .inl rfl,trivial⟩,trivial⟩ ⟨⟨_,rfl, .inr rfl⟩,trivial⟩ rfl rfl rfl) | exact eS (b:=false) rfl (by as_aux_lemma=>kernel_rfl) rfl rfl hd0 (.inl ⟨rfl,rfl⟩));refine aq ?_;refine an ?_)
  refine ax rfl (fun e=>by cases e) (fun _=> ?_)
  (refine aG ?_;refine an ?_;refine aj ?_;refine ag ?_;apply ae rfl;(exact ah rfl rfl);apply ae rfl;(exact ah rfl rfl);apply ae rfl;(first | exact bZ (E:=2) rfl (by as_aux_lemma=>kernel_rfl) rfl rfl rfl rfl rfl (cm rfl rfl rfl hdl) (by omega) hcb | (apply ar 80;exact au hMx (by as_aux_lemma=>kernel_rfl) rfl rfl ⟨rfl,trivial⟩ ⟨⟨_,rfl, .inr rfl⟩,trivial⟩ rfl rfl) | (apply ar 113;exact au hG (by as_aux_lemma=>kernel_rfl) rfl rfl ⟨rfl,rfl,trivial⟩ trivial rfl rfl) | exact bR rfl rfl rfl hgp ht1 | exact cV rfl rfl rfl hw);apply ae rfl;(exact ai rfl rfl);refine aq ?_;refine an ?_;refine aj ?_;refine ag ?_;apply ae rfl;(exact ah rfl rfl);apply ae rfl;(first | exact bZ (E:=2) rfl (by as_aux_lemma=>kernel_rfl) rfl rfl rfl rfl rfl (cm rfl rfl rfl hdl) (by omega) hcb | (apply ar 80;exact au hMx (by as_aux_lemma=>kernel_rfl) rfl rfl ⟨rfl,trivial⟩ ⟨⟨_,rfl, .inr rfl⟩,trivial⟩ rfl rfl) | (apply ar 113;exact au hG (by as_aux_lemma=>kernel_rfl) rfl rfl ⟨rfl,rfl,trivial⟩ trivial rfl rfl) | exact bR rfl rfl rfl hgp ht1 | exact cV rfl rfl rfl hw);apply ae rfl;(exact ai rfl rfl);refine aq ?_;refine an ?_;refine ag ?_;apply ae rfl;(exact ah rfl rfl);apply ae rfl;(exact ah rfl rfl);apply ae rfl;(exact ah rfl rfl);apply ae rfl;(exact ah rfl rfl);apply ae rfl;(first | exact bZ (E:=2) rfl (by as_aux_lemma=>kernel_rfl) rfl rfl rfl rfl rfl (cm rfl rfl rfl hdl) (by omega) hcb | (apply ar 80;exact au hMx (by as_aux_lemma=>kernel_rfl) rfl rfl ⟨rfl,trivial⟩ ⟨⟨_,rfl, .inr rfl⟩,trivial⟩ rfl rfl) | (apply ar 113;exact au hG (by as_aux_lemma=>kernel_rfl) rfl rfl ⟨rfl,rfl,trivial⟩ trivial rfl rfl) | exact bR rfl rfl rfl hgp ht1 | exact cV rfl rfl rfl hw);apply ae rfl;(first | exact bZ (E:=2) rfl (by as_aux_lemma=>kernel_rfl) rfl rfl rfl rfl rfl (cm rfl rfl rfl hdl) (by omega) hcb | (apply ar 80;exact au hMx (by as_aux_lemma=>kernel_rfl) rfl rfl ⟨rfl,trivial⟩ ⟨⟨_,rfl, .inr rfl⟩,trivial⟩ rfl rfl) | (apply ar 113;exact au hG (by as_aux_lemma=>kernel_rfl) rfl rfl ⟨rfl,rfl,trivial⟩ trivial rfl rfl) | exact bR rfl rfl rfl hgp ht1 | exact cV rfl rfl rfl hw);apply ae rfl;(first | exact bZ (E:=2) rfl (by as_aux_lemma=>kernel_rfl) rfl rfl rfl rfl rfl (cm rfl rfl rfl hdl) (by omega) hcb | (apply ar 80;exact au hMx (by as_aux_lemma=>kernel_rfl) rfl rfl ⟨rfl,trivial⟩ ⟨⟨_,rfl, .inr rfl⟩,trivial⟩ rfl rfl) | (apply ar 113;exact au hG (by as_aux_lemma=>kernel_rfl) rfl rfl ⟨rfl,rfl,trivial⟩ trivial rfl rfl) | exact bR rfl rfl rfl hgp ht1 | exact cV rfl rfl rfl hw);apply ae rfl;(exact ai rfl rfl);refine aq ?_;refine aI ?_;refine an ?_;refine ag ?_;apply ae rfl;(exact aJ rfl rfl rfl (by first | exact IntWalk.i64_in _ (by omega) | rfl));apply ae rfl;(exact ah rfl rfl);refine aq ?_)
  exact aX (j + 1) (by omega) (by omega) (Wk.of ⟨congrArg (fun z:Nat=>some (o1 (.sl 2200 0 z))) hcl1,rfl,rfl,rfl,rfl,trivial⟩ ⟨rfl,congrArg (fun z=>some (bI z)) hcat.symm,trivial⟩ trivial)
 ·obtain rfl:j=N:=by omega
  have hc5:=hcl j (Nat.le_refl _)
  (refine a6 ?_;refine aE ?_;refine aE ?_;refine aP ?_;refine an ?_;refine aj ?_;refine ag ?_;apply ae rfl;(exact ah rfl rfl);apply ae rfl;(apply ar 114;exact kb (zs:=eB ps j) (zs':=bS (eB ps j)) rfl (by as_aux_lemma=>kernel_rfl) rfl rfl rfl (kO _) (by omega) (fun ao c w hO=>tt ao _ c _ w 0 hO hc5));refine aq ?_;refine an ?_;refine aj ?_;refine ag ?_;apply ae rfl;(exact ah rfl rfl);apply ae rfl;(exact ah rfl rfl);apply ae rfl;(exact ai rfl rfl);apply ae rfl;(exact ai rfl rfl);apply ae rfl;(exact ai rfl rfl);refine aq ?_;refine an ?_;refine aK ?_)
  exact oQ (.inl rfl) rfl (.tmp rfl) (.tmp rfl) (.tmp rfl) ⟨rfl,trivial⟩ trivial
abbrev zn:AV:= .tup [.one (.val (.slice none 0 0)), .one (.val (I6 0)), .one (.val (.bool false))]
set_option maxRecDepth 100000 in
set_option maxHeartbeats 2000000 in
theorem tM (zs:List Int) (L mask:Nat) (hL:zs.length=L) (hd:bz zs=true) (hmk:mask < 1000) (hf:dC zs mask=false):
  FC Tryz.prog 65 [(1003,cf zs)] [o1 (.sl 1003 0 L),vv (I6 mask)] [] zn []:=by
 have h4:L≤4:=by have:=bE hd;omega
 have hC:=(lU zs L mask hL h4 hmk).nm [(1003,1003),(2000,15)] (by kernel_rfl)
 have hC:FC Tryz.prog 69 [(1003,cf zs)] [o1 (.sl 1003 0 L),vv (I6 mask)] [(15,mH (comps zs mask))] (o1 (.sl 15 0 (comps zs mask).length)) []:=hC
 have hlab:∀k,k < (comps zs mask).length→gY (cx (comps zs mask) k).2:=fun k hk=>ga hd hk
 have hcs:fj (comps zs mask)≤5:=by have:=(fu zs mask).sum;omega
 have hnp:(comps zs mask).length≤5:=by have:=fq (comps zs mask);omega
 have hfa:=gI (ps:=comps zs mask) (comps zs mask).length (Nat.le_refl _)
 have hfn:ey (comps zs mask) (comps zs mask).length≠0:=by simpa [dC] using hf
 have hcl:∀j,j≤(comps zs mask).length→(eB (comps zs mask) j).length≤5:=fun j hj=>Nat.le_trans (iq hlab j hj) (Nat.le_trans (iM _ _) hcs)
 have hml:=fun j hj h5=>rX hlab (j:=j) hj h5
 refine a5 (nt:=42) Tryz.func65 rfl rfl (by simp) fun w0 ω0=> ?_
 generalize comps zs mask=ps at *
 generalize hN:ps.length=N at *
 have hmx:=kg ps
 rw [hN] at hmx
 (refine aj ?_;refine ag ?_;apply ae rfl;(exact ai rfl rfl);apply ae rfl;(exact ai rfl rfl);apply ae rfl;(exact ai rfl rfl);refine aq ?_;refine an ?_;refine aj ?_;refine ag ?_;apply ae rfl;(exact ai rfl rfl);refine aq ?_;refine an ?_;refine aj ?_;refine ag ?_;apply ae rfl;(exact ai rfl rfl);refine aq ?_;refine an ?_;refine aj ?_;refine aj ?_;refine ag ?_;apply ae rfl;(exact ah rfl rfl);apply ae rfl;(exact ah rfl rfl);apply ae rfl;(apply ar 69;exact bl hC (by as_aux_lemma=>kernel_rfl) rfl rfl ⟨rfl,rfl,trivial⟩ ⟨⟨_,rfl, .inl rfl⟩,trivial⟩ rfl rfl rfl);apply ae rfl;(exact br rfl rfl rfl (by as_aux_lemma=>kernel_rfl));apply ae rfl;(exact ah rfl rfl);refine aq ?_;refine an ?_;refine aD ?_)
 refine bx (fun j:Nat=>St.of [(7,o1 (.sl 2200 0 (eB ps j).length)),(8,vv (I6 (gQ ps j:Nat))),(15,o1 (.sl 15 0 N)),(16,vv (I6 N)),(17,vv (I6 j))] [(15,mH ps),(2200,bI (eB ps j))]) (fun j=>j≤N∧∀k,k < j→(cO (cx ps k).2).length≠0) (fun j=>N - j) 0 ⟨Nat.zero_le _,fun k hk=>absurd hk (by omega)⟩ (Wk.trans (js (t:=7) (n:=2200) (k:=1) (E:=2) (d:= .bG (aH [])) rfl rfl) (Wk.of ⟨rfl,rfl,rfl,rfl,rfl,trivial⟩ ⟨rfl,rfl,trivial⟩ trivial)) ?_
 rintro j ⟨hj,hal⟩
 (refine aj ?_;refine ag ?_;apply ae rfl;(exact aB rfl rfl rfl rfl);refine aq ?_;refine an ?_;refine aj ?_)
 refine bM rfl (fun hlt=> ?_) (fun hlt=> ?_)
 ·have hjN:j < N:=by omega
  have hjp:j < ps.length:=by omega
  have hL:=hlab j hjN
  have hagg:=ma hjp 15
  have hcel:=(gu hjp).2
  have hix:N * 2≤(eo ps).length:=Nat.le_of_eq hmx.symm
  have hcat:=gy hjp
  have hmul:=kK hjp
  have hc5:=hcl (j + 1) (by omega)
  have hm1:=hml j hj (by omega)
  have hm2:=hml (j + 1) (by omega) (by omega)
  have hal':(cO (cx ps j).2).length≠0→∀k,k < j + 1→(cO (cx ps k).2).length≠0:=fun h1 k hk=>by
   by_cases e:k=j
   ·rw [e];exact h1
   ·exact hal k (by omega)
  obtain ⟨labs,hlb⟩:∃labs,(cx ps j).2=labs:=⟨_,rfl⟩
  rw [hlb] at hL hagg hcel hcat hmul hal'
  have hm4:=hL.1
  rcases rD (eo ps) ((cx ps j).1:Int) (j * 2 + 1) labs.length labs hcel rfl hm4 with ⟨hnil,hD⟩ | ⟨hsome,hD⟩
  ·have hD:=hD.nm [(1000,15)] (by kernel_rfl)
   have hD:FC Tryz.prog 70 [(15,dj (eo ps))] [.s (.agg [.val (I6 ((cx ps j).1:Int)), .esl 15 (j * 2 + 1) 0 labs.length])] [] (vv (.slice none 0 0)) []:=hD
   (refine aG ?_;refine an ?_;refine aj ?_;refine aD ?_;refine aj ?_;refine ag ?_;apply ae rfl;(first | exact dy (k:=2) (j:=j) rfl rfl rfl rfl rfl (by as_aux_lemma=>kernel_rfl) rfl hjN hix (by omega) rfl | exact cw (k:=2) rfl rfl rfl rfl rfl (by as_aux_lemma=>kernel_rfl) hagg | (apply ar 70;exact au hD (by as_aux_lemma=>kernel_rfl) rfl rfl ⟨⟨.inl rfl, .inl rfl,trivial⟩,trivial⟩ ⟨⟨_,rfl, .inr rfl⟩,trivial⟩ rfl rfl) | exact g8 (b:=true) rfl (by as_aux_lemma=>kernel_rfl) rfl (.inl ⟨rfl,rfl⟩));apply ae rfl;(first | exact dy (k:=2) (j:=j) rfl rfl rfl rfl rfl (by as_aux_lemma=>kernel_rfl) rfl hjN hix (by omega) rfl | exact cw (k:=2) rfl rfl rfl rfl rfl (by as_aux_lemma=>kernel_rfl) hagg | (apply ar 70;exact au hD (by as_aux_lemma=>kernel_rfl) rfl rfl ⟨⟨.inl rfl, .inl rfl,trivial⟩,trivial⟩ ⟨⟨_,rfl, .inr rfl⟩,trivial⟩ rfl rfl) | exact g8 (b:=true) rfl (by as_aux_lemma=>kernel_rfl) rfl (.inl ⟨rfl,rfl⟩));apply ae rfl;(exact jw [I6 0, .slice none 0 0] rfl (by as_aux_lemma=>kernel_rfl));apply ae rfl;(exact gW rfl rfl rfl rfl rfl rfl rfl rfl (by as_aux_lemma=>kernel_rfl) rfl);refine aq ?_;refine an ?_;refine aj ?_;refine ag ?_;apply ae rfl;(exact bX rfl rfl rfl rfl rfl rfl (by as_aux_lemma=>kernel_rfl));apply ae rfl;(first | exact dy (k:=2) (j:=j) rfl rfl rfl rfl rfl (by as_aux_lemma=>kernel_rfl) rfl hjN hix (by omega) rfl | exact cw (k:=2) rfl rfl rfl rfl rfl (by as_aux_lemma=>kernel_rfl) hagg | (apply ar 70;exact au hD (by as_aux_lemma=>kernel_rfl) rfl rfl ⟨⟨.inl rfl, .inl rfl,trivial⟩,trivial⟩ ⟨⟨_,rfl, .inr rfl⟩,trivial⟩ rfl rfl) | exact g8 (b:=true) rfl (by as_aux_lemma=>kernel_rfl) rfl (.inl ⟨rfl,rfl⟩));apply ae rfl;(exact ai rfl rfl);refine aq ?_;refine an ?_;refine aj ?_;refine aj ?_;refine ag ?_;apply ae rfl;(exact ah rfl rfl);apply ae rfl;(first | exact dy (k:=2) (j:=j) rfl rfl rfl rfl rfl (by as_aux_lemma=>kernel_rfl) rfl hjN hix (by omega) rfl | exact cw (k:=2) rfl rfl rfl rfl rfl (by as_aux_lemma=>kernel_rfl) hagg | (apply ar 70;exact au hD (by as_aux_lemma=>kernel_rfl) rfl rfl ⟨⟨.inl rfl, .inl rfl,trivial⟩,trivial⟩ ⟨⟨_,rfl, .inr rfl⟩,trivial⟩ rfl rfl) | exact g8 (b:=true) rfl (by as_aux_lemma=>kernel_rfl) rfl (.inl ⟨rfl,rfl⟩));refine aq ?_;refine an ?_)
   refine ax rfl (fun _=> ?_) (fun e=>by cases e)
   (refine aj ?_;refine ag ?_;apply ae rfl;(exact ai rfl rfl);apply ae rfl;(exact ai rfl rfl);apply ae rfl;(exact ai rfl rfl);refine aq ?_;refine an ?_;refine aK ?_;refine aT ?_;refine bh ?_;refine aT ?_;refine aT ?_;refine bh ?_;refine aT ?_)
   exact oQ (.inl rfl) rfl (.tmp rfl) (.tmp rfl) (.tmp rfl) trivial trivial
  have hne:(cO labs).length≠0:=by omega
  have hD:=hD.nm [(1000,15),(2100,22)] (by kernel_rfl)
  have hD:FC Tryz.prog 70 [(15,dj (eo ps))] [.s (.agg [.val (I6 ((cx ps j).1:Int)), .esl 15 (j * 2 + 1) 0 labs.length])] [(22,bI (cO labs))] (o1 (.sl 22 0 (labs.length + 1))) []:=hD
  have hMx:=(rY (cO labs) (labs.length + 1) hsome (by omega) (by omega) (fun i hi=>pE hL i (by omega))).nm [(1005,22)] (by kernel_rfl)
  have htop:=oF hL hne
  rw [hsome] at htop
  have hMx:FC Tryz.prog 80 [(22,vW (cO labs))] [o1 (.sl 22 0 (labs.length + 1))] [] (vv (I6 (aC (cO labs) (labs.length + 1 - 1)))) []:=hMx
  rw [htop] at hMx
  have htp:=py hL hne
  have htl:=nW hL
  have hG:=tm (gQ ps j) (iU labs) (by omega) (by omega)
  have hgp:=oP (m:=gQ ps j) htp
  rw [←r9] at hmul
  have hw:IntKind.i64.wrap (((gQ ps j:Nat):Int) * ((iU labs / Nat.gcd (gQ ps j) (iU labs):Nat):Int))=((gQ ps (j + 1):Nat):Int):=by
   rw [←Int.natCast_mul,←hmul];exact IntWalk.i64_in _ (by omega)
  have hd0:0 < (aH (cO labs)).length:=by rw [aO];omega
  have hdl:(aH (cO labs)).length=labs.length + 1:=by rw [aO];exact hsome
  have hcl1:(eB ps j).length + (labs.length + 1)=(eB ps (j + 1)).length:=by rw [hcat,List.length_append,hsome]
  have hcb:(eB ps j).length + (labs.length + 1)≤2199023255552:=by omega
  have ht1:iU labs < 1000000000000:=by omega
  (refine aG ?_;refine an ?_;refine aj ?_;refine aD ?_;refine aj ?_;refine ag ?_;apply ae rfl;(first | exact dy (k:=2) (j:=j) rfl rfl rfl rfl rfl (by as_aux_lemma=>kernel_rfl) rfl hjN hix (by omega) rfl | exact cw (k:=2) rfl rfl rfl rfl rfl (by as_aux_lemma=>kernel_rfl) hagg | (apply ar 70;exact bl hD (by as_aux_lemma=>kernel_rfl) rfl rfl ⟨⟨.inl rfl, .inl rfl,trivial⟩,trivial⟩ ⟨⟨_,rfl, .inr rfl⟩,trivial⟩ rfl rfl rfl) | exact eS (b:=false) rfl (by as_aux_lemma=>kernel_rfl) rfl rfl hd0 (.inl ⟨rfl,rfl⟩));apply ae rfl;(first | exact dy (k:=2) (j:=j) rfl rfl rfl rfl rfl (by as_aux_lemma=>kernel_rfl) rfl hjN hix (by omega) rfl | exact cw (k:=2) rfl rfl rfl rfl rfl (by as_aux_lemma=>kernel_rfl) hagg | (apply ar 70;exact bl hD (by as_aux_lemma=>kernel_rfl) rfl rfl ⟨⟨.inl rfl, .inl rfl,trivial⟩,trivial⟩ ⟨⟨_,rfl, .inr rfl⟩,trivial⟩ rfl rfl rfl) | exact eS (b:=false) rfl (by as_aux_lemma=>kernel_rfl) rfl rfl hd0 (.inl ⟨rfl,rfl⟩));apply ae rfl;(exact jw [I6 0, .slice none 0 0] rfl (by as_aux_lemma=>kernel_rfl));apply ae rfl;(exact gW rfl rfl rfl rfl rfl rfl rfl rfl (by as_aux_lemma=>kernel_rfl) rfl);refine aq ?_;refine an ?_;refine aj ?_;refine ag ?_;apply ae rfl;(exact bX rfl rfl rfl rfl rfl rfl (by as_aux_lemma=>kernel_rfl));apply ae rfl;(first | exact dy (k:=2) (j:=j) rfl rfl rfl rfl rfl (by as_aux_lemma=>kernel_rfl) rfl hjN hix (by omega) rfl | exact cw (k:=2) rfl rfl rfl rfl rfl (by as_aux_lemma=>kernel_rfl) hagg | (apply ar 70;exact bl hD (by as_aux_lemma=>kernel_rfl) rfl rfl ⟨⟨.inl rfl, .inl rfl,trivial⟩,trivial⟩ ⟨⟨_,rfl, .inr rfl⟩,trivial⟩ rfl rfl rfl) | exact eS (b:=false) rfl (by as_aux_lemma=>kernel_rfl) rfl rfl hd0 (.inl ⟨rfl,rfl⟩));apply ae rfl;(exact ai rfl rfl);refine aq ?_;refine an ?_;refine aj ?_;refine aj ?_;refine ag ?_;apply ae rfl;(exact ah rfl rfl);apply ae rfl;(first | exact dy (k:=2) (j:=j) rfl rfl rfl rfl rfl (by as_aux_lemma=>kernel_rfl) rfl hjN hix (by omega) rfl | exact cw (k:=2) rfl rfl rfl rfl rfl (by as_aux_lemma=>kernel_rfl) hagg | (apply ar 70;exact bl hD (by as_aux_lemma=>kernel_rfl) rfl rfl ⟨⟨.inl rfl, .inl rfl,trivial⟩,trivial⟩ ⟨⟨_,rfl, .inr rfl⟩,trivial⟩ rfl rfl rfl) | exact eS (b:=false) rfl (by as_aux_lemma=>kernel_rfl) rfl rfl hd0 (.inl ⟨rfl,rfl⟩));refine aq ?_;refine an ?_)
  refine ax rfl (fun e=>by cases e) (fun _=> ?_)
  (refine aG ?_;refine an ?_;refine aj ?_;refine ag ?_;apply ae rfl;(exact ah rfl rfl);apply ae rfl;(exact ah rfl rfl);apply ae rfl;(first | exact bZ (E:=2) rfl (by as_aux_lemma=>kernel_rfl) rfl rfl rfl rfl rfl (cm rfl rfl rfl hdl) (by omega) hcb | (apply ar 80;exact au hMx (by as_aux_lemma=>kernel_rfl) rfl rfl ⟨rfl,trivial⟩ ⟨⟨_,rfl, .inr rfl⟩,trivial⟩ rfl rfl) | (apply ar 113;exact au hG (by as_aux_lemma=>kernel_rfl) rfl rfl ⟨rfl,rfl,trivial⟩ trivial rfl rfl) | exact bR rfl rfl rfl hgp ht1 | exact cV rfl rfl rfl hw);apply ae rfl;(exact ai rfl rfl);refine aq ?_;refine an ?_;refine aj ?_;refine ag ?_;apply ae rfl;(exact ah rfl rfl);apply ae rfl;(first | exact bZ (E:=2) rfl (by as_aux_lemma=>kernel_rfl) rfl rfl rfl rfl rfl (cm rfl rfl rfl hdl) (by omega) hcb | (apply ar 80;exact au hMx (by as_aux_lemma=>kernel_rfl) rfl rfl ⟨rfl,trivial⟩ ⟨⟨_,rfl, .inr rfl⟩,trivial⟩ rfl rfl) | (apply ar 113;exact au hG (by as_aux_lemma=>kernel_rfl) rfl rfl ⟨rfl,rfl,trivial⟩ trivial rfl rfl) | exact bR rfl rfl rfl hgp ht1 | exact cV rfl rfl rfl hw);apply ae rfl;(exact ai rfl rfl);refine aq ?_;refine an ?_;refine ag ?_;apply ae rfl;(exact ah rfl rfl);apply ae rfl;(exact ah rfl rfl);apply ae rfl;(exact ah rfl rfl);apply ae rfl;(exact ah rfl rfl);apply ae rfl;(first | exact bZ (E:=2) rfl (by as_aux_lemma=>kernel_rfl) rfl rfl rfl rfl rfl (cm rfl rfl rfl hdl) (by omega) hcb | (apply ar 80;exact au hMx (by as_aux_lemma=>kernel_rfl) rfl rfl ⟨rfl,trivial⟩ ⟨⟨_,rfl, .inr rfl⟩,trivial⟩ rfl rfl) | (apply ar 113;exact au hG (by as_aux_lemma=>kernel_rfl) rfl rfl ⟨rfl,rfl,trivial⟩ trivial rfl rfl) | exact bR rfl rfl rfl hgp ht1 | exact cV rfl rfl rfl hw);apply ae rfl;(first | exact bZ (E:=2) rfl (by as_aux_lemma=>kernel_rfl) rfl rfl rfl rfl rfl (cm rfl rfl rfl hdl) (by omega) hcb | (apply ar 80;exact au hMx (by as_aux_lemma=>kernel_rfl) rfl rfl ⟨rfl,trivial⟩ ⟨⟨_,rfl, .inr rfl⟩,trivial⟩ rfl rfl) | (apply ar 113;exact au hG (by as_aux_lemma=>kernel_rfl) rfl rfl ⟨rfl,rfl,trivial⟩ trivial rfl rfl) | exact bR rfl rfl rfl hgp ht1 | exact cV rfl rfl rfl hw);apply ae rfl;(first | exact bZ (E:=2) rfl (by as_aux_lemma=>kernel_rfl) rfl rfl rfl rfl rfl (cm rfl rfl rfl hdl) (by omega) hcb | (apply ar 80;exact au hMx (by as_aux_lemma=>kernel_rfl) rfl rfl ⟨rfl,trivial⟩ ⟨⟨_,rfl, .inr rfl⟩,trivial⟩ rfl rfl) | (apply ar 113;exact au hG (by as_aux_lemma=>kernel_rfl) rfl rfl ⟨rfl,rfl,trivial⟩ trivial rfl rfl) | exact bR rfl rfl rfl hgp ht1 | exact cV rfl rfl rfl hw);apply ae rfl;(exact ai rfl rfl);refine aq ?_;refine aI ?_;refine an ?_;refine ag ?_;apply ae rfl;(exact aJ rfl rfl rfl (by first | exact IntWalk.i64_in _ (by omega) | rfl));apply ae rfl;(exact ah rfl rfl);refine aq ?_)
  exact aX (j + 1) ⟨by omega,hal' hne⟩ (by omega) (Wk.of ⟨congrArg (fun z:Nat=>some (o1 (.sl 2200 0 z))) hcl1,rfl,rfl,rfl,rfl,trivial⟩ ⟨rfl,congrArg (fun z=>some (bI z)) hcat.symm,trivial⟩ trivial)
 ·obtain rfl:j=N:=by omega
  exact absurd (hfa.2 hal) hfn
end Go.Proofs.YtekbhbcgoadciaaGreat
