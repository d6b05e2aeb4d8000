/- Orders of words: l11Order, periodOf; OrderOfElement. -/
import Derived.Test.YtekbhbcgoadciaaGreatPart3
import Derived.Test.YtekbhbcgoadciaaGreatPart7
import Derived.Test.YtekbhbcgoadciaaGreatPart4
import Derived.Test.YtekbhbcgoadciaaGreatPart1
import Derived.Test.YtekbhbcgoadciaaGreatProg
import Derived.Maps.AppendAt
import Derived.Deep.DeepCutAuto
import Derived.Deep.CutBlock
import Derived.Test.YtekbhbcgoadciaaGreatPart6
import Derived.Test.YtekbhbcgoadciaaGreatPart5
import Derived.Lib.LazyBuf
import Derived.Lib.SliceRun
import Derived.RegionTactic
import Derived.BigQuiet
set_option maxRecDepth 100000
set_option maxHeartbeats 6400000
namespace Go.Proofs.YtekbhbcgoadciaaGreat
open Go.RowKit
def ib (T:List (List Int)) (W:List Int):Nat→Nat
 | 0=>0
 | k + 1=>(dr T (ib T W k:Nat) W).toNat
section
variable {T:List (List Int)} {W:List Int} {m:Nat}
theorem mP (hT:dP T m) (hm:0 < m) (hW:∀z∈W,0≤z∧z < T.length):∀k,ib T W k < m
 | 0=>hm
 | k + 1=>by
  have:=mP hT hm hW k
  have:=hT.lead (c:=(ib T W k:Nat)) ae hW
  unfold ib;omega
theorem pW (hT:dP T m) (hm:0 < m) (hW:∀z∈W,0≤z∧z < T.length) (k:Nat):dr T (ib T W k:Nat) W=(ib T W (k + 1):Nat):=by
 have:=mP hT hm hW k
 have:=hT.lead (c:=(ib T W k:Nat)) ae hW
 show _=(((dr T (ib T W k:Nat) W).toNat:Nat):Int)
 omega
theorem pQ (hT:dP T m) (hI:pf T m) (hm:0 < m) (hW:∀z∈W,0≤z∧z < T.length):∀i d,ib T W i=ib T W (i + d)→ib T W d=0
 | 0,d,h=>by rw [Nat.zero_add] at h;exact h.symm
 | i + 1,d,h=>by
  have h1:=mP hT hm hW i
  have h2:=mP hT hm hW (i + d)
  have e:dr T (ib T W i:Nat) W=dr T (ib T W (i + d):Nat) W:=by
   rw [pW hT hm hW,pW hT hm hW,h,show i + d + 1=i + 1 + d by omega]
  have:=ur hT hI W hW _ _ ae ae e
  exact pQ hT hI hm hW i d ae
end
theorem Fa:∀(m n:Nat) (f:Nat→Nat),(∀i,i < n→f i < m)→(∀i j,i < n→j < n→f i=f j→i=j)→n≤m
 | 0,n,f,h,_=>by
  rcases Nat.eq_zero_or_pos n with e | e
  ·omega
  ·have:=h 0 e;omega
 | m + 1,0,f,_,_=>Nat.zero_le _
 | m + 1,n + 1,f,h,hi=>by
  have:=Fa m n (fun i=>if f i=m then f n else f i) (fun i hin=>by
   have h1:=h i ae
   have h2:=h n ae
   have h3:=hi i n ae ae
   split<;>omega) (fun i j hin hjn e=>by
   have h3:=hi i n ae ae
   have h4:=hi j n ae ae
   have h5:=hi i j ae ae
   split at e<;>split at e<;>omega)
  omega
def kj (T:List (List Int)) (W:List Int) (m:Nat):Int:=match (List.range m).find? (fun k=>ib T W (k + 1) == 0) with
 | some k=>((k + 1:Nat):Int)
 | none=>0
theorem DH {T:List (List Int)} {W:List Int} {m:Nat} (hT:dP T m) (hI:pf T m) (hm:0 < m) (hW:∀z∈W,0≤z∧z < T.length):∃p:Nat,kj T W m=(p:Int)∧1≤p∧p≤m∧ib T W p=0∧∀j,1≤j→j < p→ib T W j≠0:=by
 unfold kj
 cases hf:(List.range m).find? (fun k=>ib T W (k + 1) == 0) with
 | some k=>
  rw [List.find?_range_eq_some] at hf
  obtain ⟨h1,h2,h3⟩:=hf
  rw [List.mem_range] at h2
  refine ⟨k + 1,rfl,ae,ae,by simpa using h1,fun j hj hjk=> ?_⟩
  have:=h3 (j - 1) ae
  rw [show j - 1 + 1=j by omega] at this
  simpa using this
 | none=>
  exfalso
  rw [List.find?_eq_none] at hf
  have hne:∀d,1≤d→d≤m→ib T W d≠0:=fun d h1 h2=>by
   have:=hf (d - 1) (List.mem_range.2 ae)
   rw [show d - 1 + 1=d by omega] at this
   simpa using this
  have:=Fa m (m + 1) (ib T W) (fun i _=>mP hT hm hW i) (fun i j hi hj e=>by
   rcases Nat.lt_trichotomy i j with h | h | h
   ·exact absurd (pQ hT hI hm hW i (j - i) (by rw [show i + (j - i)=j by omega];exact e)) (hne _ ae ae)
   ·exact h
   ·exact absurd (pQ hT hI hm hW j (i - j) (by rw [show j + (i - j)=i by omega];exact e.symm)) (hne _ ae ae))
  omega
theorem n5 {ng:Nat} {rels ws:List (List Int)} (h:Good ng rels ws) (hf:(cm ng rels ws).2.2=false):pf (cU ((ng:Int),rels) ws) (fe ((ng:Int),rels) ws):=fun k hk x hx=>by
 rw [dO] at hk
 have hF:=gg h.rl h.wl hf
 rw [gC]
 rw [ma] at hx
 have hr:=lq hF hx hk
 have hb:=uq hF (ud h.rl h.wl).2 hx hk
 have he:∀y,y < (bO ng (cm ng rels ws).1 (cm ng rels ws).2.1).1.length→aC (bn (cj ng (cm ng rels ws).1 (cm ng rels ws).2.1) k) y=jN ng (cm ng rels ws).1 (cm ng rels ws).2.1 y k:=fun y hy=>by
  simp [cj,bn,aC,hk,hy,jN]
 have hr:0≤jN ng (cm ng rels ws).1 (cm ng rels ws).2.1 x k∧jN ng (cm ng rels ws).1 (cm ng rels ws).2.1 x k < _:=hr
 rw [he x hx,he _ ae]
 exact hb
theorem nX (T:List (List Int)) (W:List Int) (m n:Nat) (hn:T.length=n) (hT:dP T m) (hI:pf T m) (hm:0 < m) (hm4:m≤1000000) (hn4:n≤1000000) (hW:∀z∈W,0≤z∧z < T.length) (hWl:W.length≤1000000000):
  FC Tryz.prog 81 [(1005,jg T),(1004,dk W)] [o1 (.sl 1005 0 n),o1 (.sl 1004 0 W.length)] [] (vv (I6 (kj T W m))) []:=by
 obtain ⟨p,hp0,hp1,hp2,hp3,hp4⟩:=DH hT hI hm hW
 have hL:∀k,FC Tryz.prog 131 [(1005,jg T),(1004,dk W)] [o1 (.sl 1005 0 n),o1 (.sl 1004 0 W.length),vv (I6 (ib T W k:Nat))] [] (vv (I6 (ib T W (k + 1):Nat))) []:=fun k=>by
  have:=yZ T W (ib T W k) m n hn hT (mP hT hm hW k) hm4 hn4 hW hWl
  rwa [pW hT hm hW] at this
 have hL0:FC Tryz.prog 131 [(1005,jg T),(1004,dk W)] [o1 (.sl 1005 0 n),o1 (.sl 1004 0 W.length),vv (I6 0)] [] (vv (I6 (ib T W 1:Nat))) []:=hL 0
 refine bj (nt:=19) Tryz.func81 rfl rfl (by simp) fun w0 ω0=> ?_
 (refine ak (ah (aa rfl (ai rfl rfl) (ar (an (ak (ah (aa rfl (ai rfl rfl) (ar (an (ak (ak ?_)))))))))));refine ah (aa rfl (aj rfl rfl) (aa rfl (aj rfl rfl) ?_));apply aa rfl;(apply au 131;exact aw hL0 ab rfl rfl ⟨rfl,rfl,rfl,ag⟩ ⟨⟨_,rfl, .inl rfl⟩,⟨_,rfl, .inl rfl⟩,ag⟩ rfl rfl);refine aa rfl (ai rfl rfl) (ar (an (aB ?_))))
 refine bz (fun k:Nat=>St.of [(0,o1 (.sl 1005 0 n)),(1,o1 (.sl 1004 0 W.length)),(5,vv (I6 (k:Nat))),(6,vv (I6 (ib T W k:Nat)))] [(1005,jg T),(1004,dk W)]) (fun k=>1≤k∧k≤p) (fun k=>p - k) 1 ⟨Nat.le_refl _,hp1⟩ (Wk.of ⟨rfl,rfl,rfl,rfl,ag⟩ ⟨rfl,rfl,ag⟩ trivial) ?_
 rintro k ⟨hk1,hk2⟩
 have hLk:=hL k
 (refine ak (ak (ah (aa rfl (aj rfl rfl) (aa rfl (aG rfl rfl rfl rfl) (ar (an ?_)))))))
 refine ax rfl (fun hne=> ?_) (fun hne=> ?_)
 ·have hlt:k < p:=by
   rcases Nat.lt_or_ge k p with h | h
   ·exact h
   ·exfalso
    obtain rfl:k=p:=by omega
    simp [hp3] at hne
  (refine aE (an (ak (aB (ah (aa rfl (aj rfl rfl) ?_)))));apply aa rfl;exact aP rfl rfl rfl bA;refine aa rfl (ai rfl rfl) (ar (aM (an (ah (aa rfl (aj rfl rfl) (aa rfl (aj rfl rfl) (aa rfl (aj rfl rfl) ?_)))))));apply aa rfl;(apply au 131;exact aw hLk ab rfl rfl ⟨rfl,rfl,rfl,ag⟩ ⟨⟨_,rfl, .inl rfl⟩,⟨_,rfl, .inl rfl⟩,ag⟩ rfl rfl);refine aa rfl (ai rfl rfl) (ar ?_))
  exact aW (k + 1) ⟨ae,hlt⟩ ae (Wk.of ⟨rfl,rfl,rfl,rfl,ag⟩ ⟨rfl,rfl,ag⟩ trivial)
 ·have h0:ib T W k=0:=by simpa using hne
  obtain rfl:k=p:=by
   rcases Nat.lt_or_ge k p with h | h
   ·exact absurd h0 (hp4 k hk1 h)
   ·omega
  rw [hp0]
  (refine a7 (aA (aA (aT (an (ak (ah (aa rfl (aj rfl rfl) (aa rfl (ai rfl rfl) (ar (an (aS ?_))))))))))))
  exact bu (.inl rfl) rfl (.tmp rfl) trivial trivial
def I5 (d:du) (W:List Int):Int:=if tl d W=0 then kj (cU d []) W (fe d []) else 0
theorem CT (g:Int) (rels:List (List Int)) (W:List Int) (h1:Fit rels) (h2:W.length≤4398046511104):
  FC Tryz.prog 33 [(1004,dk W),(1003,a6 rels)] [pA g rels.length,o1 (.sl 1004 0 W.length)] [] (.tup [.one (.val (I6 (I5 (g,rels) W))), .one (.val (I6 (tl (g,rels) W)))]) []:=by
 refine bj (nt:=20) Tryz.func33 rfl rfl (by simp) fun w0 ω0=> ?_
 by_cases hk:m7 (g,rels) W
 ·obtain ⟨ng,rfl,hG⟩:=mi hk.1
  have hE:=lj h1 h2 hG hk
  have hs:=gF hk.2.2
  have hw:=FA hk
  have hL:=nX _ W _ ng (dO _ _ _) (hZ hG hs.1) (n5 hG hs.1) (mg hG hs.1) ae (by have:=hG.hi;omega) hw.1 hw.2
  have hc:=vk hk
  unfold I5
  rw [hc,if_pos rfl]
  generalize fe ((ng:Int),rels) []=N at *
  generalize cU ((ng:Int),rels) []=T at *
  (refine ak (ah (aa rfl (cF rfl rfl rfl rfl) (aa rfl (ai rfl rfl) (aa rfl (ai rfl rfl) (ar (an (ak (ah (aa rfl (aU rfl rfl rfl rfl rfl rfl ab) ?_)))))))));apply aa rfl;exact aj rfl rfl;apply aa rfl;(apply au 78;exact bg hE ab rfl rfl ⟨⟨.inl rfl, .inl rfl,ag⟩,rfl,ag⟩ ⟨⟨_,rfl, .inl rfl⟩,⟨_,rfl, .inl rfl⟩,ag⟩ rfl rfl rfl);refine aa rfl (aj rfl rfl) (aa rfl (aN rfl rfl rfl) (aa rfl (aN rfl rfl rfl) (aa rfl (ai rfl rfl) (aa rfl (ai rfl rfl) (ar (an (ak (ak (ah (aa rfl (aj rfl rfl) (aa rfl (aG rfl rfl rfl rfl) ?_)))))))))));refine ar (an ?_))
  refine ax rfl (fun e=>by cases e) (fun _=> ?_)
  (refine aE (an (ak (ah (aa rfl (aj rfl rfl) (aa rfl (aj rfl rfl) ?_)))));apply aa rfl;(apply au 81;exact aw hL ab rfl rfl ⟨rfl,rfl,ag⟩ ⟨⟨_,rfl, .inr rfl⟩,⟨_,rfl, .inl rfl⟩,ag⟩ rfl rfl);refine aa rfl (ai rfl rfl) (aa rfl (ai rfl rfl) (ar (an (aS ?_)))))
  exact bN (.inl rfl) rfl (.tmp rfl) (.tmp rfl) trivial trivial
 ·have hE:=mW h1 h2 hk
  have hc:=nI hk
  unfold I5
  rw [if_neg hc]
  (refine ak (ah (aa rfl (cF rfl rfl rfl rfl) (aa rfl (ai rfl rfl) (aa rfl (ai rfl rfl) (ar (an (ak (ah (aa rfl (aU rfl rfl rfl rfl rfl rfl ab) ?_)))))))));apply aa rfl;exact aj rfl rfl;apply aa rfl;(apply au 78;exact aw hE ab rfl rfl ⟨⟨.inl rfl, .inl rfl,ag⟩,rfl,ag⟩ ⟨⟨_,rfl, .inl rfl⟩,⟨_,rfl, .inl rfl⟩,ag⟩ rfl rfl);refine aa rfl (aj rfl rfl) (aa rfl (aN rfl rfl rfl) (aa rfl (aN rfl rfl rfl) (aa rfl (ai rfl rfl) (aa rfl (ai rfl rfl) (ar (an (ak (ak (ah (aa rfl (aj rfl rfl) (aa rfl (aG rfl rfl rfl rfl) ?_)))))))))));refine ar (an ?_))
  refine ax rfl (fun _=> ?_) (fun e=> ?_)
  ·(refine ak (ah (aa rfl (aj rfl rfl) (aa rfl (ai rfl rfl) (aa rfl (ai rfl rfl) (ar (an (aS (aO ?_)))))))))
   exact bN (.inl rfl) rfl (.tmp rfl) (.tmp rfl) trivial trivial
  ·exfalso;simp at e;exact hc e
theorem Ah {E1 E E':Nat} {lo hi lo' hi':Nat} {v v':Value} {d:du} {W:List Int} (w:World) (h:tE E1 E w lo hi v d) (h':ff E' w lo' hi' v' W):
  Calls Tryz.prog 33 #[v,v'] w fun e w'=>e= .returned (.tuple #[.int .i64 (I5 d W), .int .i64 (tl d W)])∧Below w.heap.size w w':=fX (I1 (fun k1 k2=>CT d.1 d.2 W k1 k2) h h')
end Go.Proofs.YtekbhbcgoadciaaGreat
namespace Go.Proofs.YtekbhbcgoadciaaGreat
theorem tT {ng:Nat} {rels ws:List (List Int)} (h:Good ng rels ws) (hf:(cm ng rels ws).2.2=false):∀k,1≤k→k < fe ((ng:Int),rels) ws→∃i g,i < k∧g < ng∧kC (cU ((ng:Int),rels) ws) i g=k:=fun k hk1 hk2=>by
 have hF:=gg h.rl h.wl hf
 rw [gC]
 rw [ma] at hk2
 obtain ⟨hT,_⟩:=gL hF
 have hp:zl ng (cm ng rels ws).1 (cm ng rels ws).2.1 (bO ng (cm ng rels ws).1 (cm ng rels ws).2.1):=qh hF _ _ _ (fg hF) fun k h1 h2=>by simp [dE] at h2;omega
 obtain ⟨i,g,i1,i2,i3⟩:=hp k hk1 hk2
 obtain ⟨d,d1,_,_,d4⟩:=hT.live k hk2
 refine ⟨i,g,i1,i2, ?_⟩
 have he:aC (bn (cj ng (cm ng rels ws).1 (cm ng rels ws).2.1) g) i=jN ng (cm ng rels ws).1 (cm ng rels ws).2.1 i g:=by
  simp [cj,bn,aC,i2,show i < (bO ng (cm ng rels ws).1 (cm ng rels ws).2.1).1.length by omega,jN]
 unfold kC
 rw [he]
 unfold jN
 rw [i3,d1,Int.toNat_natCast,d4,Int.toNat_natCast]
section
variable {T:List (List Int)} {ng n:Nat}
def GC (T:List (List Int)) (ng i:Nat) (s:k8):Prop:=∀k,k < i→∀g,g < ng→dU s.2.1 (kC T (aC s.2.2 k).toNat g)=true
theorem zK {s:k8} {c g d:Nat} (h:u7 n s) (hd:d < n):dU (gA s c g d).2.1 d=true:=by
 unfold gA
 split
 ·assumption
 ·dsimp only;rw [dw,if_pos ⟨rfl,by rw [h.l2];exact hd⟩]
theorem xW (hT:dP T n) (hng:T.length=ng) {c:Nat} (hc:c < n) {s:k8} (h:u7 n s):∀m,m≤ng→∀g,g < m→dU ((List.range m).foldl (jL T c) s).2.1 (kC T c g)=true
 | 0,_,g,hg=>by omega
 | m + 1,hm,g,hg=>by
  obtain ⟨h1,_⟩:=n4 hT hng hc h m ae
  have ih:=xW hT hng hc h m ae
  rw [List.range_succ,List.foldl_append]
  generalize (List.range m).foldl (jL T c) s=t at *
  show dU (gA t c m (kC T c m)).2.1 (kC T c g)=true
  by_cases e:g=m
  ·subst e;exact zK h1 (nO hT hc ae).1
  ·exact ((qB h1).met _ (nO hT hc ae).1 (ih g ae)).1
theorem r6 (hT:dP T n) (hng:T.length=ng):∀(f i:Nat) (s:k8),u7 n s→GC T ng i s→i≤s.2.2.length→n + 1≤f + i→GC T ng (ie T ng f i s).2.2.length (ie T ng f i s)
 | 0,i,s,h,hs,hi,hf=>by have:=h.le;omega
 | f + 1,i,s,h,hs,hi,hf=>by
  unfold ie
  split
  ·rename_i hlt
   obtain ⟨d,h1,h2,_⟩:=h.q i hlt
   obtain ⟨k1,k2⟩:=n4 hT hng (c:=(aC s.2.2 i).toNat) ae h ng (Nat.le_refl _)
   refine r6 hT hng f (i + 1) _ k1 (fun k hk g hg=> ?_) (Nat.le_trans hlt k2.len) ae
   have e:aC (FF T ng (aC s.2.2 i).toNat s).2.2 k=aC s.2.2 k:=k2.pre k ae
   rw [e]
   by_cases e2:k=i
   ·subst e2;exact xW hT hng ae h ng (Nat.le_refl _) g hg
   ·obtain ⟨d',q1,q2,_⟩:=h.q k ae
    exact (k2.met _ (nO hT ae ae).1 (hs k ae g hg)).1
  ·obtain rfl:i=s.2.2.length:=by omega
   exact hs
theorem Gw (hT:dP T n) (hng:T.length=ng) (hn:0 < n) (hp:∀k,1≤k→k < n→∃i g,i < k∧g < ng∧kC T i g=k):∀d,d < n→dU (uz T ng n).2.1 d=true:=by
 obtain ⟨h1,h2⟩:=rQ hT hng (n + 1) 0 _ (mI hn)
 have hs:=r6 hT hng (n + 1) 0 _ (mI hn) (fun k hk=>by omega) (Nat.zero_le _) ae
 intro d
 induction d using Nat.strongRecOn with
 | _ d ih=>
  intro hd
  by_cases e:d=0
  ·subst e
   exact (h2.met 0 hn (by show dU ((List.replicate n false).set 0 true) 0=true;rw [dw,if_pos ⟨rfl,by simpa using hn⟩])).1
  ·obtain ⟨i,g,i1,i2,i3⟩:=hp d ae hd
   obtain ⟨k,k1,k2⟩:=h1.cov i ae (ih i i1 ae)
   have:=hs k k1 g i2
   rw [k2,Int.toNat_natCast,i3] at this
   exact this
end
def g8 (s:k8):List Int:=(List.range s.1.length).map fun k=>if dU s.2.1 k=true then ((bn s.1 k).length:Int) else -1
theorem wK (s:k8):(g8 s).length=s.1.length:=by simp [g8]
theorem jQ {s:k8} {k:Nat} (h:k < s.1.length):aC (g8 s) k=if dU s.2.1 k=true then ((bn s.1 k).length:Int) else -1:=by simp [g8,aC,h]
theorem n8 {a b:List Int} (hl:a.length=b.length) (h:∀k,k < a.length→aC a k=aC b k):a=b:=by
 refine List.ext_getElem hl fun k h1 h2=> ?_
 have:=h k h1
 simpa [aC,h1,h2] using this
theorem Az (n:Nat):g8 (gy n)=(List.replicate n (-1)).set 0 0:=by
 refine n8 (by simp [g8,gy]) fun k hk=> ?_
 have hk:k < n:=by simpa [g8,gy] using hk
 rw [jQ (by simpa [gy] using hk),cK,fp hk]
 show (if dU ((List.replicate n false).set 0 true) k=true then ((bn (List.replicate n ([]:List Int)) k).length:Int) else -1)=_
 by_cases e:0=k
 ·subst e
  have hb:dU ((List.replicate n false).set 0 true) 0=true:=by rw [dw,if_pos ⟨rfl,by simpa using hk⟩]
  rw [if_pos hb,if_pos ⟨rfl,by simpa using hk⟩]
  simp [bn,hk]
 ·have hb:dU ((List.replicate n false).set 0 true) k=false:=by rw [dw,if_neg (fun h=>e h.1)];simp [dU,hk]
  rw [if_neg (by rw [hb];simp),if_neg (fun h=>e h.1)]
theorem zE {n c g d:Nat} {s:k8} (h:u7 n s) (hc:c < n) (hm:dU s.2.1 d=false) (hcm:dU s.2.1 c=true):g8 (gA s c g d)=(g8 s).set d (aC (g8 s) c + 1):=by
 have hv:gA s c g d=(s.1.set d (bn s.1 c ++ [(g:Int)]),s.2.1.set d true,s.2.2 ++ [(d:Int)]):=by unfold gA;rw [if_neg (by rw [hm];simp)]
 have hcl:aC (g8 s) c=((bn s.1 c).length:Int):=by rw [jQ (by rw [h.l1];exact hc),if_pos hcm]
 rw [hv,hcl]
 refine n8 (by simp [g8]) fun k hk=> ?_
 have hk:k < n:=by simpa [g8,h.l1] using hk
 rw [jQ (by simpa [h.l1] using hk),cK,jQ (by rw [h.l1];exact hk)]
 dsimp only
 by_cases e:d=k
 ·subst e
  have hb:dU (s.2.1.set d true) d=true:=by rw [dw,if_pos ⟨rfl,by rw [h.l2];exact hk⟩]
  rw [if_pos hb,fA,if_pos ⟨rfl,by rw [h.l1];exact hk⟩,if_pos ⟨rfl,by rw [wK,h.l1];exact hk⟩]
  simp
 ·have hb:dU (s.2.1.set d true) k=dU s.2.1 k:=by rw [dw,if_neg (fun h=>e h.1)]
  have hl2:bn (s.1.set d (bn s.1 c ++ [(g:Int)])) k=bn s.1 k:=by rw [fA,if_neg (fun h=>e h.1)]
  rw [hb,hl2]
  exact (if_neg (fun h=>e h.1)).symm
theorem DU {n:Nat} {s:k8} (h:u7 n s) (ha:∀d,d < n→dU s.2.1 d=true):g8 s=s.1.map fun w=>(w.length:Int):=by
 refine n8 (by simp [g8]) fun k hk=> ?_
 have hk:k < s.1.length:=by simpa [g8] using hk
 rw [jQ hk,if_pos (ha k (by rw [←h.l1];exact hk))]
 simp [aC,hk,bn]
def fV (L:List Nat):Nat:=L.foldl (fun a l=>max a (l + 1)) 0
def iY (L:List Nat) (n:Nat):List Int:=(List.range n).map fun l=>((L.filter fun x=>x == l).length:Int)
theorem pd (L:List Nat) (n:Nat):(iY L n).length=n:=by simp [iY]
theorem mz {L:List Nat} {n l:Nat} (h:l < n):aC (iY L n) l=((L.filter fun x=>x == l).length:Int):=by simp [iY,aC,h]
theorem BF (L:List Nat) (l:Nat):fV (L ++ [l])=max (fV L) (l + 1):=by simp [fV,List.foldl_append]
theorem oJ:∀(L:List Nat) (a:Nat),a≤L.foldl (fun a l=>max a (l + 1)) a∧∀x∈L,x < L.foldl (fun a l=>max a (l + 1)) a
 | [],a=>⟨Nat.le_refl _,fun x hx=>by simp at hx⟩
 | y :: r,a=>by
  obtain ⟨h1,h2⟩:=oJ r (max a (y + 1))
  simp only [List.foldl_cons]
  refine ⟨ae,fun x hx=> ?_⟩
  rcases List.mem_cons.1 hx with rfl | hx
  ·omega
  ·exact h2 x hx
theorem oP {L:List Nat} {x:Nat} (h:x∈L):x < fV L:=(oJ L 0).2 x h
theorem C5 {L:List Nat} {n l:Nat} (h:l < n):iY (L ++ [l]) n=(iY L n).set l (aC (iY L n) l + 1):=by
 refine n8 (by simp [iY]) fun k hk=> ?_
 have hk:k < n:=by simpa [iY] using hk
 rw [mz hk,cK,mz h,mz hk,List.filter_append,List.length_append]
 by_cases e:l=k
 ·subst e
  rw [if_pos ⟨rfl,by rw [pd];exact h⟩]
  simp
 ·rw [if_neg (fun h=>e h.1)]
  simp [e]
theorem EM (n:Nat):iY [] n=List.replicate n 0:=by
 refine n8 (by simp [iY]) fun k hk=> ?_
 have hk:k < n:=by simpa [iY] using hk
 rw [mz hk,fp hk];simp
theorem wj {L:List Nat} {m:Nat} (h:∀x∈L,x < m):fV L≤m:=by
 have key:∀(L:List Nat) (a:Nat),a≤m→(∀x∈L,x < m)→L.foldl (fun a l=>max a (l + 1)) a≤m:=by
  intro L
  induction L with
  | nil=>intro a ha _;exact ha
  | cons y r ih=>
   intro a ha h
   have:=h y (by simp)
   exact ih (max a (y + 1)) ae fun x hx=>h x (by simp [hx])
 exact key L 0 (Nat.zero_le _) h
end Go.Proofs.YtekbhbcgoadciaaGreat
namespace Go.Proofs.YtekbhbcgoadciaaGreat
def JL (L:Lv):Nat→Nat→Nat
 | 0,_=>0
 | f + 1,d=>if Nat.blt (ev L d (par L d)) d then JL L f (ev L d (par L d)) + 1 else 0
def lp:List Lv→List Nat→Nat
 | L :: r,d :: u=>JL L L.N d + lp r u
 | _,_=>0
def wb (tw:List Lv):Bool:=
 lp tw (dM tw) == 0 && (List.range (dQ tw)).all fun x=>(List.range tw.length).all (fun g=>Nat.ble (lp tw (tf tw g (ji tw x))) (lp tw (ji tw x) + 1)) && (x == 0 || (List.range tw.length).any fun g=>lp tw (tf tw g (ji tw x)) + 1 == lp tw (ji tw x))
theorem xp:∀tw:List Lv,ji tw 0=dM tw
 | []=>rfl
 | L :: r=>by rw [ji,dM,Nat.zero_mod,Nat.zero_div,xp r]
theorem wx {tw:List Lv} (h:wb tw=true) {x:List Nat} (hx:fq tw x=true):(∀g,g < tw.length→lp tw (tf tw g x)≤lp tw x + 1)∧(x≠dM tw→∃g,g < tw.length∧lp tw (tf tw g x) + 1=lp tw x):=by
 unfold wb at h
 rw [Bool.and_eq_true] at h
 have h1:=dH.1 h.2 (m0 tw x) (rk tw x hx)
 rw [ld tw x hx,Bool.and_eq_true] at h1
 refine ⟨fun g hg=>by simpa [Nat.ble_eq] using dH.1 h1.1 g hg,fun hne=> ?_⟩
 have h2:=h1.2
 rw [Bool.or_eq_true] at h2
 rcases h2 with h2 | h2
 ·exfalso
  apply hne
  have h3:m0 tw x=0:=by simpa using h2
  rw [←ld tw x hx,h3,xp]
 ·obtain ⟨g,hg,e⟩:=List.any_eq_true.1 h2
  exact ⟨g,List.mem_range.1 hg,by simpa using e⟩
theorem yu {tw:List Lv} (h:wb tw=true) (ok:∀g u,g < tw.length→fq tw u=true→fq tw (tf tw g u)=true):∀(w:List Nat) (x:List Nat),(∀g∈w,g < tw.length)→fq tw x=true→lp tw (cS (tf tw) x w)≤lp tw x + w.length
 | [],x,_,_=>Nat.le_refl _
 | g :: w,x,hw,hx=>by
  have hg:=hw g (by simp)
  have h1:=(wx h hx).1 g hg
  have h2:=yu h ok w (tf tw g x) (fun y hy=>hw y (by simp [hy])) (ok g x hg hx)
  show lp tw (cS (tf tw) (tf tw g x) w)≤_
  rw [List.length_cons];omega
theorem xK {tw:List Lv} (h:wb tw=true) (ok:∀g u,g < tw.length→fq tw u=true→fq tw (tf tw g u)=true) (inv:∀g u,g < tw.length→fq tw u=true→tf tw g (tf tw g u)=u):∀(n:Nat) (x:List Nat),fq tw x=true→lp tw x=n→∃w,(∀g∈w,g < tw.length)∧cS (tf tw) (dM tw) w=x∧w.length=n
 | 0,x,hx,hn=>by
  have:x=dM tw:=by
   by_cases e:x=dM tw
   ·exact e
   ·obtain ⟨g,_,e2⟩:=(wx h hx).2 e
    omega
  exact ⟨[],by simp,this.symm,rfl⟩
 | n + 1,x,hx,hn=>by
  have hz:lp tw (dM tw)=0:=by
   unfold wb at h
   rw [Bool.and_eq_true] at h
   exact eq_of_beq h.1
  have hne:x≠dM tw:=fun e=>by subst e;omega
  obtain ⟨g,hg,e⟩:=(wx h hx).2 hne
  obtain ⟨w,w1,w2,w3⟩:=xK h ok inv n (tf tw g x) (ok g x hg hx) ae
  refine ⟨w ++ [g],fun y hy=> ?_, ?_,by simp [w3]⟩
  ·rcases List.mem_append.1 hy with hy | hy
   ·exact w1 y hy
   ·simp at hy;omega
  ·rw [iP,w2];exact inv g x hg hx
theorem Dg {lb:Nat→Nat→Nat} {I:Nat} :∀(tw:List Lv),zI lb tw=true→m6 lb tw=true→oz tw=true→∀x,fq tw x=true→qj I tw x=true→∃w,(∀g∈w,g < tw.length∧kD I (2 ^ g)=true)∧cS (tf tw) (dM tw) w=x
 | [],_,_,_=>fun x hx _=>⟨[],by simp,by cases x with
  | nil=>rfl
  | cons _ _=>cases hx⟩
 | L :: r,hB,h,hS=>fun x hx hs=>by
  rw [zI,Bool.and_eq_true] at hB
  rw [m6,Bool.and_eq_true] at h
  rw [oz,Bool.and_eq_true] at hS
  match x,hx with
  | [],hx=>cases hx
  | d :: u,hx=>
   rw [fq,Bool.and_eq_true] at hx
   rw [qj,Bool.and_eq_true] at hs
   have hd:d < L.N:=by simpa using hx.1
   have h0N:0 < L.N:=by omega
   obtain ⟨w,hw,e⟩:=Dg r hB.2 h.2 hS.2 u hx.2 hs.2
   have low:∀(w:List Nat) (v:List Nat),(∀g∈w,g < r.length)→cS (tf (L :: r)) (0 :: v) w=0 :: cS (tf r) v w:=by
    intro w
    induction w with
    | nil=>intro v _;rfl
    | cons g w ihw=>
     intro v hg
     show cS (tf (L :: r)) (tf (L :: r) g (0 :: v)) w=0 :: cS (tf r) (tf r g v) w
     have e0:=xd h.1 (hg g (by simp))
     rw [tf,if_neg ae,e0,Nat.add_sub_cancel_left]
     exact ihw _ fun y hy=>hg y (by simp [hy])
   have base:cS (tf (L :: r)) (dM (L :: r)) w=0 :: u:=by
    have:=low w (dM r) fun g hg=>(hw g hg).1
    rw [e] at this;exact this
   suffices ∃v,(∀g∈v,g < r.length + 1∧kD I (2 ^ g)=true)∧cS (tf (L :: r)) (0 :: u) v=d :: u by
    obtain ⟨v,v1,v2⟩:=this
    refine ⟨w ++ v,fun g hg=> ?_,by rw [iP,base];exact v2⟩
    rcases List.mem_append.1 hg with hg | hg
    ·have:=hw g hg
     exact ⟨by show g < r.length + 1;omega,this.2⟩
    ·exact v1 g hg
   have hs1:=hs.1
   clear hx hs base low e w hw
   induction d using Nat.strongRecOn with
   | _ d ih=>
    by_cases d0:d=0
    ·subst d0;exact ⟨[],by simp,rfl⟩
    ·obtain ⟨p1,p2⟩:=vh h.1 ae hd
     rw [(vf hS.1 hd).2 ae,wi] at hs1
     obtain ⟨v,v1,v2⟩:=ih _ p1 ae hs1.1
     refine ⟨v ++ [par L d],fun g hg=> ?_, ?_⟩
     ·rcases List.mem_append.1 hg with hg | hg
      ·exact v1 g hg
      ·simp at hg;subst hg;exact ⟨p2,hs1.2⟩
     ·rw [iP,v2]
      show tf (L :: r) (par L d) (ev L d (par L d) :: u)=d :: u
      have s1:=((gZ hB.1 hd p2).1 ae).1
      rw [tf,s1,if_pos hd]
theorem AR {lb:Nat→Nat→Nat} :∀(tw:List Lv),m6 lb tw=true→oz tw=true→∀x,fq tw x=true→qj 0 tw x=true→x=dM tw
 | [],_,_=>fun x hx _=>by cases x with
  | nil=>rfl
  | cons _ _=>cases hx
 | L :: r,h,hS=>fun x hx hs=>by
  rw [m6,Bool.and_eq_true] at h
  rw [oz,Bool.and_eq_true] at hS
  match x,hx with
  | [],hx=>cases hx
  | d :: u,hx=>
   rw [fq,Bool.and_eq_true] at hx
   rw [qj,Bool.and_eq_true] at hs
   have hd:d < L.N:=by simpa using hx.1
   have hu:=AR r h.2 hS.2 u hx.2 hs.2
   by_cases d0:d=0
   ·subst d0;rw [hu];rfl
   ·exfalso
    have h1:=hs.1
    rw [(vf hS.1 hd).2 ae,wi] at h1
    have h2:2 ^ par L d=0:=by simpa [kD] using h1.2
    have:=Nat.pow_pos (n:=par L d) (show 0 < 2 by decide)
    omega
theorem uc (n:Nat):Fc n 0 []:=
 ⟨fun w hw=>by simp at hw,fun i _ hb=>by
  exfalso
  have h2:2 ^ i=0:=by simp [kD] at hb
  have:=Nat.pow_pos (n:=i) (show 0 < 2 by decide)
  omega⟩
section
variable {zs:List Int} {tw:List Lv}
abbrev nV (zs:List Int):List (List Int):=qA (zs.length + 1) (bJ zs).2 []
abbrev oR (zs:List Int):Nat:=tG (zs.length + 1) (bJ zs).2 []
abbrev C7 (zs:List Int):Prop:=CW (zs.length + 1) (bJ zs).2 []
theorem Gp:(nV zs).length=zs.length + 1:=mG
theorem qZ (D:qK zs tw) (h:C7 zs) {x y:List Nat} (hx:fq tw x=true) (hy:fq tw y=true) (e:fL zs tw [] x=fL zs tw [] y):x=y:=by
 obtain ⟨w,hw,rfl⟩:=D.reach hx
 have hwr:∀g∈w.reverse,g < zs.length + 1:=fun g hg=>hw g (by simpa using hg)
 have e1:=sX D h w.reverse _ hwr hx
 have e2:=sX D h w.reverse _ hwr hy
 rw [e,←e2,D.rev hw D.zero,eb] at e1
 have hz:=AR tw D.ub D.sb _ (D.iU hwr hy) ((Br D h (uc _) (D.iU hwr hy)).1 e1.symm)
 have:=D.rev hwr hy
 rw [hz,List.reverse_reverse] at this
 exact this
theorem AJ (D:qK zs tw) (h:C7 zs) {k:Nat} (hk:k < oR zs):∃x,fq tw x=true∧fL zs tw [] x=k:=by
 obtain ⟨u,u1,u2⟩:=uU h.full k hk
 have hun:∀g∈u.map Int.toNat,g < zs.length + 1:=fun g hg=>by
  obtain ⟨z,hz,rfl⟩:=List.mem_map.1 hg
  have:=u1 z hz
  omega
 have hback:(u.map Int.toNat).map (fun g:Nat=>(g:Int))=u:=by
  rw [List.map_map]
  conv=>rhs;rw [←List.map_id u]
  refine List.map_congr_left fun z hz=> ?_
  have:=u1 z hz
  show ((z.toNat:Nat):Int)=z
  omega
 refine ⟨cS (tf tw) (dM tw) (u.map Int.toNat),D.iU hun D.zero, ?_⟩
 have:=iQ D h _ _ hun D.zero (by rw [eb];exact fP)
 rw [hback,eb] at this
 have u2:dr (nV zs) (0:Nat) u=(k:Int):=u2
 rw [u2] at this
 omega
theorem DN (D:qK zs tw) (hL:wb tw=true) (h:C7 zs) {x:List Nat} (hx:fq tw x=true):(bn (uz (nV zs) (zs.length + 1) (oR zs)).1 (fL zs tw [] x)).length=lp tw x:=by
 have H:=kq tw D.tb
 have hb:=H7 h.full
 have hk:=my D h hx
 obtain ⟨s1,s2⟩:=FK h.full hb _ hk
 apply Nat.le_antisymm
 ·obtain ⟨w,w1,w2,w3⟩:=xK hL H.ok H.inv _ x hx rfl
  rw [D.len] at w1
  have e:=iQ D h w _ w1 D.zero (by rw [eb];exact fP)
  rw [w2,eb] at e
  have l:=yr h.full hb _ (w.map fun g:Nat=>(g:Int)) rfl (qW w1)
  have e:dr (cj (zs.length + 1) (cm (zs.length + 1) (bJ zs).2 []).1 (cm (zs.length + 1) (bJ zs).2 []).2.1) (0:Nat) (w.map fun g:Nat=>(g:Int))=((fL zs tw [] x:Nat):Int):=e.symm
  rw [e,Int.toNat_natCast] at l
  rw [←w3]
  rcases l with l | l
  ·have:=congrArg List.length l
   rw [List.length_map] at this
   exact Nat.le_of_eq this
  ·unfold nT at l
   split at l
   ·rename_i h1
    rw [List.length_map] at h1
    exact Nat.le_of_eq h1
   ·have h1:=of_decide_eq_true l
    rw [List.length_map] at h1
    exact Nat.le_of_lt h1
 ·generalize bn (uz (nV zs) (zs.length + 1) (oR zs)).1 (fL zs tw [] x)=u at s1 s2 ⊢
  have hun:∀g∈u.map Int.toNat,g < zs.length + 1:=fun g hg=>by
   obtain ⟨z,hz,rfl⟩:=List.mem_map.1 hg
   have:=s1 z hz
   omega
  have hback:(u.map Int.toNat).map (fun g:Nat=>(g:Int))=u:=by
   rw [List.map_map]
   conv=>rhs;rw [←List.map_id u]
   refine List.map_congr_left fun z hz=> ?_
   have:=s1 z hz
   show ((z.toNat:Nat):Int)=z
   omega
  have e:=iQ D h _ _ hun D.zero (by rw [eb];exact fP)
  rw [hback,eb] at e
  have s2:dr (nV zs) (0:Nat) u=((fL zs tw [] x:Nat):Int):=s2
  rw [s2] at e
  have hxx:=qZ D h (D.iU hun D.zero) hx ae
  have hl:=yu hL H.ok (u.map Int.toNat) (dM tw) (by rw [D.len];exact hun) D.zero
  have hz:lp tw (dM tw)=0:=by
   have:=hL
   unfold wb at this
   rw [Bool.and_eq_true] at this
   exact eq_of_beq this.1
  rw [hxx,hz,List.length_map] at hl
  omega
def Fk (tw:List Lv) (w:List Nat):Nat→List Nat
 | 0=>dM tw
 | k + 1=>cS (tf tw) (Fk tw w k) w
theorem vR (D:qK zs tw) {w:List Nat} (hw:∀g∈w,g < zs.length + 1):∀k,fq tw (Fk tw w k)=true
 | 0=>D.zero
 | k + 1=>D.iU hw (vR D hw k)
theorem Ei (D:qK zs tw) (h:C7 zs) {w:List Nat} (hw:∀g∈w,g < zs.length + 1):∀k,ib (nV zs) (w.map fun g:Nat=>(g:Int)) k=fL zs tw [] (Fk tw w k)
 | 0=>eb.symm
 | k + 1=>by
  rw [ib,Ei D h hw k]
  have e:((fL zs tw [] (cS (tf tw) (Fk tw w k) w):Nat):Int)=dr (nV zs) (fL zs tw [] (Fk tw w k):Nat) (w.map fun g:Nat=>(g:Int)):=iQ D h w _ hw (vR D hw k) (my D h (vR D hw k))
  rw [←e,Int.toNat_natCast];rfl
theorem Dv (D:qK zs tw) (h:C7 zs) {w:List Nat} (hw:∀g∈w,g < zs.length + 1) (k:Nat):ib (nV zs) (w.map fun g:Nat=>(g:Int)) k=0↔Fk tw w k=dM tw:=by
 rw [Ei D h hw k]
 constructor
 ·intro e
  exact qZ D h (vR D hw k) D.zero (by rw [e,eb])
 ·intro e;rw [e,eb]
theorem vB (D:qK zs tw) (h:C7 zs) {I:Nat} (hb:∀g,g < zs.length + 1→(gp I g=true↔kD I (2 ^ g)=true)) {x:List Nat} (hx:fq tw x=true):dU (mem (nV zs) (zs.length + 1) (oR zs) I).1 (fL zs tw [] x)=true↔qj I tw x=true:=by
 have H:=kq tw D.tb
 have hT:=h.leads
 have hl:(nV zs).length=zs.length + 1:=mG
 have step:∀g y,g < zs.length + 1→fq tw y=true→fL zs tw [] (tf tw g y)=kC (nV zs) (fL zs tw [] y) g:=fun g y hg hy=>by
  have:=iQ D h [g] y (by simpa using hg) hy (my D h hy)
  have e:dr (nV zs) (fL zs tw [] y:Nat) ([g].map fun g:Nat=>(g:Int))=aC (bn (nV zs) g) (fL zs tw [] y):=by simp [dr]
  have this:((fL zs tw [] (tf tw g y):Nat):Int)=dr (nV zs) (fL zs tw [] y:Nat) ([g].map fun g:Nat=>(g:Int)):=this
  rw [e] at this
  unfold kC
  omega
 constructor
 ·intro hm
  unfold mem at hm
  refine rH (mask:=I) hT hl (p:=fun c=>∀y,fq tw y=true→fL zs tw [] y=c→qj I tw y=true) (fun c hc hp g hg hbg y hy e=> ?_) _ _ _ (js fP) (fun d hd hm y hy e=> ?_) _ (my D h hx) hm x hx rfl
  ·have ho:=H.ok g y (by rw [D.len];exact hg) hy
   have e2:=step g y hg hy
   have hinv:=h.DP g (by rw [hl];exact hg) c hc
   have e3:fL zs tw [] (tf tw g y)=c:=by
    have hi2:aC (bn (nV zs) g) (aC (bn (nV zs) g) c).toNat=(c:Int):=hinv
    rw [e2,e]
    unfold kC
    rw [hi2,Int.toNat_natCast]
   have:=oE tw D.tb D.sb g _ (by rw [D.len];exact hg) ((hb g hg).1 hbg) ho (hp _ ho e3)
   rw [H.inv g y (by rw [D.len];exact hg) hy] at this
   exact this
  ·have hd0:d=0:=by
    have h1:(mStart (oR zs)).1=(List.replicate (oR zs) false).set 0 true:=rfl
    rw [h1,dw] at hm
    split at hm
    ·rename_i h2;exact h2.1.symm
    ·exfalso
     have h3:dU (List.replicate (oR zs) false) d=false:=by
      unfold dU
      rw [List.getD_eq_getElem?_getD,List.getElem?_replicate]
      split<;>rfl
     rw [h3] at hm;cases hm
   have:=qZ D h hy D.zero (by rw [e,hd0,eb])
   rw [this];exact sz I tw D.sb (jR tw D.ub)
 ·intro hs
  obtain ⟨w,hw,rfl⟩:=Dg tw D.tb D.ub D.sb x hx hs
  rw [D.len] at hw
  clear hx hs
  have:∀(w:List Nat) (y:List Nat),(∀g∈w,g < zs.length + 1∧kD I (2 ^ g)=true)→fq tw y=true→dU (mem (nV zs) (zs.length + 1) (oR zs) I).1 (fL zs tw [] y)=true→dU (mem (nV zs) (zs.length + 1) (oR zs) I).1 (fL zs tw [] (cS (tf tw) y w))=true:=by
   intro w
   induction w with
   | nil=>intro y _ _ h;exact h
   | cons g w ih=>
    intro y hw hy hm
    obtain ⟨g1,g2⟩:=hw g (by simp)
    refine ih (tf tw g y) (fun z hz=>hw z (by simp [hz])) (H.ok g y (by rw [D.len];exact g1) hy) ?_
    rw [step g y g1 hy]
    exact r7 hT hl fP (my D h hy) hm g1 ((hb g g1).2 g2)
  exact this w _ hw D.zero (by rw [eb];exact wO hT hl fP)
end
end Go.Proofs.YtekbhbcgoadciaaGreat
namespace Go.Proofs.YtekbhbcgoadciaaGreat
open Go.RowKit
theorem nP {lo hi:Nat} {a w w':World} {row:Option Nat} (h:fw lo hi a w) (hg:w.grownBy w' row) (hr:∀g,row=some g→a.heap.size≤g):fw lo hi a w':=
 ⟨hg.os.trans h.os,hg.tape.trans h.tape,hg.output.trans h.output,Nat.le_trans h.size hg.size,fun k hk hd=>(hg.block k (Nat.lt_of_lt_of_le hk h.size) (fun e=>by have:=hr k e.symm;omega)).trans (h.block k hk hd)⟩
theorem Src.grown {w w':World} {sb:Nat} {row:Option Nat} (h:Src w sb) (hg:w.grownBy w' row) (hr:∀g,row=some g→sb < g):Src w' sb:=by
 obtain ⟨ao,n,c,k,hh,h1,h2,h3,h4⟩:=h.box
 have hlt:=h1.lt
 refine ⟨ao,n,c,k,hh,(hg.block sb hlt (fun e=>by have:=hr sb e.symm;omega)).trans h1,h2,h3,h4.1,fun hn=> ?_⟩
 obtain ⟨b,off,e,hb,hc⟩:=h4.2 hn
 refine ⟨b,off,e,hb,fun j hj=> ?_⟩
 obtain ⟨x,hx,hcx⟩:=hc j hj
 exact ⟨x,hx,(World.cell?_of_block (hg.block b (World.block_lt_of_cell? w _ hcx) (fun e=>by have:=hr b e.symm;omega))).trans hcx⟩
theorem wZ (sb:Nat) (ao:Option Addr) (n c:Nat) (zs:List Int) (w:World) (h:Src w sb) (hz:dC w ao n zs) (hn:1≤n) (hn2:n≤100) (hne:bk ao≠some sb):
  Calls Tryz.prog 101 #[.pointer (some ⟨sb,0,none⟩), .slice ao n c] w fun e w'=>∃r:Nat,r < n∧e= .returned (.int .i64 (aC zs r))∧Src w' sb∧fw sb (sb + 1) w w':=by
 go_enter Tryz.func101,Tryz.ntmps101
 go_wp2_with fail
 refine (kS sb _ _ h ae).mono ?_
 rintro e w2 ⟨r,rfl, -,r2,s2,o2⟩
 have hr:=r2 ae
 have hr2:r < n:=by omega
 have hz2:dC w2 ao n zs:=hz.same fun g hg hlt=>o2.block g hlt (by
  have:g≠sb:=fun e=>by subst e;exact hne hg
  omega)
 obtain ⟨b,off,rfl,hc⟩:=hz2.at_ hr2
 clear r2 hz hz2
 go_wp2
 go_ret
 exact ⟨r,hr2,rfl,s2,o2⟩
end Go.Proofs.YtekbhbcgoadciaaGreat
namespace Go.Proofs.YtekbhbcgoadciaaGreat
open Go.RowKit
theorem Bg (ao:Option Addr) (n c:Nat) (zs:List Int) (w:World) (h:dC w ao n zs) (hn:n≤1048576):
  Calls Tryz.prog 136 #[.slice ao n c] w fun e w'=>∃ao' c',e= .returned (.slice ao' n c')∧Own w' w.heap.size 2 ao' n c' (zs.map (Value.int .i64))∧Below w.heap.size w w':=by
 have h2:dC (w.alloc (.cells #[] 2)) ao n zs:=h.below (below_alloc1 _ _)
 have H2:=Lib.hid h2
 clear h2
 go_enter Tryz.func136,Tryz.ntmps136
 go_wp2_with (at_builtin;refine nR Fh _ rfl _ _ rfl w.heap.size _ 0 0 [] rfl (Own.lf w _ (Nat.le_refl _)) ao n c zs rfl H2.out ae (by simp) ?_;intro ao2 c2 w2 ho2 hg2 hblk)
 go_ret
 refine ⟨_,_,rfl,by simpa using ho2,(below_alloc1 w _).grown hg2 (by simp) (fun g hg=> ?_)⟩
 simp [bk] at hg;omega
end Go.Proofs.YtekbhbcgoadciaaGreat
namespace Go.Proofs.YtekbhbcgoadciaaGreat
open Go.RowKit
end Go.Proofs.YtekbhbcgoadciaaGreat
namespace Go.Proofs.YtekbhbcgoadciaaGreat
open Go.RowKit
theorem Jj:ET Tryz.prog 44 24 (.slice none 0 0) 24:=⟨Tryz.underlying44,by kernel_rfl,rfl,ae⟩
end Go.Proofs.YtekbhbcgoadciaaGreat
namespace Go.Proofs.YtekbhbcgoadciaaGreat
open Go.RowKit
theorem Src.yd {w w':World} {sb:Nat} (h:Src w sb) (hs:∀g,g≤sb→w'.heap[g]? =w.heap[g]?):Src w' sb:=by
 obtain ⟨ao,n,c,k,hh,h1,h2,h3,h4⟩:=h.box
 refine ⟨ao,n,c,k,hh,(hs sb (Nat.le_refl _)).trans h1,h2,h3,h4.1,fun hn=> ?_⟩
 obtain ⟨b,off,e,hb,hc⟩:=h4.2 hn
 refine ⟨b,off,e,hb,fun j hj=> ?_⟩
 obtain ⟨x,hx,hcx⟩:=hc j hj
 exact ⟨x,hx,(World.cell?_of_block (hs b ae)).trans hcx⟩
theorem Own.AH {w w':World} {base E n c lo hi:Nat} {ao:Option Addr} {xs:List Value} (h:Own w base E ao n c xs) (ho:fw lo hi w w') (hb:hi≤base):Own w' base E ao n c xs:=
 h.same fun g hg=>ho.block g (h.lt g hg).2 (.inr (by have:=(h.lt g hg).1;omega))
theorem iu {w w':World} {lo hi:Nat} (h:Below w.heap.size w w'):fw lo hi w w':=⟨h.os,h.tape,h.output,h.size,fun k hk _=>h.block k hk⟩
def pq (w:World):List Obj→World
 | []=>w
 | o :: r=>pq (w.alloc o) r
theorem lz:∀(os:List Obj) (w:World),Below w.heap.size w (pq w os)
 | [],w=>Below.refl _ _
 | o :: r,w=>(below_alloc1 w o).trans ((lz r (w.alloc o)).mono (by simp))
theorem nQ:∀(os:List Obj) (w:World) (j:Nat),j < os.length→(pq w os).heap[w.heap.size + j]? =os[j]?
 | [],w,j,h=>by simp at h
 | o :: r,w,0,h=>by
  rw [pq,Nat.add_zero,(lz r (w.alloc o)).block w.heap.size (by simp)]
  exact heap_alloc_new w o
 | o :: r,w,j + 1,h=>by
  have:=nQ r (w.alloc o) j (by simpa using h)
  rw [pq,show w.heap.size + (j + 1)=(w.alloc o).heap.size + j by simp;omega,this]
  simp
def jk (h:Nat) (LL:List (List Int)):List Obj:=
 LL.map (fun zs=>Obj.cells (zs.map (Value.int .i64)).toArray 2) ++ [Obj.cells ((List.range LL.length).map fun j=>Value.slice (some ⟨h + j,0,none⟩) (bn LL j).length (bn LL j).length).toArray 24]
structure zG (w wr:World) (g0:Nat) (LL:List (List Int)):Prop where
 cell:∀j,j < LL.length→wr.cell? ⟨g0,j,none⟩=some (.slice (some ⟨w.heap.size + j,0,none⟩) (bn LL j).length (bn LL j).length)
 row:∀j,j < LL.length→dC wr (some ⟨w.heap.size + j,0,none⟩) (bn LL j).length (bn LL j)
 bel:Below w.heap.size w wr
theorem Bo {w W:World} {LL:List (List Int)} (hW:W=pq w (jk w.heap.size LL)) (hs:∀zs∈LL,zs.length≤100):zG w W (w.heap.size + LL.length) LL:=by
 subst hW
 have hl:(jk w.heap.size LL).length=LL.length + 1:=by simp [jk]
 refine ⟨fun j hj=> ?_,fun j hj=> ?_,lz _ _⟩
 ·have h1:=nQ (jk w.heap.size LL) w LL.length ae
  have h2:(jk w.heap.size LL)[LL.length]? =some (Obj.cells ((List.range LL.length).map fun j=>Value.slice (some ⟨w.heap.size + j,0,none⟩) (bn LL j).length (bn LL j).length).toArray 24):=by
   unfold jk
   rw [List.getElem?_append_right (by simp)];simp
  rw [h2] at h1
  rw [cell_of_row _ _ _ _ _ (0,0) h1]
  simp [hj]
 ·have h1:=nQ (jk w.heap.size LL) w j ae
  have h2:(jk w.heap.size LL)[j]? =some (Obj.cells ((bn LL j).map (Value.int .i64)).toArray 2):=by
   unfold jk
   rw [List.getElem?_append_left (by simpa using hj),List.getElem?_map,List.getElem?_eq_getElem hj,iB hj];rfl
  rw [h2] at h1
  refine ⟨rfl,by have:=hs _ (gb hj);omega,fun _=>⟨_,0,rfl,fun i hi=> ?_⟩⟩
  rw [Nat.zero_add,cell_of_row _ _ _ _ _ (0,0) h1]
  simp [List.getElem?_eq_getElem hi,cX hi]
theorem zG.only {w wr w':World} {g0 sb:Nat} {LL:List (List Int)} (h:zG w wr g0 LL) (hsb:sb < w.heap.size) (hg:w.heap.size≤g0) (ho:fw sb (sb + 1) wr w'):(∀j,j < LL.length→w'.cell? ⟨g0,j,none⟩=some (.slice (some ⟨w.heap.size + j,0,none⟩) (bn LL j).length (bn LL j).length))∧(∀j,j < LL.length→dC w' (some ⟨w.heap.size + j,0,none⟩) (bn LL j).length (bn LL j)):=by
 refine ⟨fun j hj=> ?_,fun j hj=> ?_⟩
 ·have:=h.cell j hj
  rw [World.cell?_of_block (ho.block g0 (World.block_lt_of_cell? _ _ this) (.inr ae))];exact this
 ·exact (h.row j hj).same fun g hg hl=>ho.block g hl (.inr (by simp [bk] at hg;omega))
theorem tu (w:World) (zs:List Int) (hn:zs.length≤100):dC (w.alloc (.cells (zs.map (Value.int .i64)).toArray 2)) (some ⟨w.heap.size,0,none⟩) zs.length zs:=
 ⟨rfl,ae,fun _=>⟨_,0,rfl,fun j hj=>by
  rw [Nat.zero_add,cell_of_row _ _ _ _ _ (0,0) (heap_alloc_new w _)]
  simp [List.getElem?_eq_getElem hj,cX hj]⟩⟩
theorem va {P:World→Prop} {w0:World} {Q:World→Prop} (h:Q w0) (k:∀W,Q W→P W):P w0:=k w0 h
def gB:List (List Int):= [[], [3], [4], [5], [3,3], [4,3], [3,4], [5,3], [3,5], [2], [2,3], [3,2], [6,2], [3,3,3], [2,2], [7], [3,2,3], [4,2,3], [3,3,4], [4,3,3], [2,3,3], [3,3,2], [2,2,2,2], [3,2,2]]
def jH:List (List Int):= [[0], [4,4], [3,6], [6,3], [4,3,4], [3,4,3], [3,4,3,3], [3,3,5], [5,3,3], [3,3,3,3], [4,3,3,4], [3,3,3,4], [5,5], [3,7], [0,3], [5,3,3,3], [2,0], [4,4,2], [5,3,2]]
theorem zY {zs:List Int} (h:cw zs=true):zs.length≤4:=by unfold cw at h;rw [Bool.and_eq_true] at h;have:=of_decide_eq_true h.2;omega
def wA (z:Int):Bool:=z == 0 || (decide (2≤z) && decide (z≤6))
def F3 (zs:List Int):Prop:=zs∈gB∨zs∈jH∨(zs.length≤3∧zs.all wA=true)
theorem CL {zs:List Int} {z:Int} (h:zs.all wA=true) (hz:wA z=true):(zs ++ [z]).all wA=true:=by rw [List.all_append,h];simp [hz]
theorem qX {zs:List Int} (h:F3 zs):zs.length≤4:=by
 rcases h with h | h | h
 ·exact (show ∀zs∈gB,zs.length≤4 from by decide) zs h
 ·exact (show ∀zs∈jH,zs.length≤4 from by decide) zs h
 ·omega
def Iw (w:World) (sb:Nat) (e:Ending) (w':World):Prop:=∃(ao:Option Addr) (n c:Nat) (zs:List Int),e= .returned (.slice ao n c)∧F3 zs∧Own w' w.heap.size 2 ao n c (zs.map (Value.int .i64))∧Src w' sb∧fw sb (sb + 1) w w'
theorem tN (sb:Nat) (w:World) (h:Src w sb) (hsb:sb < w.heap.size):Calls Tryz.prog 99 #[.pointer (some ⟨sb,0,none⟩)] w (Iw w sb):=by
 go_enter Tryz.func99,Tryz.ntmps99
 go_upto_region 2 with fail
 refine va (P:=fun W=>Code.wp _ _ _ _ W) (Q:=fun W=>zG w W (w.heap.size + 24) gB) (Bo (LL:=gB) rfl (by decide)) fun W hW=> ?_
 have hW:zG w W (w.heap.size + 1 + 1 + 1 + 1 + 1 + 1 + 1 + 1 + 1 + 1 + 1 + 1 + 1 + 1 + 1 + 1 + 1 + 1 + 1 + 1 + 1 + 1 + 1 + 1) gB:=hW
 have hb:=hW.bel
 have hbs:=hb.size
 have h1:Src W sb:=h.yd fun g hg=>hb.block g ae
 have hg0:w.heap.size≤w.heap.size + 1 + 1 + 1 + 1 + 1 + 1 + 1 + 1 + 1 + 1 + 1 + 1 + 1 + 1 + 1 + 1 + 1 + 1 + 1 + 1 + 1 + 1 + 1 + 1:=by omega
 have hgl:w.heap.size + 1 + 1 + 1 + 1 + 1 + 1 + 1 + 1 + 1 + 1 + 1 + 1 + 1 + 1 + 1 + 1 + 1 + 1 + 1 + 1 + 1 + 1 + 1 + 1 < W.heap.size:=World.block_lt_of_cell? _ _ (hW.cell 0 (by decide))
 have hlen:gB.length=24:=rfl
 generalize w.heap.size + 1 + 1 + 1 + 1 + 1 + 1 + 1 + 1 + 1 + 1 + 1 + 1 + 1 + 1 + 1 + 1 + 1 + 1 + 1 + 1 + 1 + 1 + 1 + 1=g0 at *
 have hO0:fw sb (sb + 1) w W:=⟨hb.os,hb.tape,hb.output,hb.size,fun k hk _=>hb.block k hk⟩
 go_wp2_with fail
 refine (kS sb _ _ h1 ae).mono ?_
 rintro e w2 ⟨r,rfl, -,r2,s2,o2⟩
 have hr:=r2 ae
 obtain ⟨c2,i2⟩:=hW.only hsb hg0 o2
 have O2:=hO0.trans o2
 clear r2 hW hb h1 hO0
 have cases6:r=0∨r=1∨(2≤r∧r < 6):=by omega
 rcases cases6 with rfl | rfl | ⟨hr2,hr6⟩
 ·have z2:=O2.size
  clear c2 i2 hlen
  go_upto_region 5 with fail
  refine va (P:=fun W=>Code.wp _ _ _ _ W) (Q:=fun W=>zG w2 W (w2.heap.size + 19) jH) (Bo (LL:=jH) rfl (by decide)) fun W5 hW=> ?_
  have hW:zG w2 W5 (w2.heap.size + 1 + 1 + 1 + 1 + 1 + 1 + 1 + 1 + 1 + 1 + 1 + 1 + 1 + 1 + 1 + 1 + 1 + 1 + 1) jH:=hW
  have hb:=hW.bel
  have hbs5:=hb.size
  have h5:Src W5 sb:=s2.yd fun g hg=>hb.block g ae
  have hg5:w2.heap.size≤w2.heap.size + 1 + 1 + 1 + 1 + 1 + 1 + 1 + 1 + 1 + 1 + 1 + 1 + 1 + 1 + 1 + 1 + 1 + 1 + 1:=by omega
  have hgl5:w2.heap.size + 1 + 1 + 1 + 1 + 1 + 1 + 1 + 1 + 1 + 1 + 1 + 1 + 1 + 1 + 1 + 1 + 1 + 1 + 1 < W5.heap.size:=World.block_lt_of_cell? _ _ (hW.cell 0 (by decide))
  have hlen:jH.length=19:=rfl
  generalize w2.heap.size + 1 + 1 + 1 + 1 + 1 + 1 + 1 + 1 + 1 + 1 + 1 + 1 + 1 + 1 + 1 + 1 + 1 + 1 + 1=g5 at *
  have O5:=O2.trans (iu hb)
  clear hb
  go_wp2_with fail
  refine (kS sb _ _ h5 ae).mono ?_
  rintro e w3 ⟨q,rfl, -,q2,s3,o3⟩
  have hq:=q2 ae
  obtain ⟨c2,i2⟩:=hW.only ae hg5 o3
  have c3:=c2 q ae
  have i3:=i2 q ae
  have hd:F3 (bn jH q):= .inr (.inl (gb (zss:=jH) (k:=q) ae))
  have hln:(bn jH q).length≤1048576:=by have:=qX hd;omega
  have O3:=O5.trans o3
  have s30:=O3.size
  clear q2 c2 i2 o3 O5 O2 s2 hW
  generalize bn jH q=zs at *
  go_wp2_with fail
  refine (Bg _ _ _ zs _ i3 hln).mono ?_
  rintro e w4 ⟨a4,c4,rfl,o4,b4⟩
  go_wp2
  go_ret
  exact ⟨_,_,_,zs,rfl,hd,o4.mono s30,s3.yd fun g hg=>b4.block g ae,O3.trans (iu b4)⟩
 ·have z2:=O2.size
  clear c2 i2 hlen
  have s2':Src (w2.alloc (.cells #[] 2)) sb:=s2.yd fun g hg=>Below.heap_alloc w2 _ g ae
  have P2:Own (w2.alloc (.cells #[] 2)) w.heap.size 2 (some ⟨w2.heap.size,0,none⟩) 0 0 []:=Own.lf w2 2 z2
  have O2':fw sb (sb + 1) w (w2.alloc (.cells #[] 2)):=O2.trans (iu (below_alloc1 _ _))
  clear O2 s2
  go_wp2_with fail
  refine (kS sb _ _ s2' ae).mono ?_
  rintro e w3 ⟨m,rfl, -,q2,s3,o3⟩
  have hm:=q2 ae
  have P3:=P2.AH o3 ae
  have O3:=O2'.trans o3
  clear q2 s2' P2 o3 O2'
  go_wp2_with fail
  go_loopw [5,6] (fun ov kv wr=>∃(k a:Nat) (ao:Option Addr) (c:Nat) (zs:List Int),kv= .int .i64 k∧ov= .slice ao a c∧a + k≤3∧zs.all wA=true∧Own wr w.heap.size 2 ao a c (zs.map (Value.int .i64))∧Src wr sb∧fw sb (sb + 1) w wr) (fun _ kv _=>(intOf kv).toNat)
  case atStart=>exact ⟨m,0,_,_, [],rfl,rfl,ae,rfl,P3,s3,O3⟩
  case round=>
   clear P3 s3 O3
   obtain ⟨k,a,ao,c,zs,rfl,rfl,hak,hz,ho,hs,hO⟩:=hrel
   have hsz:=hO.size
   have hol:=ho.lt
   by_cases hk:0 < k
   ·have pick:∀r,r < 7→wA (aC [2,3,3,4,5,6,0] r)=true:=by decide
    have iL:dC (wr.alloc (.cells #[.int .i64 2, .int .i64 3, .int .i64 3, .int .i64 4, .int .i64 5, .int .i64 6, .int .i64 0] 2)) (some ⟨wr.heap.size,0,none⟩) 7 [2,3,3,4,5,6,0]:=tu wr [2,3,3,4,5,6,0] (by decide)
    have s4:Src (wr.alloc (.cells #[.int .i64 2, .int .i64 3, .int .i64 3, .int .i64 4, .int .i64 5, .int .i64 6, .int .i64 0] 2)) sb:=hs.yd fun g hg=>Below.heap_alloc wr _ g ae
    have P4:=ho.alloc (.cells #[.int .i64 2, .int .i64 3, .int .i64 3, .int .i64 4, .int .i64 5, .int .i64 6, .int .i64 0] 2)
    have O4:=hO.trans (iu (lo:=sb) (hi:=sb + 1) (below_alloc1 wr (.cells #[.int .i64 2, .int .i64 3, .int .i64 3, .int .i64 4, .int .i64 5, .int .i64 6, .int .i64 0] 2)))
    have HP:=Lib.hid pick
    clear pick hs ho hO
    go_wp2_with (first | (go_at_call 101;refine (wZ sb _ 7 _ _ _ s4 iL ae ae (by simp [bk];omega)).mono ?_;rintro e w5 ⟨q,hq,rfl,s5,o5⟩;have P5:=Lib.hid (P4.AH o5 ae);have O5:=O4.trans o5;have z5:=O5.size) | (at_builtin;refine lC Fh _ rfl _ _ rfl w.heap.size ao a c _ rfl P5.out (.int .i64 (aC [2,3,3,4,5,6,0] q)) rfl rfl ae ae ?_;intro ao2 c2 w6 ho2 hg2 hblk))
    have HO:=Lib.hid ho2
    have s6:=s5.grown hg2 (fun g hg=>by have:=(hol g hg).1;omega)
    have O6:=nP O5 hg2 (fun g hg=>(hol g hg).1)
    have HL:=Lib.hid (CL hz (HP.out q hq))
    clear ho2 hblk s5 O5 hg2 hz
    generalize aC [2,3,3,4,5,6,0] q=z at *
    go_wp2
    go_roundw
    case rel=>exact ⟨k - 1,a + 1,ao2,c2,zs ++ [z],by go_num,rfl,ae,HL.out,by rw [List.map_append];exact HO.out,s6,O6⟩
    case measure=>simp [intOf];omega
   ·obtain rfl:k=0:=by omega
    have hl:zs.length=a:=by have:=ho.len;simpa using this
    have hdg:F3 zs:= .inr (.inr ⟨ae,hz⟩)
    go_wp2
    go_ret
    exact ⟨_,_,_,zs,rfl,hdg,ho,hs,hO⟩
 ·have e0:((r:Int) == 0)=false:=by rw [beq_eq_false_iff_ne];omega
  have e1:((r:Int) == 1)=false:=by rw [beq_eq_false_iff_ne];omega
  go_wp2_with fail
  refine (kS sb _ _ s2 ae).mono ?_
  rintro e w3 ⟨q,rfl, -,q2,s3,o3⟩
  have hq:=q2 ae
  have c3:w3.cell? ⟨g0,q,none⟩=some (.slice (some ⟨w.heap.size + q,0,none⟩) (bn gB q).length (bn gB q).length):=by
   have:=c2 q ae
   rw [World.cell?_of_block (o3.block g0 (World.block_lt_of_cell? _ _ this) (.inr ae))];exact this
  have i3:dC w3 (some ⟨w.heap.size + q,0,none⟩) (bn gB q).length (bn gB q):=(i2 q ae).same fun g hg hl=>o3.block g hl (.inr (by simp [bk] at hg;omega))
  have hd:F3 (bn gB q):= .inl (gb (zss:=gB) (k:=q) ae)
  have hln:(bn gB q).length≤1048576:=by have:=qX hd;omega
  have O3:=O2.trans o3
  have s30:=O3.size
  clear q2 c2 i2 o3 o2 O2 s2
  generalize bn gB q=zs at *
  go_wp2_with fail
  refine (Bg _ _ _ zs _ i3 hln).mono ?_
  rintro e w4 ⟨a4,c4,rfl,o4,b4⟩
  go_wp2
  go_ret
  exact ⟨_,_,_,zs,rfl,hd,o4.mono s30,s3.yd fun g hg=>b4.block g ae,O3.trans ⟨b4.os,b4.tape,b4.output,b4.size,fun k hk _=>b4.block k hk⟩⟩
def I2 (zs:List Int):Prop:=F3 zs∨(∃(ys:List Int) (z:Int),F3 ys∧z∈([1, -1,33]:List Int)∧zs=ys ++ [z])∨∃ys:List Int,F3 ys∧zs=ys ++ [2,2,2]
def H9 (w:World) (sb:Nat) (e:Ending) (w':World):Prop:=∃(ao:Option Addr) (n c:Nat) (zs:List Int),e= .returned (.slice ao n c)∧I2 zs∧Own w' w.heap.size 2 ao n c (zs.map (Value.int .i64))∧Src w' sb∧fw sb (sb + 1) w w'
theorem vJ (sb:Nat) (w:World) (h:Src w sb) (hsb:sb < w.heap.size):Calls Tryz.prog 97 #[.pointer (some ⟨sb,0,none⟩)] w (H9 w sb):=by
 go_enter Tryz.func97,Tryz.ntmps97
 go_wp2_with fail
 refine (tN sb _ h hsb).mono ?_
 rintro e w1 ⟨ao,n,c,zs,rfl,hd,o1,s1,O1⟩
 have z1:=O1.size
 have hf:=qX hd
 have hn:zs.length=n:=by have:=o1.len;simpa using this
 have HD:=Lib.hid hd
 clear hd
 go_wp2_with fail
 refine (kS sb _ _ s1 ae).mono ?_
 rintro e w2 ⟨r,rfl, -, -,s2,o2⟩
 have O2:=O1.trans o2
 have z2:=O2.size
 have P2:=o1.AH o2 ae
 have hol:=P2.lt
 clear o1 s1 O1 o2
 by_cases h0:r=0
 ·have e0:((r:Int) == 0)=true:=by rw [h0];rfl
  have iL:dC (w2.alloc (.cells #[.int .i64 1, .int .i64 (-1), .int .i64 33] 2)) (some ⟨w2.heap.size,0,none⟩) 3 [1, -1,33]:=tu w2 [1, -1,33] (by decide)
  have s4:Src (w2.alloc (.cells #[.int .i64 1, .int .i64 (-1), .int .i64 33] 2)) sb:=s2.yd fun g hg=>Below.heap_alloc w2 _ g ae
  have P4:=P2.alloc (.cells #[.int .i64 1, .int .i64 (-1), .int .i64 33] 2)
  have O4:=O2.trans (iu (lo:=sb) (hi:=sb + 1) (below_alloc1 w2 (.cells #[.int .i64 1, .int .i64 (-1), .int .i64 33] 2)))
  clear s2 P2 O2 h0
  go_wp2_with (first | (go_at_call 101;refine (wZ sb _ 3 _ _ _ s4 iL ae ae (by simp [bk];omega)).mono ?_;rintro e w5 ⟨q,hq,rfl,s5,o5⟩;have P5:=Lib.hid (P4.AH o5 ae);have O5:=O4.trans o5;have z5:=O5.size) | (at_builtin;refine lC Fh _ rfl _ _ rfl w.heap.size ao n c _ rfl P5.out (.int .i64 (aC [1, -1,33] q)) rfl rfl ae ae ?_;intro ao2 c2 w6 ho2 hg2 hblk))
  have HO:=Lib.hid ho2
  have s6:=s5.grown hg2 (fun g hg=>by have:=(hol g hg).1;omega)
  have O6:=nP O5 hg2 (fun g hg=>(hol g hg).1)
  clear ho2 hblk s5 O5 hg2
  have HZ:=Lib.hid ((show ∀r,r < 3→aC [1, -1,33] r∈([1, -1,33]:List Int) from by decide) q hq)
  generalize aC [1, -1,33] q=z at *
  go_wp2
  go_ret
  exact ⟨_,_,_,zs ++ [z],rfl, .inr (.inl ⟨zs,z,HD.out,HZ.out,rfl⟩),by rw [List.map_append];exact HO.out,s6,O6⟩
 ·have e0:((r:Int) == 0)=false:=by rw [beq_eq_false_iff_ne];omega
  by_cases h1:r=1
  ·have e1:((r:Int) == 1)=true:=by rw [h1];rfl
   have iL:dC (w2.alloc (.cells #[.int .i64 2, .int .i64 2, .int .i64 2] 2)) (some ⟨w2.heap.size,0,none⟩) 3 [2,2,2]:=tu w2 [2,2,2] (by decide)
   have P4:=Lib.hid (P2.alloc (.cells #[.int .i64 2, .int .i64 2, .int .i64 2] 2))
   have s4:Src (w2.alloc (.cells #[.int .i64 2, .int .i64 2, .int .i64 2] 2)) sb:=s2.yd fun g hg=>Below.heap_alloc w2 _ g ae
   have O4:=O2.trans (iu (lo:=sb) (hi:=sb + 1) (below_alloc1 w2 (.cells #[.int .i64 2, .int .i64 2, .int .i64 2] 2)))
   have z4:=O4.size
   clear s2 P2 O2 h0 h1
   go_wp2_with (at_builtin;refine nR Fh _ rfl _ _ rfl w.heap.size ao n c _ rfl P4.out _ 3 3 _ rfl iL ae z4 ?_;intro ao2 c2 w6 ho2 hg2 hblk)
   have HO:=Lib.hid ho2
   have s6:=s4.grown hg2 (fun g hg=>by have:=(hol g hg).1;omega)
   have O6:=nP O4 hg2 (fun g hg=>(hol g hg).1)
   clear ho2 hblk s4 O4 hg2
   go_wp2
   go_ret
   exact ⟨_,_,_,zs ++ [2,2,2],rfl, .inr (.inr ⟨zs,HD.out,rfl⟩),by rw [List.map_append];exact HO.out,s6,O6⟩
  ·have e1:((r:Int) == 1)=false:=by rw [beq_eq_false_iff_ne];omega
   go_wp2
   go_ret
   exact ⟨_,_,_,zs,rfl, .inl HD.out,P2,s2,O2⟩
end Go.Proofs.YtekbhbcgoadciaaGreat
namespace Go.Proofs.YtekbhbcgoadciaaGreat
abbrev eO:=List (Nat×List Int)
def dz (ps:eO) (k:Nat):Nat×List Int:=ps.getD k (0, [])
theorem nZ {ps:eO} {k:Nat} (h:k < ps.length):dz ps k=ps[k]:=by simp [dz,h]
theorem mb {ps:eO} {k:Nat} (h:k < ps.length):dz ps k∈ps:=by rw [nZ h];exact List.getElem_mem h
def jn (zs:List Int) (mask i:Nat):Bool:=decide (0 < i) && (gp mask (i - 1) && !(aC zs (i - 1) == 2))
def Bi (ps:eO) (i:Nat) (z:Int):eO:=ps.set (ps.length - 1) ((dz ps (ps.length - 1)).1 ||| 2 ^ i,(dz ps (ps.length - 1)).2 ++ [z])
def rr (zs:List Int) (mask:Nat) (ps:eO) (i:Nat):eO:=if gp mask i then (if jn zs mask i then Bi ps i (aC zs (i - 1)) else ps ++ [(2 ^ i, [])]) else ps
def vN (zs:List Int) (mask n:Nat):eO:=(List.range n).foldl (rr zs mask) []
def comps (zs:List Int) (mask:Nat):eO:=vN zs mask (zs.length + 1)
theorem sM (zs:List Int) (mask i:Nat):vN zs mask (i + 1)=rr zs mask (vN zs mask i) i:=by unfold vN;rw [List.range_succ,List.foldl_append];rfl
def iy (ps:eO):Nat:=(ps.map fun p=>p.2.length + 1).sum
theorem rI (a b:eO):iy (a ++ b)=iy a + iy b:=by simp [iy]
theorem xF:∀(ps:eO) (k:Nat) (p:Nat×List Int),k < ps.length→iy (ps.set k p) + ((dz ps k).2.length + 1)=iy ps + (p.2.length + 1)
 | [],k,_,h=>by simp at h
 | a :: r,0,p,_=>by simp [iy,dz];omega
 | a :: r,k + 1,p,h=>by
  have:=xF r k p (by simpa using h)
  simp [iy,dz] at this ⊢
  omega
theorem rj:∀ {ps:eO} {p:Nat×List Int},p∈ps→p.2.length + 1≤iy ps
 | a :: r,p,h=>by
  rcases List.mem_cons.1 h with rfl | h
  ·simp [iy]
  ·have:=rj h;simp [iy] at this ⊢;omega
theorem iO:∀(ps:eO),ps.length≤iy ps
 | []=>by simp [iy]
 | a :: r=>by have:=iO r;simp [iy] at this ⊢;omega
structure Kg (zs:List Int) (mask i:Nat) (ps:eO):Prop where
 lt:∀p∈ps,p.1 < 2 ^ i
 lab:∀p∈ps,∀z∈p.2,z∈zs∧z≠2
 sum:iy ps≤i
 ne:0 < i→gp mask (i - 1)=true→0 < ps.length
theorem GV {a i:Nat} (h:a < 2 ^ i):a ||| 2 ^ i < 2 ^ (i + 1):=Nat.or_lt_two_pow (Nat.lt_of_lt_of_le h (Nat.pow_le_pow_right (by decide) ae)) (Nat.pow_lt_pow_right (by decide) ae)
theorem vx {zs:List Int} {mask i:Nat} (h:jn zs mask i=true):0 < i∧gp mask (i - 1)=true∧aC zs (i - 1)≠2:=by
 unfold jn at h;simpa using h
theorem wm (zs:List Int) (mask:Nat):∀i,i≤zs.length + 1→Kg zs mask i (vN zs mask i)
 | 0,_=>⟨fun p hp=>(nomatch hp),fun p hp=>(nomatch hp),by simp [vN,iy],fun h=>absurd h ae⟩
 | i + 1,hi=>by
  have h:=wm zs mask i ae
  have h2:2 ^ i < 2 ^ (i + 1):=Nat.pow_lt_pow_right (by decide) ae
  rw [sM]
  generalize vN zs mask i=ps at *
  unfold rr
  split
  ·split
   ·rename_i hj
    obtain ⟨j1,j2,j3⟩:=vx hj
    have hne:=h.ne j1 j2
    have hk:ps.length - 1 < ps.length:=by omega
    have hmem:=mb hk
    unfold Bi
    refine ⟨fun p hp=> ?_,fun p hp=> ?_, ?_,fun _ _=>by rw [List.length_set];exact hne⟩
    ·rcases List.mem_or_eq_of_mem_set hp with hp | rfl
     ·exact Nat.lt_trans (h.lt p hp) h2
     ·exact GV (h.lt _ hmem)
    ·rcases List.mem_or_eq_of_mem_set hp with hp | rfl
     ·exact h.lab p hp
     ·intro z hz
      rcases List.mem_append.1 hz with hz | hz
      ·exact h.lab _ hmem z hz
      ·obtain rfl:z=aC zs (i - 1):=by simpa using hz
       exact ⟨eH ae,j3⟩
    ·have:=xF ps (ps.length - 1) ((dz ps (ps.length - 1)).1 ||| 2 ^ i,(dz ps (ps.length - 1)).2 ++ [aC zs (i - 1)]) hk
     have h3:=h.sum
     simp only [List.length_append,List.length_singleton] at this
     omega
   ·refine ⟨fun p hp=> ?_,fun p hp=> ?_, ?_,fun _ _=>by simp⟩
    ·rcases List.mem_append.1 hp with hp | hp
     ·exact Nat.lt_trans (h.lt p hp) h2
     ·obtain rfl:p=(2 ^ i, []):=by simpa using hp
      exact h2
    ·rcases List.mem_append.1 hp with hp | hp
     ·exact h.lab p hp
     ·obtain rfl:p=(2 ^ i, []):=by simpa using hp
      intro z hz;cases hz
    ·rw [rI];have h3:=h.sum;simp [iy] at h3 ⊢;omega
  ·rename_i hb
   refine ⟨fun p hp=>Nat.lt_trans (h.lt p hp) h2,h.lab,by have:=h.sum;omega,fun _ h'=> ?_⟩
   rw [Nat.add_sub_cancel] at h';exact absurd h' hb
theorem jE (zs:List Int) (mask:Nat):Kg zs mask (zs.length + 1) (comps zs mask):=wm zs mask _ (Nat.le_refl _)
def bQ (part list:List Int):Bool:=part == list || part == list.reverse
theorem gf {part list:List Int} :bQ part list=true↔part=list∨part=list.reverse:=by simp [bQ]
def gm (n:Nat) (step:Int):List Int:=(List.range n).map fun i:Nat=>2 + step * i
theorem jt (n:Nat) (step:Int):gm (n + 1) step=gm n step ++ [2 + step * n]:=by simp [gm,List.range_succ]
theorem dt (n:Nat) (step:Int):(gm n step).length=n:=by simp [gm]
def dA (part:List Int):List Int:=
 if part.length=0 then [2]
 else if part.length=1∧0 < aC part 0 then [2,aC part 0]
 else if bQ part [3,5] then [2,6,10]
 else if bQ part [3,3,5] then [2,12,20,30]
 else if bQ part [3,4,3] then [2,6,8,12]
 else if part=List.replicate part.length 3 then gm (part.length + 1) 1
 else if bQ part ((List.replicate part.length (3:Int)).set 0 4) then gm (part.length + 1) 2
 else []
def zk (part:List Int):Bool:=bQ part [0] || (bQ part [4,4] || (bQ part [3,6] || (bQ part [4,3,4] || (bQ part [3,4,3,3] || bQ part [4,3,3,4]))))
def nz (part:List Int):Prop:=part.length≤4∧∀z∈part,0≤z∧z≤32∧z≠1∧z≠2
theorem Dk (part:List Int) (h:part.length≤4):(dA part).length=0∨(dA part).length=part.length + 1:=by
 unfold dA
 split
 ·right;rename_i h;simp [h]
 split
 ·right;rename_i h;simp [h.1]
 split
 ·rename_i h;rcases gf.1 h with rfl | rfl<;>exact .inr rfl
 split
 ·rename_i h;rcases gf.1 h with rfl | rfl<;>exact .inr rfl
 split
 ·rename_i h;rcases gf.1 h with rfl | rfl<;>exact .inr rfl
 split
 ·exact .inr (dt _ _)
 split
 ·exact .inr (dt _ _)
 ·exact .inl rfl
theorem qU {part:List Int} (hp:nz part):∀d∈dA part,2≤d∧d≤32:=by
 have hramp:∀step:Int,(step=1∨step=2)→∀d∈gm (part.length + 1) step,2≤d∧d≤32:=fun step hs d hd=>by
  unfold gm at hd
  rw [List.mem_map] at hd
  obtain ⟨i,hi,rfl⟩:=hd
  have hi:=List.mem_range.1 hi
  have:=hp.1
  rcases hs with rfl | rfl<;>omega
 unfold dA
 split
 ·intro d hd;simp at hd;omega
 split
 ·rename_i h1 h2
  intro d hd
  have:=hp.2 _ (eH (zs:=part) (k:=0) ae)
  simp at hd;omega
 split
 ·intro d hd;simp at hd;omega
 split
 ·intro d hd;simp at hd;omega
 split
 ·intro d hd;simp at hd;omega
 split
 ·exact hramp 1 (.inl rfl)
 split
 ·exact hramp 2 (.inr rfl)
 ·intro d hd;cases hd
def ends (part:List Int):List Int:=if aC part 0=3 then part else part.reverse
def fE (part:List Int):Bool:=(List.range (part.length - 1)).all fun i=>aC (ends part) i == 3
def yK (part:List Int):List Int:=if fE part then (if aC (ends part) (part.length - 1)=3 then gm (part.length + 1) 1 else if aC (ends part) (part.length - 1)=4 then gm (part.length + 1) 2 else []) else []
theorem Eb {part:List Int} (h2:2≤part.length) (h4:part.length≤4):yK part=if part=List.replicate part.length 3 then gm (part.length + 1) 1 else if bQ part ((List.replicate part.length (3:Int)).set 0 4) then gm (part.length + 1) 2 else []:=by
 match part,h2,h4 with
 | [a,b],_,_=>
  simp only [yK,fE,ends,bQ,aC,List.length_cons,List.length_nil]
  simp [List.range_succ,List.replicate]
  by_cases ha:a=3<;>by_cases hb:b=3<;>by_cases ha4:a=4<;>by_cases hb4:b=4<;>simp_all
 | [a,b,c],_,_=>
  simp only [yK,fE,ends,bQ,aC,List.length_cons,List.length_nil]
  simp [List.range_succ,List.replicate]
  by_cases ha:a=3<;>by_cases hb:b=3<;>by_cases hc:c=3<;>by_cases ha4:a=4<;>by_cases hc4:c=4<;>simp_all
 | [a,b,c,d],_,_=>
  simp only [yK,fE,ends,bQ,aC,List.length_cons,List.length_nil]
  simp [List.range_succ,List.replicate]
  by_cases ha:a=3<;>by_cases hb:b=3<;>by_cases hc:c=3<;>by_cases hd:d=3<;>by_cases ha4:a=4<;>by_cases hd4:d=4<;>simp_all
end Go.Proofs.YtekbhbcgoadciaaGreat
namespace Go.Proofs.YtekbhbcgoadciaaGreat
open Go.RowKit
theorem FU (mask g:Nat):((((mask / 2 ^ g) &&& 1:Nat):Int) == 1)=gp mask g:=by
 unfold gp
 rw [Nat.and_one_is_mod]
 rcases Nat.mod_two_eq_zero_or_one (mask / 2 ^ g) with h | h<;>rw [h]<;>rfl
theorem eW {P:Program} {nt:Nat} {S:St} {t:Nat} {ty:TypeId} {ps:String} {af:Array Edge} {gd:Option (Nat×Bool)} {x:Operand} {xt yt:TypeId} {mask g:Nat} (ht:Nat.blt t nt=true) (hx:S.op x=some (vv (I6 ((mask / 2 ^ g:Nat):Int)))) (hm:mask < 1000000):
  cu P nt ⟨some t, .binOp .and xt x (.const (I6 1)) yt,ty,ps,af,gd⟩ S (S.put t (vv (I6 (((mask / 2 ^ g) &&& 1:Nat):Int)))):=
 l0 ht hx rfl (Nat.lt_of_le_of_lt (Nat.div_le_self _ _) hm) (by decide)
theorem fR {P:Program} {nt:Nat} {S:St} {t:Nat} {ty:TypeId} {ps:String} {af:Array Edge} {gd:Option (Nat×Bool)} {x:Operand} {xt yt:TypeId} {mask g:Nat} (ht:Nat.blt t nt=true) (hx:S.op x=some (vv (I6 (((mask / 2 ^ g) &&& 1:Nat):Int)))):
  cu P nt ⟨some t, .binOp .eql xt x (.const (I6 1)) yt,ty,ps,af,gd⟩ S (S.put t (vv (.bool (gp mask g)))):=by
 rw [←FU]
 exact aG ht hx rfl rfl
theorem gE {P:Program} {nt:Nat} {S:St} {t:Nat} {ty:TypeId} {ps:String} {af:Array Edge} {gd:Option (Nat×Bool)} {x:Operand} {xt yt:TypeId} {mask g:Nat} (ht:Nat.blt t nt=true) (hx:S.op x=some (vv (I6 (((mask / 2 ^ g) &&& 1:Nat):Int)))):
  cu P nt ⟨some t, .binOp .eql xt x (.const (I6 0)) yt,ty,ps,af,gd⟩ S (S.put t (vv (.bool (!gp mask g)))):=by
 have h:(!gp mask g)=((((mask / 2 ^ g) &&& 1:Nat):Int) == 0):=by
  unfold gp
  rw [Nat.and_one_is_mod]
  rcases Nat.mod_two_eq_zero_or_one (mask / 2 ^ g) with h | h<;>rw [h]<;>rfl
 rw [h]
 exact aG ht hx rfl rfl
theorem xi (a b:Nat) (ha:a < 1000000) (hb:b < 1000000):bits .or .i64 (a:Int) (b:Int)=((a ||| b:Nat):Int):=by
 have hx:a ||| b < 2 ^ 20:=Nat.or_lt_two_pow ae ae
 have h1:(BitVec.ofInt 64 (a:Int)).toNat=a:=by
  rw [BitVec.ofInt_natCast,BitVec.toNat_ofNat];exact Nat.mod_eq_of_lt ae
 have h2:(BitVec.ofInt 64 (b:Int)).toNat=b:=by
  rw [BitVec.ofInt_natCast,BitVec.toNat_ofNat];exact Nat.mod_eq_of_lt ae
 show IntKind.i64.wrap ((BitVec.ofInt 64 (a:Int) ||| BitVec.ofInt 64 (b:Int)).toNat:Int)=_
 rw [BitVec.toNat_or,h1,h2,IntKind.wrap_i64]
 omega
section
variable {P:Program} {nt:Nat} {S S' S2:St} {t:Nat} {ty:TypeId} {ps:String} {af:Array Edge} {gd:Option (Nat×Bool)} {x y:Operand} {o:Oper}
theorem vu {xt yt:TypeId} {a b:Nat} (ht:Nat.blt t nt=true) (hx:S.op x=some (vv (I6 (a:Int)))) (hy:S.op y=some (vv (I6 (b:Int)))) (ha:a < 1000000) (hb:b < 1000000):
  cu P nt ⟨some t, .binOp .or xt x y yt,ty,ps,af,gd⟩ S (S.put t (vv (I6 ((a ||| b:Nat):Int)))):=
 cu.pure rfl ht fun _ _ η _ s w hs=>by
  refine ⟨I6 ((a ||| b:Nat):Int), ?_,rfl⟩
  have hb':=xi a b ha hb
  have e:Op.intBits .or .i64 (a:Int) (b:Int)=pure (I6 ((a ||| b:Nat):Int)):=by rw [←hb'];rfl
  simp [execOp,hs.gQ hx,hs.gQ hy,eqGuard,binOp,e]
theorem yS {xt yt:TypeId} {kk:IntKind} {g:Nat} (ht:Nat.blt t nt=true) (hx:S.op x=some (vv (I6 2))) (hy:S.op y=some (vv (.int kk (g:Int)))) (hg:g≤5):
  cu P nt ⟨some t, .binOp .shl xt x y yt,ty,ps,af,gd⟩ S (S.put t (vv (I6 ((2 ^ (g + 1):Nat):Int)))):=
 cu.pure rfl ht fun _ _ η _ s w hs=>by
  refine ⟨I6 ((2 ^ (g + 1):Nat):Int), ?_,rfl⟩
  have e:∀g:Nat,g≤5→Op.shift .shl .i64 2 kk (g:Int)=pure (I6 ((2 ^ (g + 1):Nat):Int)):=fun g hg=>by
   rw [shift_shl_i64 (x:=2) (y:=(g:Int)) (yk:=kk) (Int.natCast_nonneg g) ae,Int.toNat_natCast]
   match g,hg with
   | 0,_=>rfl
   | 1,_=>rfl
   | 2,_=>rfl
   | 3,_=>rfl
   | 4,_=>rfl
   | 5,_=>rfl
  have e:=e g hg
  have hw:IntKind.i64.wrap (2 * 2 ^ g)=2 ^ (g + 1):=by
   match g,hg with
   | 0,_=>rfl
   | 1,_=>rfl
   | 2,_=>rfl
   | 3,_=>rfl
   | 4,_=>rfl
   | 5,_=>rfl
  simp [execOp,hs.gQ hx,hs.gQ hy,eqGuard,binOp,e,hw]
theorem cu.pre (h:Wk S S') (k:cu P nt o S' S2):cu P nt o S S2:=
 ⟨fun w0 ω0 a w Q hs=>k.go w0 ω0 a w Q (h.go _ _ _ _ _ hs)⟩
end
end Go.Proofs.YtekbhbcgoadciaaGreat
namespace Go.Proofs.YtekbhbcgoadciaaGreat
open Go.RowKit
section
variable {P:Program} {nt:Nat} {S S' S2:St} {t:Nat} {ty:TypeId} {ps:String} {af:Array Edge} {gd:Option (Nat×Bool)} {x y:Operand} {o:Oper}
theorem oQ {f:FuncId} {ts:Array TypeId} {n:Nm} {E len:Nat} {zs zs':List Int} (ht:Nat.blt t nt=true) (hf:uQ P f=true) (hx:S.op x=some (o1 (.sl n 0 len))) (hc:S.ch n=some ⟨true,E,1, .bR (aL zs)⟩) (hl:zs.length=len) (hl':zs'.length=len) (hlen:len≤4398046511104)
  (h:∀ao c (w:World),Own w 0 E ao len c (aL zs)→Calls P f #[.slice ao len c] w fun e w'=>e= .returned (.tuple #[])∧Own w' 0 E ao len c (aL zs')∧w.grownBy w' (bk ao)):
  cu P nt ⟨some t, .call { callee:= .value (.func f),args:= #[x],argTypes:=ts },ty,ps,af,gd⟩ S ((S.set n ⟨true,E,1, .bR (aL zs')⟩).put t (.tup [])):=by
 refine ⟨fun w0 ω0 a w Q ⟨η,ω,hs⟩=> ?_⟩
 obtain ⟨hd,e1,e2,e3⟩:=hs.chunk hc
 have e2:hd.k=1:=e2
 have e3:dJ ω w (n,none) hd E (aL zs).length (cI η ω w true n (.bR (aL zs))):=e3
 have hu:c6 η (.sl n 0 len) (a.eval x):=hs.iE hx
 obtain ⟨ao,hev,q1,_⟩:=hu.2 hd e1
 have q1:=q1 rfl
 subst q1
 rw [Nat.sub_zero] at hev
 have hown:=dJ.own (lo:=0) (xs:=aL zs) e2 e3 (fun b hb=>absurd hb ae) (by rw [bc];omega) rfl (fun j u hj ⟨b,o,f1,f2⟩=>by
  obtain ⟨b',o',u',g1,g2,g3⟩:=lN.get (own:=true) e3 hj
  rw [f1] at g1;injection g1 with g1;injection g1 with g1 g1';subst g1 g1'
  rw [f2] at g2
  obtain rfl:=Option.some.inj g2
  exact g3)
 rw [bc,hl] at hown
 have hrun:(execOp a.eval ⟨some t, .call { callee:= .value (.func f),args:= #[x],argTypes:=ts },ty,ps,af,gd⟩).run P w= .ok (.enter f #[.slice hd.ao len hd.c]) w:=by
  simp only [execOp]
  have hfe:a.eval (.func f)= .func (Fn.func f) #[] #[]:=rfl
  simp [execOp,resolve,hfe,hev,Deferred.ofValue,invoke,uI hf]
 unfold Oper.wp
 rw [hrun,Oper.upon_enter]
 refine (h _ _ _ hown.1).mono ?_
 rintro e w' ⟨rfl,ho,hg⟩
 have hsz:=hg.size
 have hw:=hs.write (x:=n) (c':=⟨true,E,1, .bR (aL zs')⟩) (ω':=ω) (w':=w') e1 ⟨hg.os,hg.tape,hg.output,hsz,fun b hb hlv=>⟨hg.block b hb fun e=> ?_,rfl⟩⟩ ⟨e2, ?_⟩
 ·exact ⟨η,ω,hw.fU (by simpa using ht) ⟨#[],rfl,rfl,fun j b hj=>by simp at hj⟩⟩
 ·have h1:=(hown.2 b e.symm).2
  rcases hlv with h0 | ⟨y,i,c,h0,h2⟩
  ·rw [h1] at h0;cases h0
  ·rw [h1] at h0;simp at h0;rw [←h0.1,fG,if_pos rfl] at h2;cases h2
 ·have hv:=A8 (ω':=ω) ho (x:=(n,none)) fun g hg'=>(hown.2 g hg').2
  have:hd=⟨hd.ao,hd.c,1⟩:=by rw [←e2]
  rw [this]
  exact hv
theorem fZ {xt yt:TypeId} {a b:Nat} (ht:Nat.blt t nt=true) (hx:S.op x=some (vv (I6 (a:Int)))) (hy:S.op y=some (vv (I6 (b:Int)))) (hb:0 < b) (ha:a < 1000000000000):
  cu P nt ⟨some t, .binOp .quo xt x y yt,ty,ps,af,gd⟩ S (S.put t (vv (I6 ((a / b:Nat):Int)))):=
 cu.pure rfl ht fun _ _ η _ s w hs=>by
  refine ⟨I6 ((a / b:Nat):Int), ?_,rfl⟩
  have hle:=Nat.div_le_self a b
  have e:Op.intDiv .quo .i64 (a:Int) (b:Int)=pure (I6 ((a / b:Nat):Int)):=by
   have h1:(a:Int).tdiv (b:Int)=((a / b:Nat):Int):=rfl
   have h2:∀q:Nat,q≤a→IntKind.i64.wrap (q:Int)=(q:Int):=fun q hq=>IntWalk.i64_in _ ae
   have h3:¬(b:Int)=0:=by omega
   unfold Op.intDiv
   rw [if_neg h3]
   show pure (Value.int .i64 (IntKind.i64.wrap ((a:Int).tdiv (b:Int))))=_
   rw [h1,h2 _ hle]
  simp [execOp,hs.gQ hx,hs.gQ hy,eqGuard,binOp,e]
theorem kG {xt yt:TypeId} {a b:Nat} (ht:Nat.blt t nt=true) (hx:S.op x=some (vv (I6 (a:Int)))) (hy:S.op y=some (vv (I6 (b:Int)))) (hb:0 < b) (ha:a < 1000000000000):
  cu P nt ⟨some t, .binOp .rem xt x y yt,ty,ps,af,gd⟩ S (S.put t (vv (I6 ((a % b:Nat):Int)))):=
 cu.pure rfl ht fun _ _ η _ s w hs=>by
  refine ⟨I6 ((a % b:Nat):Int), ?_,rfl⟩
  have hle:=Nat.mod_le a b
  have e:Op.intDiv .rem .i64 (a:Int) (b:Int)=pure (I6 ((a % b:Nat):Int)):=by
   have h1:(a:Int).tmod (b:Int)=((a % b:Nat):Int):=rfl
   have h3:¬(b:Int)=0:=by omega
   unfold Op.intDiv
   rw [if_neg h3]
   show pure (Value.int .i64 ((a:Int).tmod (b:Int)))=_
   rw [h1]
  simp [execOp,hs.gQ hx,hs.gQ hy,eqGuard,binOp,e]
theorem fF {xt yt:TypeId} {op:BinOp} {b:Bool} (ht:Nat.blt t nt=true) (hT:sliceB P xt=true) (hx:S.op x=some (vv (.slice none 0 0))) (hop:(op= .eql∧b=true)∨(op= .neq∧b=false)):
  cu P nt ⟨some t, .binOp op xt x (.const (.slice none 0 0)) yt,ty,ps,af,gd⟩ S (S.put t (vv (.bool b))):=
 cu.pure rfl ht fun _ _ η _ s w hs=>by
  obtain ⟨e,he⟩:=lX hT
  have hc:s.eval (.const (.slice none 0 0))= .slice none 0 0:=rfl
  refine ⟨.bool b, ?_,rfl⟩
  rcases hop with ⟨rfl,rfl⟩ | ⟨rfl,rfl⟩
  ·simp [execOp,hs.gQ hx,hc,eqGuard,Lib.run_eql_slice_nil w xt e none 0 0 0 0 he]
  ·simp [execOp,hs.gQ hx,hc,eqGuard,Go.run_neq_slice_nil w xt e none 0 0 he]
theorem eD {xt yt:TypeId} {op:BinOp} {b:Bool} {n:Nm} {len:Nat} {c:Ch} (ht:Nat.blt t nt=true) (hT:sliceB P xt=true) (hx:S.op x=some (o1 (.sl n 0 len))) (hc:S.ch n=some c) (hl:0 < c.d.len) (hop:(op= .eql∧b=false)∨(op= .neq∧b=true)):
  cu P nt ⟨some t, .binOp op xt x (.const (.slice none 0 0)) yt,ty,ps,af,gd⟩ S (S.put t (vv (.bool b))):=
 cu.pure rfl ht fun _ _ η _ s w hs=>by
  obtain ⟨e,he⟩:=lX hT
  have hcc:s.eval (.const (.slice none 0 0))= .slice none 0 0:=rfl
  obtain ⟨hd,h1,h2,h3⟩:=hs.chunk hc
  have hd1:c6 η (.sl n 0 len) (s.eval x):=hs.iE hx
  obtain ⟨ao,e1,e2,_⟩:=hd1.2 hd h1
  obtain ⟨b',o',u,f1,_,_⟩:=h3.get hl
  have hao:ao=some ⟨b',o',none⟩:=by rw [e2 rfl,f1]
  subst hao
  refine ⟨.bool b, ?_,rfl⟩
  rcases hop with ⟨rfl,rfl⟩ | ⟨rfl,rfl⟩
  ·simp [execOp,e1,hcc,eqGuard,Lib.run_eql_slice_nil w xt e _ _ _ 0 0 he]
  ·simp [execOp,e1,hcc,eqGuard,Go.run_neq_slice_nil w xt e _ _ _ he]
end
end Go.Proofs.YtekbhbcgoadciaaGreat
namespace Go.Proofs.YtekbhbcgoadciaaGreat
open Go.RowKit
theorem Bv (ao:Option Addr) (n c:Nat) (zs:List Int) (w:World) (h:dC w ao n zs) (hn:n≤1048576):
  Calls Tryz.prog 144 #[.slice ao n c] w fun e w'=>∃ao' c',e= .returned (.slice ao' n c')∧Own w' w.heap.size 2 ao' n c' (zs.map (Value.int .i64))∧Below w.heap.size w w':=by
 have he:=fun (w:World)=>Lib.run_eql_slice_nil (P:=Tryz.prog) w 24 2 ao n c 0 0 Tryz.underlying24
 cases ao with
 | none=>
  obtain ⟨rfl,rfl⟩:=h.Fj
  go_enter Tryz.func144,Tryz.ntmps144
  go_wp2
  go_ret
  exact ⟨_,_,rfl,Own.Ex _ _ _,Below.refl _ _⟩
 | some ad=>
  have h2:dC (w.alloc (.cells #[] 2)) (some ad) n zs:=h.below ((Below.refl _ _).alloc (Nat.le_refl _) _)
  have H2:=Lib.hid h2
  clear h2
  go_enter Tryz.func144,Tryz.ntmps144
  go_wp2_with (at_builtin;refine nR Fh _ rfl _ _ rfl w.heap.size _ 0 0 [] rfl (Own.lf w _ (Nat.le_refl _)) (some ad) n c zs rfl H2.out ae (by simp) ?_;intro ao2 c2 w2 ho2 hg2 hblk)
  go_ret
  refine ⟨_,_,rfl,by simpa using ho2,((Below.refl _ _).alloc (Nat.le_refl _) _).grown hg2 (by simp) (fun g hg=> ?_)⟩
  simp [bk] at hg;omega
end Go.Proofs.YtekbhbcgoadciaaGreat
namespace Go.Proofs.YtekbhbcgoadciaaGreat
open Go.RowKit
def il (zs:List Int):List Int:=zs.reverse
theorem yT {zs:List Int} {k:Nat} (h:k < zs.length):il (zs.drop k)=il (zs.drop (k + 1)) ++ [aC zs k]:=by
 unfold il;rw [List.drop_eq_getElem_cons h,←cX h,List.reverse_cons]
theorem px (ao:Option Addr) (n c:Nat) (zs:List Int) (w:World) (h:dC w ao n zs) (hn:n≤1048576):
  Calls Tryz.prog 143 #[.slice ao n c] w fun e w'=>∃ao' c',e= .returned (.slice ao' n c')∧Own w' w.heap.size 2 ao' n c' ((il zs).map (Value.int .i64))∧Below w.heap.size w w':=by
 have hl:=h.1
 have HL:=Lib.hid hl
 clear hl
 go_enter Tryz.func143,Tryz.ntmps143
 go_wp2
 go_loopw [3,4] (fun v i wr=>∃(k a':Nat) (ao':Option Addr) (c':Nat),k≤n∧i= .int .i64 ((k:Int) - 1)∧v= .slice ao' a' c'∧a' + k=n∧Own wr w.heap.size 2 ao' a' c' ((il (zs.drop k)).map (Value.int .i64))∧Below w.heap.size w wr) (fun _ i _=>(intOf i + 1).toNat)
 case atStart=>exact ⟨n,0,_,_,Nat.le_refl _,rfl,rfl,ae,by rw [List.drop_of_length_le (Nat.le_of_eq HL.out)];exact Own.lf w _ (Nat.le_refl _),(Below.refl _ _).alloc (Nat.le_refl _) _⟩
 case round=>
  obtain ⟨k,a',ao',c',hk,rfl,rfl,hak,ho,hb⟩:=hrel
  have HAK:=Lib.hid hak
  clear hak
  by_cases hlt:0 < k
  ·obtain ⟨j,rfl⟩:∃j,k=j + 1:=⟨k - 1,ae⟩
   have hj:j < n:=by omega
   have ha':a'≤1048576:=by have:=HAK.out;omega
   obtain ⟨b,off,rfl,hc⟩:=(h.below hb).at_ hj
   have HT:Hid (il (zs.drop j)=il (zs.drop (j + 1)) ++ [aC zs j]):=yT (by rw [HL.out];exact hj)
   have hbs:=hb.size
   have ej:((j + 1:Nat):Int) - 1=j:=by omega
   rw [ej]
   clear ej
   go_wp2_with (at_builtin;refine lC Fh _ rfl _ _ rfl w.heap.size ao' a' c' _ rfl ho (.int .i64 (aC zs j)) rfl rfl ae hbs ?_;intro ao2 c2 w2 ho2 hg2 hblk)
   have hol:=ho.lt
   clear ho hc h
   go_wp2
   go_roundw
   case rel=>
    refine ⟨j,a' + 1,ao2,c2,ae,rfl,rfl,by have:=HAK.out;omega, ?_,hb.grown hg2 hbs (fun g hg=>(hol g hg).1)⟩
    rw [HT.out,List.map_append];exact ho2
   case measure=>simp [intOf]
  ·obtain rfl:k=0:=by omega
   obtain rfl:a'=n:=by have:=HAK.out;omega
   go_wp2
   go_ret
   exact ⟨_,_,rfl,by simpa using ho,hb⟩
end Go.Proofs.YtekbhbcgoadciaaGreat
namespace Go.Proofs.YtekbhbcgoadciaaGreat
open Go.RowKit
theorem kQ {w:World} {base E:Nat} {g n c:Nat} {zs:List Int} (h:Own w base E (some ⟨g,0,none⟩) n c (zs.map (Value.int .i64))) {k:Nat} (hk:k < n):w.cell? ⟨g,k,none⟩=some (.int .i64 (aC zs k)):=by
 obtain ⟨g',hg,_,_,_,hc,_⟩:=h.form ae
 obtain rfl:g=g':=by injection hg with hg;injection hg
 have hl:zs.length=n:=by have:=h.len;simpa using this
 rw [hc k hk,List.getElem?_map,List.getElem?_eq_getElem ae,cX ae];rfl
theorem kh {zs:List Int} {k:Nat} (h:k < zs.length) (x:Int):aC (zs.set k x) k=x:=by rw [cX (by simpa using h)];simp
theorem iK {zs:List Int} {k j:Nat} (h:k≠j) (x:Int):aC (zs.set k x) j=aC zs j:=by simp [aC,h]
theorem xC (ao:Option Addr) (n c:Nat) (zs:List Int) (w:World) (base:Nat) (h:Own w base 2 ao n c (zs.map (Value.int .i64))):
  Calls Tryz.prog 145 #[.slice ao n c] w fun e w'=>e= .returned (.tuple #[])∧Own w' base 2 ao n c ((il zs).map (Value.int .i64))∧w.grownBy w' (bk ao):=by
 have hn:=h.2
 have hl:zs.length=n:=by have:=h.len;simpa using this
 have HL:=Lib.hid hl
 clear hl
 go_enter Tryz.func145,Tryz.ntmps145
 go_wp2
 go_loopw [2,3] (fun i j wr=>∃(k:Nat) (cur:List Int),k≤n∧i= .int .i64 k∧j= .int .i64 ((n:Int) - 1 - k)∧cur.length=n∧(∀x,x < n→aC cur x=if x < k∨n < x + 1 + k then aC zs (n - 1 - x) else aC zs x)∧Own wr base 2 ao n c (cur.map (Value.int .i64))∧w.grownBy wr (bk ao)) (fun i _ _=>n - (intOf i).toNat)
 case atStart=>exact ⟨0,zs,ae,rfl,by simp,HL.out,fun x hx=>by rw [if_neg ae],h,World.grownBy.refl _ _⟩
 case round=>
  obtain ⟨k,cur,hk,rfl,rfl,hcl,hcur,ho,hg⟩:=hrel
  have HC:=Lib.hid hcl
  have HU:=Lib.hid hcur
  clear hcl hcur
  by_cases hlt:k + k + 1 < n
  ·obtain ⟨j,hj⟩:∃j:Nat,j + k + 1=n:=⟨n - 1 - k,ae⟩
   have HJ:=Lib.hid hj
   have ej:(n:Int) - 1 - k=j:=by omega
   have hjn:j < n:=by omega
   have hkn:k < n:=by omega
   have hkj:k < j:=by omega
   rw [ej]
   clear hj ej
   obtain ⟨g,rfl, -,hgl, -, -, -⟩:=ho.form ae
   have hc1:=kQ ho hjn
   have hc2:=kQ ho hkn
   have hf1:=ho.1.frozenAt j
   have hf2:=ho.1.frozenAt k
   have ho1:Own wr.drew base 2 (some ⟨g,0,none⟩) n c (cur.map (Value.int .i64)):=ho
   obtain ⟨s1,t1⟩:=ho1.stored k (.int .i64 (aC cur j))
   obtain ⟨s2,t2⟩:=s1.stored j (.int .i64 (aC cur k))
   have S2:=Lib.hid s2
   have T1:=Lib.hid t1
   have T2:=Lib.hid t2
   clear s1 t1 s2 t2 ho1 ho
   go_wp2
   go_region
   go_wp2
   go_roundw
   case rel=>
    refine ⟨k + 1,(cur.set k (aC cur j)).set j (aC cur k),ae,by go_num, ?_,by simp [HC.out], ?_,by rw [List.map_set,List.map_set];exact S2.out,gh hg (gh (⟨rfl,rfl,rfl,Nat.le_refl _,fun _ _ _=>rfl⟩:wr.grownBy wr.drew _) (gh T1.out T2.out))⟩
    ·congr 1;have:=HJ.out;omega
    ·intro x hx
     have hcl:=HC.out
     have hjn':=HJ.out
     by_cases h1:x=j
     ·subst h1
      rw [kh (by simp;omega),if_pos ae,HU.out k ae,if_neg ae]
      congr 1;omega
     ·rw [iK (fun e=>h1 e.symm)]
      by_cases h2:x=k
      ·subst h2
       rw [kh ae,if_pos ae,HU.out j ae,if_neg ae]
       congr 1;omega
      ·rw [iK (fun e=>h2 e.symm),HU.out x hx]
       by_cases h3:x < k∨n < x + 1 + k
       ·rw [if_pos h3,if_pos ae]
       ·rw [if_neg h3,if_neg ae]
   case measure=>simp [intOf];omega
  ·have hle:(n:Int) - 1 - k≤k:=by omega
   go_wp2
   go_end0
   refine ⟨rfl, ?_,hg⟩
   have hcl:=HC.out
   have hzl:=HL.out
   have e:cur=il zs:=by
    apply nY (by unfold il;simp;omega)
    intro x hx
    have hr:aC (il zs) x=aC zs (n - 1 - x):=by
     rw [cX (by unfold il;simp;omega),cX ae]
     unfold il
     rw [List.getElem_reverse]
     congr 1;omega
    rw [hr,HU.out x ae]
    by_cases h3:x < k∨n < x + 1 + k
    ·rw [if_pos h3]
    ·rw [if_neg h3];congr 1;omega
   rw [←e];exact ho
end Go.Proofs.YtekbhbcgoadciaaGreat
namespace Go.Proofs.YtekbhbcgoadciaaGreat
open Go.RowKit
theorem yW (a b:Option Addr) (na nb ca cb:Nat) (za zb:List Int) (w:World) (ha:dC w a na za) (hb:dC w b nb zb):
  Calls Tryz.prog 170 #[.slice a na ca, .slice b nb cb] w fun e w'=>e= .returned (.bool (decide (za=zb)))∧∃m,w'=w.drewN m:=by
 have hla:=ha.2.1
 have hlb:=hb.2.1
 by_cases hl:na=nb
 ·subst hl
  have hl':((na:Int) != (na:Int))=false:=by simp
  go_enter Tryz.func170,Tryz.ntmps170
  go_wp2
  go_loopw [5] (fun i wr=>∃k:Nat,k≤na∧i= .int .i64 k∧za.take k=zb.take k∧∃m,wr=w.drewN m) (fun i _=>na - (intOf i).toNat)
  case atStart=>exact ⟨0,Nat.zero_le _,rfl,rfl,0,rfl⟩
  case round=>
   obtain ⟨k,hk,rfl,hpre,m,rfl⟩:=hrel
   have HP:=Lib.hid hpre
   clear hpre
   by_cases hlt:k < na
   ·obtain ⟨ba,oa,rfl,hca⟩:=ha.at_ hlt
    obtain ⟨bb,ob,rfl,hcb⟩:=hb.at_ hlt
    have h1:=ha.1
    have h2:=hb.1
    have H1:=Lib.hid h1
    have H2:=Lib.hid h2
    clear h1 h2
    by_cases he:aC za k=aC zb k
    ·have he':(aC za k != aC zb k)=false:=by simp [he]
     have HE:=Lib.hid he
     clear he
     go_wp2_with fail
     go_quiet (fail)
     go_wp2
     go_roundw
     case rel=>exact ⟨k + 1,ae,by go_num,by rw [iq (by rw [H1.out];omega),iq (by rw [H2.out];omega),HP.out,HE.out],_,rfl⟩
     case measure=>simp [intOf];omega
    ·have he':(aC za k != aC zb k)=true:=by simp [he]
     have HE:=Lib.hid he
     clear he
     go_wp2_with fail
     go_quiet (fail)
     go_wp2
     go_ret
     exact ⟨cx (by symm;rw [decide_eq_false_iff_not];intro e;exact HE.out (by rw [e])),_,World.drewN_drewN _ _ _⟩
   ·obtain rfl:k=na:=by omega
    have h1:=ha.1
    have h2:=hb.1
    have hab:za=zb:=by have:=HP.out;rwa [List.take_of_length_le ae,List.take_of_length_le ae] at this
    have HA:=Lib.hid hab
    clear h1 h2 hab
    go_wp2
    go_ret
    exact ⟨cx (by symm;simpa using HA.out),_,rfl⟩
 ·have hl':((na:Int) != (nb:Int))=true:=by simp;omega
  go_enter Tryz.func170,Tryz.ntmps170
  go_wp2
  go_ret
  refine ⟨cx ?_,0,rfl⟩
  symm
  rw [decide_eq_false_iff_not]
  intro e
  exact hl (by rw [←ha.1,←hb.1,e])
theorem Bx (a b:Option Addr) (na nb ca cb:Nat) (za zb:List Int) (w:World) (ha:dC w a na za) (hb:dC w b nb zb):
  Calls Tryz.prog 119 #[.slice a na ca, .slice b nb cb] w fun e w'=>e= .returned (.bool (decide (za=zb)))∧∃m,w'=w.drewN m:=by
 have hla:=ha.2.1
 have hlb:=hb.2.1
 by_cases hl:na=nb
 ·subst hl
  have hl':((na:Int) != (na:Int))=false:=by simp
  go_enter Tryz.func119,Tryz.ntmps119
  go_wp2
  go_loopw [13] (fun i wr=>∃k:Nat,k≤na∧i= .int .i64 k∧za.take k=zb.take k∧∃m,wr=w.drewN m) (fun i _=>na - (intOf i).toNat)
  case atStart=>exact ⟨0,Nat.zero_le _,rfl,rfl,0,rfl⟩
  case round=>
   obtain ⟨k,hk,rfl,hpre,m,rfl⟩:=hrel
   have HP:=Lib.hid hpre
   clear hpre
   by_cases hlt:k < na
   ·obtain ⟨ba,oa,rfl,hca⟩:=ha.at_ hlt
    obtain ⟨bb,ob,rfl,hcb⟩:=hb.at_ hlt
    have h1:=ha.1
    have h2:=hb.1
    have H1:=Lib.hid h1
    have H2:=Lib.hid h2
    clear h1 h2
    by_cases he:aC za k=aC zb k
    ·have he':(aC za k != aC zb k)=false:=by simp [he]
     have HE:=Lib.hid he
     clear he
     go_wp2_with fail
     go_quiet (fail)
     go_wp2
     go_roundw
     case rel=>exact ⟨k + 1,ae,by go_num,by rw [iq (by rw [H1.out];omega),iq (by rw [H2.out];omega),HP.out,HE.out],_,rfl⟩
     case measure=>simp [intOf];omega
    ·have he':(aC za k != aC zb k)=true:=by simp [he]
     have HE:=Lib.hid he
     clear he
     go_wp2_with fail
     go_quiet (fail)
     go_wp2
     go_ret
     exact ⟨cx (by symm;rw [decide_eq_false_iff_not];intro e;exact HE.out (by rw [e])),_,World.drewN_drewN _ _ _⟩
   ·obtain rfl:k=na:=by omega
    have h1:=ha.1
    have h2:=hb.1
    have hab:za=zb:=by have:=HP.out;rwa [List.take_of_length_le ae,List.take_of_length_le ae] at this
    have HA:=Lib.hid hab
    clear h1 h2 hab
    go_wp2
    go_ret
    exact ⟨cx (by symm;simpa using HA.out),_,rfl⟩
 ·have hl':((na:Int) != (nb:Int))=true:=by simp;omega
  go_enter Tryz.func119,Tryz.ntmps119
  go_wp2
  go_ret
  refine ⟨cx ?_,0,rfl⟩
  symm
  rw [decide_eq_false_iff_not]
  intro e
  exact hl (by rw [←ha.1,←hb.1,e])
theorem zL {us:List Value} {u0 u1:Value} (hl:us.length=2) (g0:us[0]? =some u0) (g1:us[1]? =some u1):us= [u0,u1]:=by
 match us,hl with
 | [p,q],_=>simp at g0 g1;rw [g0,g1]
theorem vt {us:List Value} {u0:Value} (hl:us.length=1) (g0:us[0]? =some u0):us= [u0]:=by
 match us,hl with
 | [p],_=>simp at g0;rw [g0]
theorem J5 (a b:List Int):decide (a=b)=(a == b):=by
 by_cases h:a=b
 ·subst h;simp
 ·rw [decide_eq_false h];symm;simpa using h
theorem kH (cs:List kX) (i m n E kk:Nat) (labs list:List Int) (hi:cs[i]? =some (.r 2 1 m (aL labs))) (hm:labs.length=m) (hn:list.length=n) (hm4:m≤1000000) (hn4:n≤1000000):
  FC Tryz.prog 119 [(1000,⟨false,E,kk, .mix cs⟩),(1001,dk list)] [o1 (.esl 1000 i 0 m),o1 (.sl 1001 0 n)] [] (vv (.bool (labs == list))) []:=
 dS fun w η ω us hme ⟨hl,ha⟩=>by
  subst hm hn
  obtain ⟨u0,g0,d0⟩:=ha 0 _ rfl
  obtain ⟨u1,g1,d1⟩:=ha 1 _ rfl
  obtain ⟨ao,c,rfl,h0⟩:=Ix (x:=1000) hme rfl hi d0 ae
  obtain ⟨ao',c',rfl,h1⟩:=Fg (x:=1001) hme rfl d1 ae
  rw [zL hl g0 g1]
  refine (Bx ao ao' _ _ c c' labs list w h0 h1).mono ?_
  rintro e w' ⟨rfl,hq⟩
  exact ⟨cx (J5 _ _),jy hq⟩
theorem Dd (zss:List (List Int)) (i n E:Nat) (list:List Int) (hi:i < zss.length) (hn:list.length=n) (hm4:(bn zss i).length≤1000000) (hn4:n≤1000000):
  FC Tryz.prog 170 [(1000,a6 zss),(1001,dk list)] [o1 (.esl 1000 i 0 (bn zss i).length),o1 (.sl 1001 0 n)] [] (vv (.bool (bn zss i == list))) []:=
 dS fun w η ω us hme ⟨hl,ha⟩=>by
  subst hn
  obtain ⟨u0,g0,d0⟩:=ha 0 _ rfl
  obtain ⟨u1,g1,d1⟩:=ha 1 _ rfl
  obtain ⟨ao,c,rfl,h0⟩:=GK (x:=1000) hme rfl hi d0 ae
  obtain ⟨ao',c',rfl,h1⟩:=Fg (x:=1001) hme rfl d1 ae
  rw [zL hl g0 g1]
  refine (yW ao ao' _ _ c c' _ list w h0 h1).mono ?_
  rintro e w' ⟨rfl,hq⟩
  exact ⟨cx (J5 _ _),jy hq⟩
theorem DM (zs list:List Int) (m n:Nat) (hm:zs.length=m) (hn:list.length=n) (hm4:m≤1000000) (hn4:n≤1000000):
  FC Tryz.prog 170 [(1000,dk zs),(1001,dk list)] [o1 (.sl 1000 0 m),o1 (.sl 1001 0 n)] [] (vv (.bool (zs == list))) []:=
 dS fun w η ω us hme ⟨hl,ha⟩=>by
  subst hm hn
  obtain ⟨u0,g0,d0⟩:=ha 0 _ rfl
  obtain ⟨u1,g1,d1⟩:=ha 1 _ rfl
  obtain ⟨ao,c,rfl,h0⟩:=Fg (x:=1000) hme rfl d0 ae
  obtain ⟨ao',c',rfl,h1⟩:=Fg (x:=1001) hme rfl d1 ae
  rw [zL hl g0 g1]
  refine (yW ao ao' _ _ c c' _ list w h0 h1).mono ?_
  rintro e w' ⟨rfl,hq⟩
  exact ⟨cx (J5 _ _),jy hq⟩
theorem Ci (x y n:Nat) (zs:List Int) (hn:zs.length=n) (hl:n≤1000000):
  FC Tryz.prog 144 [(x,dk zs)] [o1 (.sl x 0 n)] [(y,bG zs)] (o1 (.sl y 0 n)) []:=by
 subst hn
 exact pw fun w η ω us hm ⟨hl',ha⟩=>by
  obtain ⟨u0,g0,d0⟩:=ha 0 _ rfl
  obtain ⟨ao,c,rfl,hr⟩:=Fg (x:=x) (own:=false) (E:=2) hm (by simp [lk]) d0 ae
  rw [vt hl' g0]
  refine (Bv ao _ c _ w hr ae).mono ?_
  rintro e w' ⟨ao',c',rfl,ho,hb⟩
  exact ⟨ao',c',rfl,ho,hb⟩
theorem jP (y:Nat) (zss:List (List Int)) (i:Nat) (hi:i < zss.length) (hl:(bn zss i).length≤1000000):
  FC Tryz.prog 143 [(1000,a6 zss)] [o1 (.esl 1000 i 0 (bn zss i).length)] [(y,bG (bn zss i).reverse)] (o1 (.sl y 0 (bn zss i).length)) []:=by
 have h:=pw (P:=Tryz.prog) (f:=143) (ins:= [(1000,a6 zss)]) (args:= [o1 (.esl 1000 i 0 (bn zss i).length)]) (x:=y) (E:=2) (zs:=(bn zss i).reverse) fun w η ω us hm ⟨hl',ha⟩=>by
  obtain ⟨u0,g0,d0⟩:=ha 0 _ rfl
  obtain ⟨ao,c,rfl,hr⟩:=GK (x:=1000) hm rfl hi d0 ae
  rw [vt hl' g0]
  refine (px ao _ c _ w hr ae).mono ?_
  rintro e w' ⟨ao',c',rfl,ho,hb⟩
  rw [List.length_reverse]
  exact ⟨ao',c',rfl,ho,hb⟩
 rw [List.length_reverse] at h
 exact h
theorem A3 (zs:List Int) (n:Nat) (hn:zs.length=n) (hpos:0 < n) (hn4:n≤1000000) (ha:∀i,i + 1 < n→aC zs i≤aC zs (i + 1)):
  FC Tryz.prog 80 [(1005,oW zs)] [o1 (.sl 1005 0 n)] [] (vv (I6 (aC zs (n - 1)))) []:=by
 refine bj (nt:=25) Tryz.func80 rfl rfl (by simp) fun w0 ω0=> ?_
 have hil:n≤(aL zs).length:=by rw [bc,hn];exact Nat.le_refl _
 (refine ak (ah (aa rfl (ai rfl rfl) (ar (an (ak (ak (ah (aa rfl (aj rfl rfl) (aa rfl (bw rfl rfl rfl ab) ?_)))))))));refine aa rfl (aG rfl rfl rfl rfl) (ar (an ?_)))
 refine bK rfl (fun h=>absurd hpos ae) (fun h=> ?_)
 have hg0:(aL zs)[0]? =some (I6 (aC zs 0)):=bl ae
 (refine aE (an (ak (ah (aa rfl (aj rfl rfl) ?_))));apply aa rfl;(exact aR (j:=0) rfl rfl rfl rfl rfl ab rfl hpos hil);apply aa rfl;exact bf rfl ab rfl rfl rfl aQ;refine aa rfl (ai rfl rfl) (ar (an (ak (ak (ah (aa rfl (ai rfl rfl) (ar (an (aB ?_))))))))))
 refine bz (fun i:Nat=>St.of [(0,o1 (.sl 1005 0 n)),(3,vv (I6 (aC zs (i - 1)))),(4,vv (I6 i))] [(1005,oW zs)]) (fun i=>1≤i∧i≤n) (fun i=>n - i) 1 ⟨Nat.le_refl _,hpos⟩ (Wk.of ⟨rfl,rfl,rfl,ag⟩ ⟨rfl,ag⟩ trivial) ?_
 rintro i ⟨hi1,hi2⟩
 (refine ak (ak (ah (aa rfl (aj rfl rfl) (aa rfl (aj rfl rfl) (aa rfl (bw rfl rfl rfl ab) ?_)))));refine aa rfl (aG rfl rfl rfl rfl) (ar (an ?_)))
 refine bK rfl (fun hlt=> ?_) (fun hlt=> ?_)
 ·have hlt':i < n:=by omega
  have hgi:(aL zs)[i]? =some (I6 (aC zs i)):=bl ae
  have hle:aC zs (i - 1)≤aC zs i:=by
   have:=ha (i - 1) ae
   rwa [show i - 1 + 1=i by omega] at this
  have hmx:(if aC zs i > aC zs (i - 1) then aC zs i else aC zs (i - 1))=aC zs (i + 1 - 1):=by
   rw [Nat.add_sub_cancel];split
   ·rfl
   ·omega
  (refine aE (an (ak (aB (ah (aa rfl (aj rfl rfl) (aa rfl (aj rfl rfl) (aa rfl (aj rfl rfl) ?_)))))));apply aa rfl;(exact aR (j:=i) rfl rfl rfl rfl rfl ab rfl hlt' hil);apply aa rfl;exact bf rfl ab rfl rfl rfl aQ;refine aa rfl (AN rfl rfl rfl) (aa rfl (ai rfl rfl) (ar (aM (an (ah (aa rfl (aj rfl rfl) ?_))))));apply aa rfl;exact aP rfl rfl rfl bA;refine aa rfl (ai rfl rfl) (ar ?_))
  exact aW (i + 1) ⟨ae,ae⟩ ae (Wk.of ⟨rfl,congrArg (fun z=>some (vv (I6 z))) hmx,rfl,ag⟩ ⟨rfl,ag⟩ trivial)
 ·obtain rfl:i=n:=by omega
  (refine a7 (aA (aA (aT (an (ak (ah (aa rfl (aj rfl rfl) (aa rfl (ai rfl rfl) (ar (an (aS ?_))))))))))))
  exact bu (.inl rfl) rfl (.tmp rfl) trivial trivial
theorem El (a b:Nat) (ha:a < 1000000000000) (hb:b < 1000000000000):FC Tryz.prog 113 [] [vv (I6 a),vv (I6 b)] [] (vv (I6 (Nat.gcd a b))) []:=by
 refine bj (nt:=12) Tryz.func113 rfl rfl (by simp) fun w0 ω0=> ?_
 (refine ak (ah (aa rfl (ai rfl rfl) (ar (an (ak (aB ?_)))))))
 refine bz (fun q:Nat×Nat=>St.of [(0,vv (I6 q.1)),(1,vv (I6 q.2))] []) (fun q=>Nat.gcd q.1 q.2=Nat.gcd a b∧q.1 < 1000000000000∧q.2 < 1000000000000) (fun q=>q.2) (a,b) ⟨rfl,ha,hb⟩ (Wk.of ⟨rfl,rfl,ag⟩ trivial trivial) ?_
 rintro ⟨c,d⟩ ⟨hg,hc,hd⟩
 dsimp only at hg hc hd ⊢
 (refine ak (ak (ah (aa rfl (aj rfl rfl) (aa rfl (aG rfl rfl rfl rfl) (ar (an ?_)))))))
 refine ax rfl (fun h=> ?_) (fun h=> ?_)
 ·have hd0:0 < d:=by
   have:(d:Int)≠0:=by simpa using h
   omega
  have hlt:=Nat.mod_lt c hd0
  have hg':Nat.gcd d (c % d)=Nat.gcd a b:=by rw [←hg,Nat.gcd_comm c d,Nat.gcd_rec d c,Nat.gcd_comm]
  (refine aE ?_;refine an ?_;refine aB ?_)
  apply nn 4 [] [2,3] [[], [], [], [1,2], [0,1], [0,1,2,3,4]] [7,8,9,10] [] (by kernel_rfl) (by kernel_rfl) (by kernel_rfl)
  ·(apply aK rfl;(intro S1 hS;exact aj rfl (hS.op rfl));apply aK rfl;(intro S1 hS;exact aj rfl (hS.op rfl));apply aK rfl;(intro S1 hS;exact aj rfl (hS.op rfl));(apply aK rfl;(focus (intro S1 hS;exact kG rfl (hS.op rfl) (hS.op rfl) hd0 hc)));exact ft.nil)
  ·rfl
  refine ⟨⟨?_, ?_⟩, ?_, ?_⟩
  ·refine dI (St.of [(0,vv (I6 d)),(1,vv (I6 (c % d:Nat)))] []) ?_ ?_
   ·((apply aF 4 rfl ab rfl rfl;exact ai rfl rfl);(apply aF 5 rfl ab rfl rfl;exact ai rfl rfl);(refine bh ab ?_;exact aV (Wk.of ⟨rfl,rfl,ag⟩ trivial trivial)))
   ·(refine aM ?_)
    exact aW (d,c % d) ⟨hg',hd,by dsimp only;omega⟩ hlt (Wk.of ⟨rfl,rfl,ag⟩ trivial trivial)
  ·refine dI (St.of [(0,vv (I6 d)),(1,vv (I6 (c % d:Nat)))] []) ?_ ?_
   ·((apply ct 3 4 rfl ab rfl rfl rfl rfl;exact kG rfl rfl rfl hd0 hc;exact ai rfl rfl;(focus ((apply aF 4 rfl ab rfl rfl;exact ai rfl rfl);(apply aF 5 rfl ab rfl rfl;exact ai rfl rfl);(refine bh ab ?_;exact aV (Wk.of ⟨rfl,rfl,ag⟩ trivial trivial))));(focus ((apply aF 3 rfl ab rfl rfl;exact kG rfl rfl rfl hd0 hc);(apply aF 5 rfl ab rfl rfl;exact ai rfl rfl);(refine bh ab ?_;exact aV (Wk.of ⟨rfl,rfl,ag⟩ trivial trivial))))))
   ·(refine aM ?_)
    exact aW (d,c % d) ⟨hg',hd,by dsimp only;omega⟩ hlt (Wk.of ⟨rfl,rfl,ag⟩ trivial trivial)
  ·refine dI (St.of [(0,vv (I6 d)),(1,vv (I6 (c % d:Nat)))] []) ?_ ?_
   ·((apply ct 2 4 rfl ab rfl rfl rfl rfl;exact aj rfl rfl;exact ai rfl rfl;(focus ((apply aF 4 rfl ab rfl rfl;exact ai rfl rfl);(apply aF 5 rfl ab rfl rfl;exact ai rfl rfl);(refine bh ab ?_;exact aV (Wk.of ⟨rfl,rfl,ag⟩ trivial trivial))));(focus ((apply aF 2 rfl ab rfl rfl;exact aj rfl rfl);(apply aF 5 rfl ab rfl rfl;exact ai rfl rfl);(refine bh ab ?_;exact aV (Wk.of ⟨rfl,rfl,ag⟩ trivial trivial))))))
   ·(refine aM ?_)
    exact aW (d,c % d) ⟨hg',hd,by dsimp only;omega⟩ hlt (Wk.of ⟨rfl,rfl,ag⟩ trivial trivial)
  ·refine dI (St.of [(0,vv (I6 d)),(1,vv (I6 (c % d:Nat)))] []) ?_ ?_
   ·((apply ct 2 4 rfl ab rfl rfl rfl rfl;exact aj rfl rfl;exact ai rfl rfl;(focus ((apply ct 3 4 rfl ab rfl rfl rfl rfl;exact kG rfl rfl rfl hd0 hc;exact ai rfl rfl;(focus ((apply aF 4 rfl ab rfl rfl;exact ai rfl rfl);(apply aF 5 rfl ab rfl rfl;exact ai rfl rfl);(refine bh ab ?_;exact aV (Wk.of ⟨rfl,rfl,ag⟩ trivial trivial))));(focus ((apply aF 3 rfl ab rfl rfl;exact kG rfl rfl rfl hd0 hc);(apply aF 5 rfl ab rfl rfl;exact ai rfl rfl);(refine bh ab ?_;exact aV (Wk.of ⟨rfl,rfl,ag⟩ trivial trivial)))))));(focus ((apply aF 2 rfl ab rfl rfl;exact aj rfl rfl);(apply aF 3 rfl ab rfl rfl;exact kG rfl rfl rfl hd0 hc);(apply aF 5 rfl ab rfl rfl;exact ai rfl rfl);(refine bh ab ?_;exact aV (Wk.of ⟨rfl,rfl,ag⟩ trivial trivial))))))
   ·(refine aM ?_)
    exact aW (d,c % d) ⟨hg',hd,by dsimp only;omega⟩ hlt (Wk.of ⟨rfl,rfl,ag⟩ trivial trivial)
 ·have hd0:d=0:=by
   have:(d:Int)=0:=by simpa using h
   omega
  subst hd0
  rw [←hg,Nat.gcd_zero_right]
  (refine a7 (aA (aA (aT (an (ak (ah (aa rfl (aj rfl rfl) (aa rfl (ai rfl rfl) (ar (an (aS ?_))))))))))))
  exact bu (.inl rfl) rfl (.tmp rfl) trivial trivial
end Go.Proofs.YtekbhbcgoadciaaGreat
namespace Go.Proofs.YtekbhbcgoadciaaGreat
open Go.RowKit
def pj (k:Nat) (labs:List Int):Nat:=if (dA labs).length=0 then (if zk labs=true∧k≠2 then 1 else 2) else k
def eC (ps:eO) (j:Nat):Nat:=(ps.take j).foldl (fun k p=>pj k p.2) 0
theorem lJ {ps:eO} {j:Nat} (h:j < ps.length):eC ps (j + 1)=pj (eC ps j) (dz ps j).2:=by
 unfold eC
 rw [List.take_add_one,List.getElem?_eq_getElem h,List.foldl_append,nZ h]
 rfl
theorem xU (ps:eO):∀j,eC ps j≤2:=by
 intro j
 induction j with
 | zero=>exact Nat.zero_le _
 | succ j ih=>
  by_cases h:j < ps.length
  ·rw [lJ h];unfold pj;split
   ·split
    ·decide
    ·exact Nat.le_refl _
   ·exact ih
  ·have:eC ps (j + 1)=eC ps j:=by unfold eC;rw [List.take_of_length_le ae,List.take_of_length_le ae]
   rw [this];exact ih
def cB (zs:List Int):Nat:=2 ^ (zs.length + 1) - 1
theorem fM {zs:List Int} (h:zs.length≤4):cB zs < 1000:=by
 have:2 ^ (zs.length + 1)≤2 ^ 5:=Nat.pow_le_pow_right (by decide) ae
 unfold cB;omega
theorem c7 {zs:List Int} (h:cw zs=true):zs.length≤4:=by unfold cw at h;simp at h;omega
theorem Ab {zs:List Int} (h:cw zs=true):∀z∈zs,z=0∨(2≤z∧z≤32):=by
 intro z hz
 unfold cw at h
 simp at h
 have:=h.1 z hz
 unfold eJ kY at this
 simp at this
 omega
theorem ln {zs:List Int} {mask:Nat} (h:cw zs=true) {k:Nat} (hk:k < (comps zs mask).length):nz (dz (comps zs mask) k).2:=by
 have hl:=c7 h
 have hp:=jE zs mask
 have hm:=mb hk
 refine ⟨?_,fun z hz=> ?_⟩
 ·have h1:=rj hm
  have h2:=hp.sum
  omega
 ·have h1:=hp.lab _ hm z hz
  have h2:=Ab h z h1.1
  have h3:=h1.2
  omega
theorem jS (zs:List Int) (L:Nat) (hL:zs.length=L) (hn:L≤4398046511104):FC Tryz.prog 54 [(1003,dk zs)] [o1 (.sl 1003 0 L)] [] (vv (.bool (cw zs))) []:=
 dS fun w η ω us hm ⟨hl,ha⟩=>by
  subst hL
  obtain ⟨u0,g0,d0⟩:=ha 0 _ rfl
  obtain ⟨ao,c,rfl,hI⟩:=Fg (x:=1003) hm rfl d0 ae
  rw [vt hl g0]
  exact gT ao _ c _ w hI
theorem rq (zs:List Int) (L:Nat) (hL:zs.length=L) (hn:L≤4398046511104):FC Tryz.prog 72 [(1003,dk zs)] [o1 (.sl 1003 0 L)] [] (vv (.bool (cw zs))) []:=
 dS fun w η ω us hm ⟨hl,ha⟩=>by
  subst hL
  obtain ⟨u0,g0,d0⟩:=ha 0 _ rfl
  obtain ⟨ao,c,rfl,hI⟩:=Fg (x:=1003) hm rfl d0 ae
  rw [vt hl g0]
  refine (vA ao _ c _ w hI).mono ?_
  rintro e w' ⟨rfl,rfl⟩
  exact ⟨rfl,Below.refl _ _⟩
theorem yq (L:Nat):1≤2 ^ L:=Nat.one_le_two_pow
theorem ly (zs:List Int) (L:Nat) (hL:zs.length=L) (h4:L≤4):FC Tryz.prog 57 [(1003,dk zs)] [o1 (.sl 1003 0 L)] [] (vv (I6 (cB zs))) []:=by
 have h5:L≤5:=by omega
 have hp:2 ^ (L + 1)≤2 ^ 5:=Nat.pow_le_pow_right (by decide) ae
 have h1:=yq (L + 1)
 have hw:IntKind.i64.wrap (((2 ^ (L + 1):Nat):Int) - 1)=((cB zs:Nat):Int):=by
  rw [IntWalk.i64_in _ ae]
  unfold cB;rw [hL];omega
 refine bj (nt:=7) Tryz.func57 rfl rfl (by simp) fun w0 ω0=> ?_
 (refine ak (ah (aa rfl (ai rfl rfl) (ar (an (ak (ah (aa rfl (aj rfl rfl) (aa rfl (bw rfl rfl rfl ab) ?_))))))));apply aa rfl;(first | exact yS (g:=L) rfl rfl rfl h5 | exact cg rfl rfl rfl hw);apply aa rfl;(first | exact yS (g:=L) rfl rfl rfl h5 | exact cg rfl rfl rfl hw);refine aa rfl (ai rfl rfl) (ar (an (aS ?_))))
 exact bu (.inl rfl) rfl (.tmp rfl) trivial trivial
def ka (zs:List Int):Int:=if cw zs=true then ((eC (comps zs (cB zs)) (comps zs (cB zs)).length:Nat):Int) else 0
def ja (zs:List Int):Int:=if cw zs=true then 0 else 1
end Go.Proofs.YtekbhbcgoadciaaGreat
namespace Go.Proofs.YtekbhbcgoadciaaGreat
open Go.RowKit
section
variable {P:Program} {ops:Array Oper} {C:World→Prop} {o:Oper} {a:Act} {K:Act→Prop}
theorem pJ {u:Value} (h:∀w,C w→(execOp a.eval o).run P w= .ok (.value u) w) (hk:K (a.put o.dst u)):o.quiet P a C K:=
 ⟨u,fun w hw=>by unfold Oper.quietAt;rw [h w hw];exact ⟨rfl,rfl⟩,hk⟩
theorem nC {f:FuncId} {args:Array Value} {v:Value} (h:∀w,C w→(execOp a.eval o).run P w= .ok (.enter f args) w) (hc:∀w,C w→Calls P f args w (fun e w''=>e= .returned v∧C w'')) (hk:K (a.put o.dst v)):o.quiet P a C K:=
 ⟨v,fun w hw=>by unfold Oper.quietAt;rw [h w hw];exact ⟨rfl,hc w hw⟩,hk⟩
theorem jD {id:Nat} {Q:Exit→Act→World→Prop} {w:World} {l:List Oper} (hm:P.follows .mixedOrders=true) (hB:Region.lexB .any l.toArray=true)
  (h:wpQuiet P l.toArray (fun w'=>Below w.heap.size w w') (fun a'=>∀w',Below w.heap.size w w'→Q .normal a' w') l a):(Code.region id l.toArray true).wp P Q a w:=
 wp_region_quiet (C:=fun w'=>Below w.heap.size w w') hm hB (x9 w) (by simpa using h)
end
end Go.Proofs.YtekbhbcgoadciaaGreat
namespace Go.Proofs.YtekbhbcgoadciaaGreat
open Go.RowKit
theorem Gm (x:Int) (w:World):Calls Tryz.prog 185 #[.int .i64 x] w fun e w'=>e= .returned (.bool false)∧w'=w:=by
 have hx:(x != x)=false:=by simp
 go_enter Tryz.func185,Tryz.ntmps185
 go_wp2
 go_ret
 exact ⟨rfl,rfl⟩
theorem yD (x y:Int) (w:World):Calls Tryz.prog 165 #[.int .i64 x, .int .i64 y] w fun e w'=>e= .returned (.bool (decide (x < y)))∧w'=w:=by
 go_enter Tryz.func165,Tryz.ntmps165
 go_wp2_with (go_at_call 185;refine (Gm _ _).mono ?_;rintro e w' ⟨rfl,rfl⟩)
 go_ret
 exact ⟨rfl,rfl⟩
theorem Gi (w:World):Calls Tryz.prog 169 #[.int .u64 0] w fun e w'=>(∃r:Int,e= .returned (.int .i64 r))∧w'=w:=by
 go_enter Tryz.func169,Tryz.ntmps169
 go_wp2
 go_ret
 exact ⟨⟨_,rfl⟩,rfl⟩
theorem Fq (w:World):Calls Tryz.prog 169 #[.int .u64 1] w fun e w'=>(∃r:Int,e= .returned (.int .i64 r))∧w'=w:=by
 go_enter Tryz.func169,Tryz.ntmps169
 go_wp2
 go_ret
 exact ⟨⟨_,rfl⟩,rfl⟩
theorem FT (w:World):Calls Tryz.prog 169 #[.int .u64 2] w fun e w'=>(∃r:Int,e= .returned (.int .i64 r))∧w'=w:=by
 go_enter Tryz.func169,Tryz.ntmps169
 go_wp2
 go_ret
 exact ⟨⟨_,rfl⟩,rfl⟩
theorem Gd (w:World):Calls Tryz.prog 169 #[.int .u64 3] w fun e w'=>(∃r:Int,e= .returned (.int .i64 r))∧w'=w:=by
 go_enter Tryz.func169,Tryz.ntmps169
 go_wp2
 go_ret
 exact ⟨⟨_,rfl⟩,rfl⟩
theorem FV (w:World):Calls Tryz.prog 169 #[.int .u64 4] w fun e w'=>(∃r:Int,e= .returned (.int .i64 r))∧w'=w:=by
 go_enter Tryz.func169,Tryz.ntmps169
 go_wp2
 go_ret
 exact ⟨⟨_,rfl⟩,rfl⟩
theorem FZ (w:World):Calls Tryz.prog 169 #[.int .u64 5] w fun e w'=>(∃r:Int,e= .returned (.int .i64 r))∧w'=w:=by
 go_enter Tryz.func169,Tryz.ntmps169
 go_wp2
 go_ret
 exact ⟨⟨_,rfl⟩,rfl⟩
theorem Cj (k:Nat) (hk:k≤5) (w:World):Calls Tryz.prog 169 #[.int .u64 k] w fun e w'=>(∃r:Int,e= .returned (.int .i64 r))∧w'=w:=by
 rcases (by omega:k=0∨k=1∨k=2∨k=3∨k=4∨k=5) with rfl | rfl | rfl | rfl | rfl | rfl
 ·exact Gi w
 ·exact Fq w
 ·exact FT w
 ·exact Gd w
 ·exact FV w
 ·exact FZ w
theorem Fs (k:Nat) (hk:k≤5) (w:World):Calls Tryz.prog 141 #[.int .u64 k] w fun e w'=>(∃r:Int,e= .returned (.int .i64 r))∧w'=w:=by
 go_enter Tryz.func141,Tryz.ntmps141
 go_wp2_with fail
 refine (Cj k hk _).mono ?_
 rintro e w' ⟨⟨r,rfl⟩,rfl⟩
 go_wp2
 go_ret
 exact ⟨⟨_,rfl⟩,rfl⟩
def J2 (cur:List Int) (i j:Nat):Prop:=∀x y,x < y→y≤i→y≠j→aC cur x≤aC cur y
theorem swap_perm:∀(l:List Int) (k:Nat),k + 1 < l.length→((l.set (k + 1) (aC l k)).set k (aC l (k + 1))).Perm l
 | [],k,h=>by simp at h
 | [a],k,h=>by simp at h
 | a :: b :: r,0,_=>by
  simp only [List.set_cons_succ,List.set_cons_zero]
  exact List.Perm.swap a b r
 | a :: b :: r,k + 1,h=>by
  have:=swap_perm (b :: r) k (by simpa using h)
  rw [show aC (a :: b :: r) (k + 1)=aC (b :: r) k by simp [aC],show aC (a :: b :: r) (k + 1 + 1)=aC (b :: r) (k + 1) by simp [aC],List.set_cons_succ,List.set_cons_succ]
  exact this.cons a
theorem yP {cur:List Int} {i j:Nat} (h:J2 cur i j) (hs:j=0∨aC cur (j - 1)≤aC cur j):∀x y,x < y→y≤i→aC cur x≤aC cur y:=by
 intro x y h1 h2
 by_cases e:y=j
 ·subst e
  rcases hs with h0 | h0
  ·omega
  ·by_cases e2:x=y - 1
   ·rw [e2];exact h0
   ·exact Int.le_trans (h x (y - 1) ae ae ae) h0
 ·exact h x y h1 h2 e
theorem D2 {cur:List Int} {i k:Nat} (hl:k + 1 < cur.length) (hk:k + 1≤i) (h:J2 cur i (k + 1)) (hlt:aC cur (k + 1) < aC cur k):J2 ((cur.set (k + 1) (aC cur k)).set k (aC cur (k + 1))) i k:=by
 have e1:aC ((cur.set (k + 1) (aC cur k)).set k (aC cur (k + 1))) k=aC cur (k + 1):=kh (by simp;omega) _
 have e2:aC ((cur.set (k + 1) (aC cur k)).set k (aC cur (k + 1))) (k + 1)=aC cur k:=by rw [iK ae,kh hl]
 have e3:∀z,z≠k→z≠k + 1→aC ((cur.set (k + 1) (aC cur k)).set k (aC cur (k + 1))) z=aC cur z:=fun z h1 h2=>by rw [iK (fun e=>h1 e.symm),iK (fun e=>h2 e.symm)]
 intro x y h1 h2 h3
 by_cases y1:y=k + 1
 ·subst y1
  rw [e2]
  by_cases x1:x=k
  ·subst x1;rw [e1];omega
  ·rw [e3 x x1 ae];exact h x k ae ae ae
 ·rw [e3 y h3 y1]
  by_cases x1:x=k
  ·subst x1;rw [e1];exact h (x + 1) y ae h2 y1
  ·by_cases x2:x=k + 1
   ·subst x2;rw [e2];exact h k y ae h2 y1
   ·rw [e3 x x1 x2];exact h x y h1 h2 y1
def cJ (zs:List Int):List Int:=zs.mergeSort (fun a b=>decide (a≤b))
theorem vm {l:List Int} (h:∀x y,x < y→y < l.length→aC l x≤aC l y):l.Pairwise (· ≤·):=by
 rw [List.pairwise_iff_getElem]
 intro i j hi hj hij
 have:=h i j hij hj
 rwa [cX hi,cX hj] at this
theorem nF {l zs:List Int} (hp:l.Perm zs) (ha:l.Pairwise (· ≤·)):l=cJ zs:=by
 have h1:(cJ zs).Pairwise (· ≤·):=by
  have:=List.pairwise_mergeSort (le:=fun a b:Int=>decide (a≤b)) (fun a b c h1 h2=>by simp at *;omega) (fun a b=>by simp;omega) zs
  exact this.imp (by simp)
 exact List.Perm.eq_of_pairwise (fun a b _ _ h1 h2=>Int.le_antisymm h1 h2) ha h1 (hp.trans (List.mergeSort_perm zs _).symm)
theorem pr (zs:List Int):(cJ zs).length=zs.length:=(List.mergeSort_perm zs _).length_eq
end Go.Proofs.YtekbhbcgoadciaaGreat
namespace Go.Proofs.YtekbhbcgoadciaaGreat
theorem Ec {k:Nat} {labs:List Int} :pj k labs=0↔k=0∧(dA labs).length≠0:=by
 unfold pj
 by_cases h:(dA labs).length=0
 ·rw [if_pos h]
  constructor
  ·intro h2;split at h2<;>omega
  ·intro h2;exact absurd h h2.2
 ·rw [if_neg h];exact ⟨fun h2=>⟨h2,h⟩,fun h2=>h2.1⟩
theorem ri {ps:eO} :∀j,j≤ps.length→(eC ps j=0↔∀k,k < j→(dA (dz ps k).2).length≠0)
 | 0,_=>⟨fun _ k hk=>absurd hk ae,fun _=>rfl⟩
 | j + 1,h=>by
  rw [lJ ae,Ec,ri j ae]
  constructor
  ·intro ⟨h1,h2⟩ k hk
   by_cases e:k=j
   ·rw [e];exact h2
   ·exact h1 k ae
  ·intro h1;exact ⟨fun k hk=>h1 k ae,h1 j ae⟩
def fO (ps:eO) (j:Nat):List Int:=((ps.take j).map fun p=>dA p.2).flatten
theorem kL {ps:eO} {j:Nat} (h:j < ps.length):fO ps (j + 1)=fO ps j ++ dA (dz ps j).2:=by
 unfold fO
 rw [List.take_add_one,List.getElem?_eq_getElem h,nZ h,List.map_append,List.flatten_append]
 simp only [Option.toList_some,List.map_cons,List.map_nil,List.flatten_cons,List.flatten_nil,List.append_nil]
def mY (labs:List Int):Nat:=(aC (dA labs) ((dA labs).length - 1)).toNat
def lG (ps:eO) (j:Nat):Nat:=(ps.take j).foldl (fun m p=>Nat.lcm m (mY p.2)) 1
theorem pU {ps:eO} {j:Nat} (h:j < ps.length):lG ps (j + 1)=Nat.lcm (lG ps j) (mY (dz ps j).2):=by
 unfold lG
 rw [List.take_add_one,List.getElem?_eq_getElem h,List.foldl_append,nZ h]
 rfl
theorem wc {labs:List Int} (h:nz labs):mY labs≤32:=by
 unfold mY
 by_cases hl:(dA labs).length=0
 ·rw [List.length_eq_zero_iff.1 hl];simp [aC]
 ·have:=qU h _ (eH (zs:=dA labs) (k:=(dA labs).length - 1) ae)
  omega
theorem xj {labs:List Int} (h:nz labs) (hl:(dA labs).length≠0):0 < mY labs:=by
 unfold mY
 have:=qU h _ (eH (zs:=dA labs) (k:=(dA labs).length - 1) ae)
 omega
theorem yl {labs:List Int} (h:nz labs) (hl:(dA labs).length≠0):aC (dA labs) ((dA labs).length - 1)=(mY labs:Int):=by
 have:=qU h _ (eH (zs:=dA labs) (k:=(dA labs).length - 1) ae)
 unfold mY
 omega
theorem FM (m h:Nat):Nat.lcm m h≤m * h:=by unfold Nat.lcm;exact Nat.div_le_self _ _
theorem Bq {ps:eO} (hL:∀k,k < ps.length→nz (dz ps k).2):∀j,j≤ps.length→lG ps j≤32 ^ j
 | 0,_=>by simp [lG]
 | j + 1,h=>by
  rw [pU ae,Nat.pow_succ]
  exact Nat.le_trans (FM _ _) (Nat.mul_le_mul (Bq hL j ae) (wc (hL j ae)))
theorem Bs {ps:eO} (hL:∀k,k < ps.length→nz (dz ps k).2) {j:Nat} (h:j≤ps.length) (h5:j≤5):lG ps j≤33554432:=
 Nat.le_trans (Bq hL j h) (Nat.le_trans (Nat.pow_le_pow_right (by decide) h5) (by decide))
theorem AK (m h:Nat):m * (h / Nat.gcd m h)=Nat.lcm m h:=by unfold Nat.lcm;rw [Nat.mul_div_assoc _ (Nat.gcd_dvd_right m h)]
theorem xr {m h:Nat} (hh:0 < h):0 < Nat.gcd m h:=Nat.gcd_pos_of_pos_right m hh
theorem yh {n:Nat} {step:Int} {i:Nat} (h:i < n):aC (gm n step) i=2 + step * i:=by
 rw [cX (by rw [dt];exact h)];simp [gm]
theorem xD {labs:List Int} (hL:nz labs):∀i,i + 1 < (dA labs).length→aC (dA labs) i≤aC (dA labs) (i + 1):=by
 have hr:∀step:Int,0≤step→∀i,i + 1 < (gm (labs.length + 1) step).length→aC (gm (labs.length + 1) step) i≤aC (gm (labs.length + 1) step) (i + 1):=fun step hs i hi=>by
  rw [dt] at hi
  rw [yh ae,yh hi]
  have:step * (i:Int)≤step * ((i + 1:Nat):Int):=Int.mul_le_mul_of_nonneg_left ae hs
  omega
 have h0:∀l:List Int,l.length≤4→(∀i,i < 3→i + 1 < l.length→aC l i≤aC l (i + 1))→∀i,i + 1 < l.length→aC l i≤aC l (i + 1):=fun l h1 h2 i hi=>h2 i ae hi
 unfold dA
 split
 ·intro i hi;simp at hi
 split
 ·rename_i h1 h2
  have h3:=hL.2 _ (eH (zs:=labs) (k:=0) ae)
  intro i hi
  obtain rfl:i=0:=by simp at hi;omega
  show (2:Int)≤aC labs 0
  omega
 split
 ·intro i hi;simp at hi
  rcases (by omega:i=0∨i=1) with rfl | rfl<;>decide
 split
 ·intro i hi;simp at hi
  rcases (by omega:i=0∨i=1∨i=2) with rfl | rfl | rfl<;>decide
 split
 ·intro i hi;simp at hi
  rcases (by omega:i=0∨i=1∨i=2) with rfl | rfl | rfl<;>decide
 split
 ·exact hr 1 (by decide)
 split
 ·exact hr 2 (by decide)
 ·intro i hi;simp at hi
def gO (zs:List Int) (mask:Nat):Bool:=decide (eC (comps zs mask) (comps zs mask).length=0)
def eV (zs:List Int) (mask:Nat):List Int:=cJ (fO (comps zs mask) (comps zs mask).length)
def wv (zs:List Int) (mask:Nat):Nat:=lG (comps zs mask) (comps zs mask).length
theorem lU {ps:eO} (hL:∀k,k < ps.length→nz (dz ps k).2):∀j,j≤ps.length→(fO ps j).length≤iy (ps.take j)
 | 0,_=>by simp [fO]
 | j + 1,h=>by
  rw [kL ae,List.take_add_one,List.getElem?_eq_getElem ae,rI,List.length_append]
  have h1:=lU hL j ae
  have h2:=Dk (dz ps j).2 (hL j ae).1
  rw [nZ ae] at h2 ⊢
  simp [iy] at h1 ⊢
  omega
theorem mX (ps:eO) (j:Nat):iy (ps.take j)≤iy ps:=by
 have:iy ps=iy (ps.take j) + iy (ps.drop j):=by rw [←rI,List.take_append_drop]
 omega
end Go.Proofs.YtekbhbcgoadciaaGreat
namespace Go.Proofs.YtekbhbcgoadciaaGreat
open Go.RowKit
def Hp:List Int:= [0,2,3,4,5,6]
def y9:Nat→List (List Int)
 | 0=> [[]]
 | k + 1=>Hp.flatMap fun z=>(y9 k).map fun l=>z :: l
def Bb:List (List Int):=gB ++ (jH ++ (y9 0 ++ (y9 1 ++ (y9 2 ++ y9 3))))
def Dq:List (List Int):=Bb ++ (Bb.filter fun l=>decide (l.length≤1)).map fun l=>l ++ [2,2,2]
def Cx:List (List Int):= [[], [3], [4], [5], [3,3], [4,3], [3,4], [5,3], [3,5], [2], [2,3], [3,2], [6,2], [3,3,3], [2,2], [7], [3,2,3], [4,2,3], [3,3,4], [4,3,3], [2,3,3], [3,3,2], [2,2,2,2], [3,2,2], [3,4,3], [3,3,5], [5,3,3], [3,3,3,3], [3,3,3,4], [5,3,2], [6], [2,4], [2,5], [2,6], [4,2], [5,2], [2,2,2], [2,2,3], [2,2,4], [2,2,5], [2,2,6], [2,3,2], [2,3,4], [2,3,5], [2,4,2], [2,4,3], [2,5,2], [2,5,3], [2,6,2], [3,2,4], [3,2,5], [3,2,6], [3,4,2], [3,5,2], [4,2,2], [4,2,4], [4,2,5], [4,2,6], [4,3,2], [5,2,2], [5,2,3], [5,2,4], [5,2,5], [5,2,6], [6,2,2], [6,2,3], [6,2,4], [6,2,5], [6,2,6], [3,2,2,2], [4,2,2,2], [5,2,2,2], [7,2,2,2], [6,2,2,2]]
theorem FI {z:Int} (h:wA z=true):z∈Hp:=by
 unfold wA at h
 have h1:z=0∨(2≤z∧z≤6):=by simpa using h
 have h2:z=0∨z=2∨z=3∨z=4∨z=5∨z=6:=by omega
 unfold Hp
 simpa using h2
theorem Bh:∀zs:List Int,zs.all wA=true→zs∈y9 zs.length
 | [],_=>by simp [y9]
 | z :: l,h=>by
  rw [List.all_cons,Bool.and_eq_true] at h
  exact List.mem_flatMap.2 ⟨z,FI h.1,List.mem_map.2 ⟨l,Bh l h.2,rfl⟩⟩
theorem xM {zs:List Int} (h:F3 zs):zs∈Bb:=by
 unfold Bb
 simp only [List.mem_append]
 rcases h with h | h | ⟨h,h'⟩
 ·exact .inl h
 ·exact .inr (.inl h)
 ·have hb:=Bh zs h'
  rcases (by omega:zs.length=0∨zs.length=1∨zs.length=2∨zs.length=3) with e | e | e | e<;>rw [e] at hb
  ·exact .inr (.inr (.inl hb))
  ·exact .inr (.inr (.inr (.inl hb)))
  ·exact .inr (.inr (.inr (.inr (.inl hb))))
  ·exact .inr (.inr (.inr (.inr (.inr hb))))
theorem DS {zs:List Int} (h:I2 zs) (hd:cw zs=true):zs∈Dq:=by
 unfold Dq
 rw [List.mem_append]
 rcases h with h | ⟨ys,z,hy,hz,rfl⟩ | ⟨ys,hy,rfl⟩
 ·exact .inl (xM h)
 ·exfalso
  unfold cw at hd
  rw [Bool.and_eq_true,List.all_append,Bool.and_eq_true] at hd
  have h1:eJ z=true:=by simpa using hd.1.2
  have h2:z=1∨z= -1∨z=33:=by simpa using hz
  rcases h2 with rfl | rfl | rfl<;>revert h1<;>decide
 ·refine .inr (List.mem_map.2 ⟨ys,List.mem_filter.2 ⟨xM hy, ?_⟩,rfl⟩)
  have:=zY hd
  rw [List.length_append] at this
  simp at this ⊢;omega
theorem E2:(Dq.all fun zs=> !gO zs (cB zs) || Cx.contains zs)=true:=by decide +kernel
theorem FP {zs:List Int} (h:I2 zs) (hd:cw zs=true) (hf:gO zs (cB zs)=true):zs∈Cx:=by
 have h1:=List.all_eq_true.1 E2 zs (DS h hd)
 rw [hf] at h1
 simpa using h1
end Go.Proofs.YtekbhbcgoadciaaGreat
namespace Go.Proofs.YtekbhbcgoadciaaGreat
open Go.RowKit
abbrev fS (ps:eO):List kX:=ps.flatMap fun p=> [.v (I6 (p.1:Int)), .r 2 1 p.2.length (aL p.2)]
abbrev rF (ps:eO):Ch:=⟨true,83,2, .mix (fS ps)⟩
theorem oq (ps:eO):(fS ps).length=ps.length * 2:=by
 induction ps with
 | nil=>rfl
 | cons p r ih=>simp [fS] at ih ⊢;omega
theorem kO:∀ {ps:eO} {k:Nat},k < ps.length→(fS ps)[k * 2]? =some (.v (I6 ((dz ps k).1:Int)))∧(fS ps)[k * 2 + 1]? =some (.r 2 1 (dz ps k).2.length (aL (dz ps k).2))
 | [],_,h=>by simp at h
 | p :: r,0,_=>⟨rfl,rfl⟩
 | p :: r,k + 1,h=>by
  have:=kO (ps:=r) (k:=k) (by simpa using h)
  rw [show (k + 1) * 2=k * 2 + 2 by omega]
  exact this
theorem DA (a b:eO):fS (a ++ b)=fS a ++ fS b:=by simp [fS]
theorem x6:∀(ps:eO) (k:Nat) (m:Nat) (zs:List Int),k < ps.length→((fS ps).set (k * 2) (.v (I6 (m:Int)))).set (k * 2 + 1) (.r 2 1 zs.length (aL zs))=fS (ps.set k (m,zs))
 | [],_,_,_,h=>by simp at h
 | p :: r,0,m,zs,_=>rfl
 | p :: r,k + 1,m,zs,h=>by
  have:=x6 r k m zs (by simpa using h)
  rw [show (k + 1) * 2=k * 2 + 2 by omega]
  show ((.v (I6 (p.1:Int))) :: .r 2 1 p.2.length (aL p.2) :: ((fS r).set (k * 2) (.v (I6 (m:Int)))).set (k * 2 + 1) (.r 2 1 zs.length (aL zs)))=_
  rw [this];rfl
theorem se (zs:List Int) (L mask:Nat) (hL:zs.length=L) (h4:L≤4) (hm:mask < 1000):
  FC Tryz.prog 69 [(1003,dk zs)] [o1 (.sl 1003 0 L),vv (I6 mask)] [(2000,rF (comps zs mask))] (o1 (.sl 2000 0 (comps zs mask).length)) []:=by
 have hSz:=rE 1003 L
 refine bj (nt:=68) Tryz.func69 rfl rfl (by simp) fun w0 ω0=> ?_
 have hil:L≤(aL zs).length:=by rw [bc,hL];exact Nat.le_refl _
 have hL1:IntKind.i64.wrap ((L:Int) + 1)=((L + 1:Nat):Int):=IntWalk.i64_in _ ae
 (refine ak (ah (aa rfl (ai rfl rfl) (ar (an (ak (ah (aa rfl (ai rfl rfl) (ar (an (ak (ah ?_)))))))))));refine aa rfl (ai rfl rfl) (ar (an (ak (ak (ah (aa rfl (aj rfl rfl) ?_))))));apply aa rfl;(first | (apply au 62;exact aw hSz ab rfl rfl ⟨rfl,ag⟩ trivial rfl rfl) | exact aP rfl rfl rfl hL1);apply aa rfl;(first | (apply au 62;exact aw hSz ab rfl rfl ⟨rfl,ag⟩ trivial rfl rfl) | exact aP rfl rfl rfl hL1);refine aa rfl (aj rfl rfl) (ar (an (aB ?_))))
 refine bz (fun q:Nat×eO×Bool=>St.of [(0,o1 (.sl 1003 0 L)),(1,vv (I6 mask)),(5,o1 (.sl 2000 0 q.2.1.length)),(6,vv (.bool q.2.2)),(11,vv (I6 (L + 1:Nat))),(12,vv (I6 q.1))] [(1003,dk zs),(2000,rF q.2.1)])
  (fun q=>q.1≤L + 1∧vN zs mask q.1=q.2.1∧(q.1≤L→q.2.2=jn zs mask q.1)) (fun q=>L + 1 - q.1) (0, [],false) ⟨Nat.zero_le _,rfl,fun _=>rfl⟩
  (Wk.trans (nq (t:=5) (n:=2000) (k:=2) (E:=83) (d:= .mix (fS [])) rfl rfl) (Wk.of ⟨rfl,rfl,rfl,rfl,rfl,rfl,ag⟩ ⟨rfl,rfl,ag⟩ trivial)) ?_
 rintro ⟨i,ps,jb⟩ ⟨hi,hp,hj⟩
 dsimp only at hi hp hj ⊢
 have hps:=wm zs mask i ae
 have hnx:=sM zs mask i
 rw [hp] at hps hnx
 have hpl:ps.length≤5:=by have:=iO ps;have:=hps.sum;omega
 have hmx:=oq ps
 (refine ak (ah (aa rfl (aG rfl rfl rfl rfl) (ar (an (ak ?_))))))
 refine bK rfl (fun hlt=> ?_) (fun hlt=> ?_)
 ·have hiL:i≤L:=by omega
  have hj:=hj hiL
  have hi64:i≤64:=by omega
  have hmm:mask < 1000000:=by omega
  have hmle:mask / 2 ^ i≤mask:=Nat.div_le_self _ _
  (refine aE (an (ak (aB (ak (ah (aa rfl (aj rfl rfl) (aa rfl (ai rfl rfl) (ar (an (ak (ak ?_)))))))))));refine ah (aa rfl (aj rfl rfl) (aa rfl (aj rfl rfl) ?_));apply aa rfl;(first | exact dZ (g:=i) rfl rfl rfl hi64 | exact eW rfl rfl hmm | exact gE rfl rfl);apply aa rfl;(first | exact dZ (g:=i) rfl rfl rfl hi64 | exact eW rfl rfl hmm | exact gE rfl rfl);apply aa rfl;(first | exact dZ (g:=i) rfl rfl rfl hi64 | exact eW rfl rfl hmm | exact gE rfl rfl);refine ar (an ?_))
  refine ax rfl (fun hb=> ?_) (fun hb=> ?_)
  ·have hb:gp mask i=false:=by simpa using hb
   have hv:vN zs mask (i + 1)=ps:=by rw [hnx];unfold rr;rw [if_neg (by rw [hb];simp)]
   (refine ak (ah (aa rfl (ai rfl rfl) (ar (an (a7 (aA (aT (an (ah ?_)))))))));apply aa rfl;exact aP rfl rfl rfl bA;refine aa rfl (aj rfl rfl) (ar ?_))
   exact aW (i + 1,ps,false) ⟨ae,hv,fun _=>by unfold jn;rw [Nat.add_sub_cancel,hb];simp⟩ (by show L + 1 - (i + 1) < L + 1 - i;omega) (Wk.of ⟨rfl,rfl,rfl,rfl,rfl,rfl,ag⟩ ⟨rfl,rfl,ag⟩ trivial)
  ·have hb:gp mask i=true:=by simpa using hb
   unfold rr at hnx
   rw [if_pos hb,←hj] at hnx
   have hjn:∀b:Bool,i≤L→(i + 1≤L→b= !(aC zs i == 2))→(i + 1≤L→b=jn zs mask (i + 1)):=fun b _ h1 h2=>by
    rw [h1 h2];unfold jn;rw [Nat.add_sub_cancel,hb];simp
   have hi5:i≤5:=by omega
   (refine aE (an (ak (ak (ah (aa rfl (aj rfl rfl) (ar (an ?_))))))))
   refine cW (St.of [(0,o1 (.sl 1003 0 L)),(1,vv (I6 mask)),(5,o1 (.sl 2000 0 (vN zs mask (i + 1)).length)),(7,vv (I6 i)),(11,vv (I6 (L + 1:Nat))),(12,vv (I6 i))] [(1003,dk zs),(2000,rF (vN zs mask (i + 1)))]) ?_ ?_
   ·refine ax rfl (fun hjb=> ?_) (fun hjb=> ?_)
    ·have hjs:=vx (hj ▸ hjb)
     have hne:=hps.ne hjs.1 hjs.2.1
     obtain ⟨j,hjl⟩:∃j,ps.length=j + 1:=⟨ps.length - 1,ae⟩
     have hjp:j < ps.length:=by omega
     have hv:vN zs mask (i + 1)=ps.set j ((dz ps j).1 ||| 2 ^ i,(dz ps j).2 ++ [aC zs (i - 1)]):=by
      rw [hnx,if_pos hjb];unfold Bi;rw [show ps.length - 1=j by omega]
     have hsub:IntKind.i64.wrap ((ps.length:Int) - 1)=(j:Int):=by rw [hjl];exact (IntWalk.i64_in _ ae).trans ae
     have hget:=kO hjp
     have hmlt:=hps.lt _ (mb hjp)
     have hllt:=rj (mb hjp)
     have hsum:=hps.sum
     have h2i:2 ^ i≤2 ^ 5:=Nat.pow_le_pow_right (by decide) hi5
     have hset:=x6 ps j ((dz ps j).1 ||| 2 ^ i) ((dz ps j).2 ++ [aC zs (i - 1)]) hjp
     have hml:(fS ps).length=ps.length * 2:=hmx
     rw [hv]
     generalize (dz ps j).1=m at *
     generalize (dz ps j).2=labs at *
     have gz:(aL zs)[i - 1]? =some (I6 (aC zs (i - 1))):=bl ae
     have hi1:(i:Int) - 1=((i - 1:Nat):Int):=by omega
     have hi1L:i - 1 < L:=by omega
     have hm6:m < 1000000:=by omega
     have h2i6:2 ^ i < 1000000:=by omega
     have hv0:(fS ps)[j * 2 + 0]? =some (.v (I6 (m:Int))):=hget.1
     have hv1:((fS ps).set (j * 2 + 0) (.v (I6 ((m ||| 2 ^ i:Nat):Int))))[j * 2 + 1]? =some (.r 2 1 labs.length (aL labs)):=by
      rw [List.getElem?_set_ne ae];exact hget.2
     have hvl:(aL (labs ++ [aC zs (i - 1)])).length=(labs.length + 1) * 1:=by rw [bc];simp
     have hk1l:j * 2 + 1 < (((fS ps).set (j * 2 + 0) (.v (I6 ((m ||| 2 ^ i:Nat):Int)))).set (j * 2 + 1) .any).length:=by rw [List.length_set,List.length_set];omega
     have hfin:(((fS ps).set (j * 2 + 0) (.v (I6 ((m ||| 2 ^ i:Nat):Int)))).set (j * 2 + 1) .any).set (j * 2 + 1) (.r 2 1 (labs.length + 1) (aL (labs ++ [aC zs (i - 1)])))=fS (ps.set j (m ||| 2 ^ i,labs ++ [aC zs (i - 1)])):=by
      rw [List.set_set,←hset];simp
     have hix:ps.length * 2≤(fS ps).length:=Nat.le_of_eq hmx.symm
     (refine ak (ah (aa rfl (aj rfl rfl) (aa rfl (aj rfl rfl) (aa rfl (bw rfl rfl rfl ab) ?_))));apply aa rfl;(first | exact cg rfl rfl rfl hsub | exact dL (k:=2) (j:=j) rfl rfl rfl rfl rfl ab rfl hjp hix ae rfl);apply aa rfl;(first | exact cg rfl rfl rfl hsub | exact dL (k:=2) (j:=j) rfl rfl rfl rfl rfl ab rfl hjp hix ae rfl);refine aa rfl (ai rfl rfl) (ar (an (ak ?_))))
     apply eE 7 [] [[], [0], [0,1], [0,1,2], [], [4], [0,1,2,3,4,5], [0,1,2,3,4,5,6], [0,1,2,3,4,5,6,7], [0,1,2,3,4,5,6,7,8]] [26,27,28,29,30,31,32] [] (by kernel_rfl) (by kernel_rfl)
     ·(apply aK rfl;(intro S1 hS;exact aj rfl (hS.op rfl));apply aK rfl;(intro S1 hS;exact bC rfl (hS.op rfl) (hS.ch _ _ rfl));apply aK rfl;(intro S1 hS;exact aI (d:=0) rfl (hS.op rfl) (hS.ch _ _ rfl) ab);(first | (apply aK rfl;(focus (intro S1 hS;exact pX rfl ab (hS.op rfl) (hS.ch _ _ rfl) rfl hv0))) | (apply aK rfl;(focus (intro S1 hS;exact fo (g:=i) rfl (hS.op rfl) (hS.op rfl) hi5))) | (apply aK rfl;(focus (intro S1 hS;exact vu rfl (hS.op rfl) (hS.op rfl) hm6 h2i6))));apply aK rfl;(intro S1 hS;exact aj rfl (hS.op rfl));(first | (apply aK rfl;(focus (intro S1 hS;exact pX rfl ab (hS.op rfl) (hS.ch _ _ rfl) rfl hv0))) | (apply aK rfl;(focus (intro S1 hS;exact fo (g:=i) rfl (hS.op rfl) (hS.op rfl) hi5))) | (apply aK rfl;(focus (intro S1 hS;exact vu rfl (hS.op rfl) (hS.op rfl) hm6 h2i6))));(first | (apply aK rfl;(focus (intro S1 hS;exact pX rfl ab (hS.op rfl) (hS.ch _ _ rfl) rfl hv0))) | (apply aK rfl;(focus (intro S1 hS;exact fo (g:=i) rfl (hS.op rfl) (hS.op rfl) hi5))) | (apply aK rfl;(focus (intro S1 hS;exact vu rfl (hS.op rfl) (hS.op rfl) hm6 h2i6))));exact ft.nil)
     ·rfl
     ((apply aF 7 rfl ab rfl rfl;exact bC rfl rfl rfl);(apply aF 8 rfl ab rfl rfl;(exact aI (d:=0) rfl rfl rfl ab));(apply aF 9 rfl ab rfl rfl;exact zr rfl rfl rfl rfl rfl hv0 ab rfl);(refine bh ab ?_;skip))
     (refine an ?_)
     apply ny 11 [] 0 [[], [], [1], [1,2], [1,2,3], [], [], [6], [5,6,7], [5,6,7,8], [5,6,7,8,9], [1,2,3,4,5,6,7,8,9,10], [0,1,2,3,4,5,6,7,8,9,10,11], [0,1,2,3,4,5,6,7,8,9,10,11,12], [0,1,2,3,4,5,6,7,8,9,10,11,12,13]] [35,36,37,38,39,40,41,42,43,44,45] [45] (by kernel_rfl) (by kernel_rfl) rfl
     ·(apply aK rfl;(intro S1 hS;exact aj rfl (hS.op rfl));apply aK rfl;(intro S1 hS;exact aj rfl (hS.op rfl));apply aK rfl;(intro S1 hS;exact bC rfl (hS.op rfl) (hS.ch _ _ rfl));apply aK rfl;(intro S1 hS;exact aI (d:=1) rfl (hS.op rfl) (hS.ch _ _ rfl) ab);(first | (apply aK rfl;(focus (intro S1 hS;exact k9 rfl ab (hS.op rfl) (hS.ch _ _ rfl) rfl hv1))) | (apply aK rfl;(focus (intro S1 hS;exact cg rfl (hS.op rfl) (hS.op rfl) (IntWalk.i64_in _ ae)))) | (apply aK rfl;(focus (intro S1 hS;exact aR (j:=i - 1) rfl (hS.op rfl) (hS.op rfl) (hS.ch _ _ rfl) rfl ab hi1 hi1L hil))) | (apply aK rfl;(focus (intro S1 hS;exact bf rfl ab (hS.op rfl) (hS.ch _ _ rfl) rfl gz))));apply aK rfl;(intro S1 hS;exact aj rfl (hS.op rfl));apply aK rfl;(intro S1 hS;exact aj rfl (hS.op rfl));(first | (apply aK rfl;(focus (intro S1 hS;exact k9 rfl ab (hS.op rfl) (hS.ch _ _ rfl) rfl hv1))) | (apply aK rfl;(focus (intro S1 hS;exact cg rfl (hS.op rfl) (hS.op rfl) (IntWalk.i64_in _ ae)))) | (apply aK rfl;(focus (intro S1 hS;exact aR (j:=i - 1) rfl (hS.op rfl) (hS.op rfl) (hS.ch _ _ rfl) rfl ab hi1 hi1L hil))) | (apply aK rfl;(focus (intro S1 hS;exact bf rfl ab (hS.op rfl) (hS.ch _ _ rfl) rfl gz))));(first | (apply aK rfl;(focus (intro S1 hS;exact k9 rfl ab (hS.op rfl) (hS.ch _ _ rfl) rfl hv1))) | (apply aK rfl;(focus (intro S1 hS;exact cg rfl (hS.op rfl) (hS.op rfl) (IntWalk.i64_in _ ae)))) | (apply aK rfl;(focus (intro S1 hS;exact aR (j:=i - 1) rfl (hS.op rfl) (hS.op rfl) (hS.ch _ _ rfl) rfl ab hi1 hi1L hil))) | (apply aK rfl;(focus (intro S1 hS;exact bf rfl ab (hS.op rfl) (hS.ch _ _ rfl) rfl gz))));(first | (apply aK rfl;(focus (intro S1 hS;exact k9 rfl ab (hS.op rfl) (hS.ch _ _ rfl) rfl hv1))) | (apply aK rfl;(focus (intro S1 hS;exact cg rfl (hS.op rfl) (hS.op rfl) (IntWalk.i64_in _ ae)))) | (apply aK rfl;(focus (intro S1 hS;exact aR (j:=i - 1) rfl (hS.op rfl) (hS.op rfl) (hS.ch _ _ rfl) rfl ab hi1 hi1L hil))) | (apply aK rfl;(focus (intro S1 hS;exact bf rfl ab (hS.op rfl) (hS.ch _ _ rfl) rfl gz))));apply gU rfl;(intro S1 hS;exact bW (E:=2) rfl ab (hS.op rfl));exact ft.nil)
     ·rfl
     ·refine dI (St.of [(0,o1 (.sl 1003 0 L)),(1,vv (I6 mask)),(5,o1 (.sl 2000 0 ps.length)),(7,vv (I6 i)),(11,vv (I6 (L + 1:Nat))),(12,vv (I6 i))] [(1003,dk zs),(2000,rF (ps.set j (m ||| 2 ^ i,labs ++ [aC zs (i - 1)])))]) ?_ ?_
      ·((apply aF 11 rfl ab rfl rfl;((first | exact cu.pre (ju (n:=2000) (z:=46) (s:=39) rfl rfl hv1 rfl) (bE rfl ab rfl rfl rfl rfl rfl rfl ae) | exact gI rfl rfl rfl rfl hvl rfl hk1l ab)));(apply aF 12 rfl ab rfl rfl;exact bC rfl rfl rfl);(apply aF 13 rfl ab rfl rfl;(exact aI (d:=1) rfl rfl rfl ab));(apply aF 14 rfl ab rfl rfl;((first | exact cu.pre (ju (n:=2000) (z:=46) (s:=39) rfl rfl hv1 rfl) (bE rfl ab rfl rfl rfl rfl rfl rfl ae) | exact gI rfl rfl rfl rfl hvl rfl hk1l ab)));(refine bh ab ?_;exact aV (Wk.of ⟨rfl,rfl,rfl,rfl,rfl,rfl,ag⟩ ⟨rfl,congrArg (fun l=>some (⟨true,83,2, .mix l⟩:Ch)) hfin,ag⟩ trivial)))
      ·(skip)
       exact aV (Wk.of ⟨rfl,rfl,congrArg (fun n=>some (o1 (.sl 2000 0 n))) (List.length_set ..).symm,rfl,rfl,rfl,ag⟩ ⟨rfl,rfl,ag⟩ trivial)
     ·refine dI (St.of [(0,o1 (.sl 1003 0 L)),(1,vv (I6 mask)),(5,o1 (.sl 2000 0 ps.length)),(7,vv (I6 i)),(11,vv (I6 (L + 1:Nat))),(12,vv (I6 i))] [(1003,dk zs),(2000,rF (ps.set j (m ||| 2 ^ i,labs ++ [aC zs (i - 1)])))]) ?_ ?_
      ·((apply ct 0 11 rfl ab rfl rfl rfl rfl;exact aj rfl rfl;((first | exact cu.pre (ju (n:=2000) (z:=46) (s:=39) rfl rfl hv1 rfl) (bE rfl ab rfl rfl rfl rfl rfl rfl ae) | exact gI rfl rfl rfl rfl hvl rfl hk1l ab));(focus ((apply aF 11 rfl ab rfl rfl;((first | exact cu.pre (ju (n:=2000) (z:=46) (s:=39) rfl rfl hv1 rfl) (bE rfl ab rfl rfl rfl rfl rfl rfl ae) | exact gI rfl rfl rfl rfl hvl rfl hk1l ab)));(apply aF 12 rfl ab rfl rfl;exact bC rfl rfl rfl);(apply aF 13 rfl ab rfl rfl;(exact aI (d:=1) rfl rfl rfl ab));(apply aF 14 rfl ab rfl rfl;((first | exact cu.pre (ju (n:=2000) (z:=46) (s:=39) rfl rfl hv1 rfl) (bE rfl ab rfl rfl rfl rfl rfl rfl ae) | exact gI rfl rfl rfl rfl hvl rfl hk1l ab)));(refine bh ab ?_;exact aV (Wk.of ⟨rfl,rfl,rfl,rfl,rfl,rfl,ag⟩ ⟨rfl,congrArg (fun l=>some (⟨true,83,2, .mix l⟩:Ch)) hfin,ag⟩ trivial))));(focus ((apply aF 0 rfl ab rfl rfl;exact aj rfl rfl);(apply aF 12 rfl ab rfl rfl;exact bC rfl rfl rfl);(apply aF 13 rfl ab rfl rfl;(exact aI (d:=1) rfl rfl rfl ab));(apply aF 14 rfl ab rfl rfl;((first | exact cu.pre (ju (n:=2000) (z:=46) (s:=39) rfl rfl hv1 rfl) (bE rfl ab rfl rfl rfl rfl rfl rfl ae) | exact gI rfl rfl rfl rfl hvl rfl hk1l ab)));(refine bh ab ?_;exact aV (Wk.of ⟨rfl,rfl,rfl,rfl,rfl,rfl,ag⟩ ⟨rfl,congrArg (fun l=>some (⟨true,83,2, .mix l⟩:Ch)) hfin,ag⟩ trivial))))))
      ·(skip)
       exact aV (Wk.of ⟨rfl,rfl,congrArg (fun n=>some (o1 (.sl 2000 0 n))) (List.length_set ..).symm,rfl,rfl,rfl,ag⟩ ⟨rfl,rfl,ag⟩ trivial)
    ·have hv:vN zs mask (i + 1)=ps ++ [(2 ^ i, [])]:=by rw [hnx,if_neg (by rw [hjb];simp)]
     rw [hv]
     have hcel:∀(j:Nat) (c:kX) (u:Value), [kX.v (I6 ((2 ^ i:Nat):Int)),kX.r 2 1 0 []][j]? =some c→ [I6 ((2 ^ i:Nat):Int),Value.slice none 0 0][j]? =some u→rP c u:=by
      intro j c u h1 h2
      match j,h1,h2 with
      | 0,h1,h2=>simp at h1 h2;subst h1 h2;rfl
      | 1,h1,h2=>simp at h1 h2;subst h1 h2;exact ⟨rfl,rfl,rfl⟩
     have h1c:∀v∈ [I6 ((2 ^ i:Nat):Int),Value.slice none 0 0],v.oneCell'=true:=by
      intro v hv
      rcases List.mem_cons.1 hv with rfl | hv
      ·rfl
      ·obtain rfl:v= .slice none 0 0:=by simpa using hv
       rfl
     (refine ah (aa rfl (aj rfl rfl) (aa rfl (aj rfl rfl) ?_));apply aa rfl;(first | exact fo (g:=i) rfl rfl rfl hi5 | exact kf (vs:= [I6 ((2 ^ i:Nat):Int), .slice none 0 0]) rfl rfl rfl | exact mV (E:=83) rfl ab rfl | exact jl (cn:= [kX.v (I6 ((2 ^ i:Nat):Int)),kX.r 2 1 0 []]) (news:= [I6 ((2 ^ i:Nat):Int), .slice none 0 0]) (k:=2) (m:=1) rfl ab rfl rfl rfl hmx rfl (eR (k:=2) (vs:= [I6 ((2 ^ i:Nat):Int), .slice none 0 0]) rfl rfl rfl rfl (Nat.le_refl _)) ae h1c rfl hcel ae);apply aa rfl;(first | exact fo (g:=i) rfl rfl rfl hi5 | exact kf (vs:= [I6 ((2 ^ i:Nat):Int), .slice none 0 0]) rfl rfl rfl | exact mV (E:=83) rfl ab rfl | exact jl (cn:= [kX.v (I6 ((2 ^ i:Nat):Int)),kX.r 2 1 0 []]) (news:= [I6 ((2 ^ i:Nat):Int), .slice none 0 0]) (k:=2) (m:=1) rfl ab rfl rfl rfl hmx rfl (eR (k:=2) (vs:= [I6 ((2 ^ i:Nat):Int), .slice none 0 0]) rfl rfl rfl rfl (Nat.le_refl _)) ae h1c rfl hcel ae);apply aa rfl;(first | exact fo (g:=i) rfl rfl rfl hi5 | exact kf (vs:= [I6 ((2 ^ i:Nat):Int), .slice none 0 0]) rfl rfl rfl | exact mV (E:=83) rfl ab rfl | exact jl (cn:= [kX.v (I6 ((2 ^ i:Nat):Int)),kX.r 2 1 0 []]) (news:= [I6 ((2 ^ i:Nat):Int), .slice none 0 0]) (k:=2) (m:=1) rfl ab rfl rfl rfl hmx rfl (eR (k:=2) (vs:= [I6 ((2 ^ i:Nat):Int), .slice none 0 0]) rfl rfl rfl rfl (Nat.le_refl _)) ae h1c rfl hcel ae);apply aa rfl;(first | exact fo (g:=i) rfl rfl rfl hi5 | exact kf (vs:= [I6 ((2 ^ i:Nat):Int), .slice none 0 0]) rfl rfl rfl | exact mV (E:=83) rfl ab rfl | exact jl (cn:= [kX.v (I6 ((2 ^ i:Nat):Int)),kX.r 2 1 0 []]) (news:= [I6 ((2 ^ i:Nat):Int), .slice none 0 0]) (k:=2) (m:=1) rfl ab rfl rfl rfl hmx rfl (eR (k:=2) (vs:= [I6 ((2 ^ i:Nat):Int), .slice none 0 0]) rfl rfl rfl rfl (Nat.le_refl _)) ae h1c rfl hcel ae);refine aa rfl (ai rfl rfl) (ar ?_))
     exact aV (Wk.of ⟨rfl,rfl,congrArg (fun n=>some (o1 (.sl 2000 0 n))) (by simp),rfl,rfl,rfl,ag⟩ ⟨rfl,congrArg (fun l=>some (⟨true,83,2, .mix l⟩:Ch)) (DA ps [(2 ^ i, [])]).symm,ag⟩ trivial)
   ·(refine an (ah (aa rfl (aj rfl rfl) (aa rfl (aj rfl rfl) ?_)));apply aa rfl;(apply au 62;exact aw hSz ab rfl rfl ⟨rfl,ag⟩ trivial rfl rfl);refine aa rfl (aG rfl rfl rfl rfl) (aa rfl (aj rfl rfl) ?_))
    refine bS 59 rfl (fun h1=> ?_) (fun h1=> ?_)
    ·have h1':i < L:=by have:=of_decide_eq_true h1;omega
     have gi:(aL zs)[i]? =some (I6 (aC zs i)):=bl ae
     (apply aH rfl rfl rfl;exact aj rfl rfl;apply aH rfl rfl rfl;exact aj rfl rfl;apply aH rfl rfl rfl;(exact aR (j:=i) rfl rfl rfl rfl rfl ab rfl h1' hil);apply aH rfl rfl rfl;exact bf rfl ab rfl rfl rfl aQ;apply aH rfl rfl rfl;exact aG rfl rfl rfl rfl;refine aa rfl (bp rfl rfl rfl) (aa rfl (ai rfl rfl) (ar (aM (an (ah ?_)))));apply aa rfl;exact aP rfl rfl rfl bA;refine aa rfl (aj rfl rfl) (ar ?_))
     exact aW (i + 1,vN zs mask (i + 1),aC zs i != 2) ⟨ae,rfl,hjn _ hiL fun _=>rfl⟩ (by show L + 1 - (i + 1) < L + 1 - i;omega) (Wk.of ⟨rfl,rfl,rfl,rfl,rfl,rfl,ag⟩ ⟨rfl,rfl,ag⟩ trivial)
    ·have h1':¬i < L:=by have:=of_decide_eq_false h1;omega
     (apply aD rfl rfl rfl rfl rfl;apply aD rfl rfl rfl rfl rfl;apply aD rfl rfl rfl rfl rfl;apply aD rfl rfl rfl rfl rfl;apply aD rfl rfl rfl rfl rfl;refine aa rfl (bD rfl rfl rfl) (aa rfl (ai rfl rfl) (ar (aM (an (ah ?_)))));apply aa rfl;exact aP rfl rfl rfl bA;refine aa rfl (aj rfl rfl) (ar ?_))
     exact aW (i + 1,vN zs mask (i + 1),false) ⟨ae,rfl,fun h=>absurd h ae⟩ (by show L + 1 - (i + 1) < L + 1 - i;omega) (Wk.of ⟨rfl,rfl,rfl,rfl,rfl,rfl,ag⟩ ⟨rfl,rfl,ag⟩ trivial)
 ·obtain rfl:i=L + 1:=by omega
  have hv:comps zs mask=ps:=by unfold comps;rw [hL];exact hp
  rw [hv]
  (refine a7 (aA (aA (aT (an (ak (ah (aa rfl (aj rfl rfl) (aa rfl (ai rfl rfl) (ar (an (aS ?_))))))))))))
  exact bu (.inl rfl) rfl (.tmp rfl) ⟨rfl,ag⟩ trivial
end Go.Proofs.YtekbhbcgoadciaaGreat
