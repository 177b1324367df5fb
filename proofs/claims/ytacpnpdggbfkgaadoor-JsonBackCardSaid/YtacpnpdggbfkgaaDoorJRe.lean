/- Functions run by the abstract machine on values that are not all known. Conditions: stated in each theorem. -/
import Derived.Test.YtacpnpdggbfkgaaDoorJRd
import Derived.ChangeArms
set_option linter.unusedVariables false
set_option linter.unusedSimpArgs false
set_option linter.unusedVariables false
set_option linter.unusedSimpArgs false
set_option maxRecDepth 20000
namespace Go.Bvm.JN
open Go.Bvm
theorem exC {c b:Nat} {M:List Nat} {h h1 h2:H} (A:Ex h h1) (B:Fz c b M h1 h2) (hc:h.next≤c):Ex h h2:=⟨Nat.le_trans A.nx B.nx,fun j hj=>(B.lo j (by omega)).trans (A.lo j hj),fun j hj _=>(B.lo j (by omega)).trans (A.lo j hj)⟩
def JC (c0:Nat):Type:=api_Json
instance (c0:Nat):Enc (JC c0):=⟨5,Ty_api_Json,[0,kR Ty_string,kO Ty_string,kR Ty_int,kO Ty_int],fun X h c (x:api_Json)=>∃ v1 v2,c=[wz x.Kind,wz x.N,vs x.S,v1,v2]∧inR x.Kind∧inR x.N∧x.S.length≤maxB∧SlO X c0 h v1 x.Keys∧SlO X c0 h v2 x.Parts,fun r=>by obtain ⟨v1,v2,e,f0,f1,f2,f3,f4⟩:=r;rw [e];rfl,fun r n1 F=>by obtain ⟨v1,v2,e,f0,f1,f2,f3,f4⟩:=r;exact ⟨v1,v2,e,f0,f1,f2,f3.gx n1 fun id a b c=>F id a b (mem_of c (by decide)),f4.gx n1 fun id a b c=>F id a b (mem_of c (by decide))⟩,fun r hx=>by obtain ⟨v1,v2,e,f0,f1,f2,f3,f4⟩:=r;exact ⟨v1,v2,e,f0,f1,f2,f3.xm hx,f4.xm hx⟩⟩
theorem JC.mono {c c':Nat} {X:List Nat} {h:H} {cs:List V} {x:api_Json} (r:Enc.rep (α:=JC c) X h cs x) (hc:c'≤c):Enc.rep (α:=JC c') X h cs x:=by
 obtain ⟨v1,v2,e,f0,f1,f2,f3,f4⟩:=r
 exact ⟨v1,v2,e,f0,f1,f2,f3.mono hc,f4.mono hc⟩
theorem CopyStrings_w {Z:List Nat} {h:H} {v:V} {l:List Str} (A:Sl Z h v l) (hl:l.length≤1000000) {n:Nat} {k:KV} (K:∀ h' w,SlO [] h.next h' w l→Ex h h'→k w h'=true):run tbl (n+1) Nf_z_CopyStrings (vl [v]) h k=true:=by
 rw [run_succ,tbl_z_CopyStrings]
 unfold T_z_CopyStrings z_CopyStrings_5 z_CopyStrings_3
 simp -implicitDefEqProofs (disch:=omega)
 refine loop_w (fun m e h'=>∃ (i:Nat) (w:V),m=l.length-i∧i≤l.length∧e=f8 slnil (wz i) v w V.u V.u V.u V.u∧SlO [] h.next h' w (l.take i)∧Ex h h') ?_ big l.length _ _ ⟨0,slnil,rfl,by omega,rfl,by simpa using SlO.nil _ _ _,Fz.refl _ _ _ _⟩ (by unfold big;omega)
 rintro m e h1 ⟨i,w,rfl,hi,rfl,S,E1⟩ K' Kn Kx Kr
 have A1:=A.fz E1 (Nat.le_refl _) (by simp)
 unfold z_CopyStrings_0
 by_cases hi2:i<l.length
 ·have hi3:(i:Int)<l.length:=by omega
  obtain ⟨hb,a1,a2⟩:=at_Str A1 hi2
  unfold z_CopyStrings_1 z_CopyStrings_2
  simp -implicitDefEqProofs (disch:=omega) [A1.lenL,hi3,a1,a2]
  refine S.app1 (x:=l[i]) ⟨rfl,hb⟩ (by decide) rfl (by decide) (by show ((l.take i).length+1)*1≤_;simp;omega) E1.nx (by simp) (by decide) fun h2 w2 S2 _ _ F2=>?_
  refine Kn _ _ _ (by omega) ⟨i+1,w2,rfl,by omega,by simp,by rw [List.take_succ_eq_append_getElem hi2];exact S2,exC E1 F2 (Nat.le_refl _)⟩
 ·have hi3:¬ (i:Int)<l.length:=by omega
  simp -implicitDefEqProofs (disch:=omega) [A1.lenL,hi3]
  refine Kx _ _ _ ?_
  unfold z_CopyStrings_4
  simp -implicitDefEqProofs (disch:=omega)
  rw [List.take_of_length_le (by omega)] at S
  exact K h1 w S E1
theorem CopyNumbers_w {Z:List Nat} {h:H} {v:V} {l:List Int} (A:Sl Z h v l) (hl:l.length≤1000000) {n:Nat} {k:KV} (K:∀ h' w,SlO [] h.next h' w l→Ex h h'→k w h'=true):run tbl (n+1) Nf_z_CopyNumbers (vl [v]) h k=true:=by
 rw [run_succ,tbl_z_CopyNumbers]
 unfold T_z_CopyNumbers z_CopyNumbers_5 z_CopyNumbers_3
 simp -implicitDefEqProofs (disch:=omega)
 refine loop_w (fun m e h'=>∃ (i:Nat) (w:V),m=l.length-i∧i≤l.length∧e=f8 slnil (wz i) v w V.u V.u V.u V.u∧SlO [] h.next h' w (l.take i)∧Ex h h') ?_ big l.length _ _ ⟨0,slnil,rfl,by omega,rfl,by simpa using SlO.nil _ _ _,Fz.refl _ _ _ _⟩ (by unfold big;omega)
 rintro m e h1 ⟨i,w,rfl,hi,rfl,S,E1⟩ K' Kn Kx Kr
 have A1:=A.fz E1 (Nat.le_refl _) (by simp)
 unfold z_CopyNumbers_0
 by_cases hi2:i<l.length
 ·have hi3:(i:Int)<l.length:=by omega
  obtain ⟨hb,a1,a2⟩:=at_Int A1 hi2
  unfold z_CopyNumbers_1 z_CopyNumbers_2
  simp -implicitDefEqProofs (disch:=omega) [A1.lenL,hi3,a1,a2]
  refine S.app1 (x:=l[i]) ⟨rfl,hb⟩ (by decide) rfl (by decide) (by show ((l.take i).length+1)*1≤_;simp;omega) E1.nx (by simp) (by decide) fun h2 w2 S2 _ _ F2=>?_
  refine Kn _ _ _ (by omega) ⟨i+1,w2,rfl,by omega,by simp,by rw [List.take_succ_eq_append_getElem hi2];exact S2,exC E1 F2 (Nat.le_refl _)⟩
 ·have hi3:¬ (i:Int)<l.length:=by omega
  simp -implicitDefEqProofs (disch:=omega) [A1.lenL,hi3]
  refine Kx _ _ _ ?_
  unfold z_CopyNumbers_4
  simp -implicitDefEqProofs (disch:=omega)
  rw [List.take_of_length_le (by omega)] at S
  exact K h1 w S E1
theorem CopyJson_w {Z:List Nat} {h:H} {x:api_Json} {v1 v2:V} (f0:inR x.Kind) (f1:inR x.N) (f2:x.S.length≤maxB) (f3:Sl Z h v1 x.Keys) (f4:Sl Z h v2 x.Parts) (hk:x.Keys.length≤1000000) (hp:x.Parts.length≤1000000) {n:Nat} {k:KV}
  (K:∀ h' cs,Enc.rep (α:=JC h.next) [] h' cs x→Ex h h'→k (.x .agg (vl cs) V.nil) h'=true):run tbl (n+2) Nf_z_CopyJson (vl [.x .agg (vl [wz x.Kind,wz x.N,vs x.S,v1,v2]) V.nil]) h k=true:=by
 rw [run_succ,tbl_z_CopyJson]
 unfold T_z_CopyJson z_CopyJson_1
 simp -implicitDefEqProofs (disch:=omega)
 refine newA_w rfl (by decide) (by decide) fun h1 n1 B1 x1=>?_
 have hn1:h1.next=h.next+1:=n1
 have E1:Ex h h1:=x1.ex (Nat.le_refl _)
 refine newA_w rfl (by decide) (by decide) fun h2 n2 B2 x2=>?_
 have hn2:h2.next=h1.next+1:=n2
 have E2:Ex h1 h2:=x2.ex (Nat.le_refl _)
 unfold z_CopyJson_0
 have B1':=B1.fz E2 (by omega) (by simp)
 have Da:=B1'.lda (m:=5) rfl (off:=0) (n:=5) (lim:=5) (by decide) (by decide)
 simp -implicitDefEqProofs (disch:=omega) [Da]
 refine newA_w rfl (by decide) (by decide) fun h3 n3 B3 x3=>?_
 have hn3:h3.next=h2.next+1:=n3
 have E3:Ex h2 h3:=x3.ex (Nat.le_refl _)
 refine sta_w B3 rfl (by simp) (by simp) fun h4 n4 B4 x4=>?_
 have B4:Bk h4 h2.next 0 0 Ty_api_Json true true [wz x.Kind,wz x.N,vs x.S,v1,v2]:=B4
 have E4:Ex h2 h4:=⟨by omega,fun j hj=>(x4.2 j (by omega)).trans (E3.lo j hj),fun j hj _=>(x4.2 j (by omega)).trans (E3.lo j hj)⟩
 have E04:Ex h h4:=(E1.loc E2 (by omega) (by omega)).loc E4 (by omega) (by omega)
 have B14:=B1'.fz E4 (by omega) (by simp)
 have B24:=B2.fz E4 (by omega) (by simp)
 have La:=fun {o m}=>B14.ld (n:=5) rfl (off:=o) (lim:=m)
 simp -implicitDefEqProofs (disch:=omega) [La]
 refine CopyStrings_w (n:=n) (f3.fz E04 (Nat.le_refl _) (by simp)) hk fun h5 w1 S5 E5=>?_
 have n5:=E5.nx
 refine st_w (B4.fz E5 (by omega) (by simp)) (by simp) (by simp) S5.sl.one fun h6 n6 B6 x6=>?_
 have B6:Bk h6 h2.next 0 0 Ty_api_Json true true [wz x.Kind,wz x.N,vs x.S,w1,v2]:=B6
 have F56:Fz h2.next h4.next [kO Ty_api_Json] h4 h6:=⟨by omega,fun j hj=>(x6.2 j (by omega)).trans (E5.lo j (by omega)),fun j hj hm=>by
  by_cases e:j=h2.next
  ·subst e
   rw [B4.kd] at hm
   exact absurd (List.mem_singleton.2 rfl) hm
  ·exact (x6.2 j e).trans (E5.lo j hj)⟩
 have E06:Ex h h6:=exC E04 F56 (by omega)
 have S6:SlO [] h4.next h6 w1 x.Keys:=S5.fz ((Fz.refl h4.next h5.next [kO Ty_api_Json] h5).mono (c:=0) (Nat.zero_le _) (Nat.le_refl _) (fun _ k=>k) |>.put x6 (Nat.zero_le _) (.inr (by rw [(B4.fz E5 (by omega) (by simp)).kd];exact List.mem_cons_self))) (Nat.le_refl _) (by decide)
 have B16:=B14.eq ((x6.2 h.next (by omega)).trans (E5.lo h.next (by omega)))
 have La:=fun {o m}=>B16.ld (n:=5) rfl (off:=o) (lim:=m)
 simp -implicitDefEqProofs (disch:=omega) [La]
 refine CopyNumbers_w (n:=n) (f4.fz E06 (Nat.le_refl _) (by simp)) hp fun h7 w2 S7 E7=>?_
 have n7:=E7.nx
 have S67:=S6.fz E7 (Nat.le_refl _) (by simp)
 refine st_w (B6.fz E7 (by omega) (by simp)) (by simp) (by simp) S7.sl.one fun h8 n8 B8 x8=>?_
 have B8:Bk h8 h2.next 0 0 Ty_api_Json true true [wz x.Kind,wz x.N,vs x.S,w1,w2]:=B8
 have F78:Fz 0 h7.next [kO Ty_api_Json] h7 h8:=(Fz.refl 0 h7.next [kO Ty_api_Json] h7).put x8 (Nat.zero_le _) (.inr (by rw [(B6.fz E7 (by omega) (by simp)).kd];exact List.mem_cons_self))
 have S68:=S67.fz F78 (Nat.le_refl _) (by decide)
 have S78:=S7.fz F78 (Nat.le_refl _) (by decide)
 have Db:=B8.lda (m:=5) rfl (off:=0) (n:=5) (lim:=5) (by decide) (by decide)
 have E08:Ex h h8:=⟨by have:=E06.nx;omega,fun j hj=>(x8.2 j (by omega)).trans ((E7.lo j (by have:=E06.nx;omega)).trans (E06.lo j hj)),fun j hj _=>(x8.2 j (by omega)).trans ((E7.lo j (by have:=E06.nx;omega)).trans (E06.lo j hj))⟩
 have B28:Bk h8 h1.next 0 0 Ty_api_Json true true [wz 0,wz 0,vs [],slnil,slnil]:=(((B24.fz E5 (by omega) (by simp)).only x6 (by omega)).fz E7 (by omega) (by simp)).only x8 (by omega)
 simp -implicitDefEqProofs (disch:=omega) [Db]
 refine sta_w B28 rfl (by simp) (by simp) fun h9 n9 B9 x9=>?_
 have B9:Bk h9 h1.next 0 0 Ty_api_Json true true [wz x.Kind,wz x.N,vs x.S,w1,w2]:=B9
 have F89:Fz 0 h8.next [kO Ty_api_Json] h8 h9:=(Fz.refl 0 h8.next [kO Ty_api_Json] h8).put x9 (Nat.zero_le _) (.inr (by rw [B28.kd];exact List.mem_cons_self))
 have Dc:=B9.lda (m:=5) rfl (off:=0) (n:=5) (lim:=5) (by decide) (by decide)
 simp -implicitDefEqProofs (disch:=omega) [Dc]
 refine K h9 _ ⟨w1,w2,rfl,f0,f1,f2,(S68.fz F89 (Nat.le_refl _) (by decide)).mono (by omega),(S78.fz F89 (Nat.le_refl _) (by decide)).mono (by have:=E06.nx;omega)⟩ ⟨by have:=E08.nx;omega,fun j hj=>(x9.2 j (by omega)).trans (E08.lo j hj),fun j hj _=>(x9.2 j (by omega)).trans (E08.lo j hj)⟩
end Go.Bvm.JN
set_option linter.unusedVariables false
set_option linter.unusedSimpArgs false
set_option maxRecDepth 20000
namespace Go.Bvm.JN
open Go.Bvm
theorem rep_jf {c0:Nat} {Z:List Nat} {h:H} {cs:List V} {x:api_Json} (r:Enc.rep (α:=JC c0) Z h cs x):Enc.rep (α:=JF) Z h cs x:=by
 obtain ⟨v1,v2,e,f0,f1,f2,f3,f4⟩:=r
 exact ⟨v1,v2,e,f0,f1,f2,f3.sl,f4.sl⟩
theorem rep_j1 {Z:List Nat} {h:H} {cs:List V} {x:api_Json} (r:Enc.rep (α:=api_Json) Z h cs x):Enc.rep (α:=JF) Z h cs x:=by
 obtain ⟨v1,v2,e,f0,f1,f2,f3,f4⟩:=r
 exact ⟨v1,v2,e,f0,f1,f2,f3.sl,f4.sl⟩
theorem Sl_j1 {Z:List Nat} {h:H} {v:V} {l:List api_Json} (S:Sl Z h v l):Sl (α:=JF) Z h v l:=by
 obtain ⟨cs,R,A⟩:=S
 exact ⟨cs,R,A.1,fun i c x e1 e2=>rep_j1 (A.2 i c x e1 e2)⟩
end Go.Bvm.JN
set_option linter.unusedVariables false
set_option linter.unusedSimpArgs false
set_option maxRecDepth 20000
namespace Go.Bvm.JN
open Go.Bvm
theorem Texts2_w {W:List Nat} {h:H} {v:V} {xs:List Str} {k:KV} (A:Sl W h v xs) {n:Nat} (K:∀ t:Int,(xs.length:Int)≤t→t≤281474976710656→(t<1048576→∀ s∈xs,s.length≤t)→k (wz t) h=true):run tbl (n+1) Nf_l0_Texts (vl [v]) h k=true:=by
 have hbd:=A.bd
 have hm:maxB=140737488355328:=rfl
 rw [run_succ,tbl_l0_Texts]
 unfold T_l0_Texts l0_Texts_5 l0_Texts_3
 simp -implicitDefEqProofs (disch:=omega) [A.lenL]
 refine loop_w (fun m e h'=>∃ (i:Nat) (t:Int),m=(1048577-i)∧i≤xs.length∧i≤1048576∧e=f8 (wz 0) (wz i) v (wz t) V.u V.u V.u V.u∧h'=h∧(xs.length:Int)≤t∧t≤281474976710656∧(∀ s∈xs.take i,(s.length:Int)≤t)∧(1≤i→i≤xs.length)) ?_ big 1048577 _ _ ⟨0,xs.length,rfl,by omega,by omega,rfl,rfl,Int.le_refl _,by omega,by simp,by omega⟩ (by unfold big;omega)
 rintro m e h1 ⟨i,t,rfl,hi,hi6,rfl,rfl,ht0,ht1,hall,_⟩ K' Kn Kx Kr
 unfold l0_Texts_0
 have stop:(∀ s∈xs,t<1048576→(s.length:Int)≤t)→K' (X.x 0) (f8 (wz 0) (wz i) v (wz t) V.u V.u V.u V.u) h1=true:=by
  intro hs
  refine Kx _ _ _ ?_
  unfold l0_Texts_4
  simp -implicitDefEqProofs (disch:=omega)
  exact K t ht0 ht1 fun q s hm=>hs s hm q
 by_cases hi2:i<xs.length
 ·have hi3:(i:Int)<xs.length:=by omega
  by_cases ht:t<1048576
  ·obtain ⟨ra,L⟩:=at_Str A hi2
   unfold l0_Texts_1 l0_Texts_2
   simp -implicitDefEqProofs (disch:=omega) [A.lenL,hi3,ht,L]
   refine Kn _ _ _ (by omega) ⟨i+1,t+xs[i].length,rfl,by omega,by omega,by simp,rfl,by omega,by omega,fun s hs=>?_,by omega⟩
   rw [List.take_succ_eq_append_getElem hi2] at hs
   rcases List.mem_append.1 hs with q | q
   ·have:=hall s q;omega
   ·simp only [List.mem_cons,List.not_mem_nil,or_false] at q
    rw [q];omega
  ·have:=stop fun s _ q=>absurd q ht
   simp -implicitDefEqProofs (disch:=omega) [A.lenL,hi3,ht]
   exact this
 ·have hi3:¬ (i:Int)<xs.length:=by omega
  have:=stop fun s hs _=>hall s (by rw [List.take_of_length_le (by omega)];exact hs)
  simp -implicitDefEqProofs (disch:=omega) [A.lenL,hi3]
  exact this
theorem JsonsWeight2_w {W:List Nat} {h:H} {v:V} {xs:List api_Json} {k:KV} (A:Sl (α:=JF) W h v xs) {n:Nat} (K:∀ t:Int,(xs.length:Int)≤t→t≤1125899906842624→(t<1048576→∀ x∈xs,(x.Parts.length:Int)≤t∧(x.Keys.length:Int)≤8*t+8)→k (wz t) h=true):run tbl (n+2) Nf_l0_JsonsWeight (vl [v]) h k=true:=by
 have hbd:=A.bd
 have hbd:xs.length≤maxB:=hbd
 have ll:∀ k,Go.Bvm.lenL v k=k (wz (xs.length:Int)):=A.lenL
 have hm:maxB=140737488355328:=rfl
 rw [run_succ,tbl_l0_JsonsWeight]
 unfold T_l0_JsonsWeight l0_JsonsWeight_5 l0_JsonsWeight_3
 simp -implicitDefEqProofs (disch:=omega) [ll]
 refine loop_w (fun m e h'=>∃ (i:Nat) (t:Int),m=(1048577-i)∧i≤xs.length∧i≤1048576∧e=f8 (wz 0) (wz i) v (wz t) V.u V.u V.u V.u∧h'=h∧(xs.length:Int)≤t∧t≤1125899906842624∧∀ x∈xs.take i,(x.Parts.length:Int)≤t∧(x.Keys.length:Int)≤8*t+8) ?_ big 1048577 _ _ ⟨0,xs.length,rfl,by omega,by omega,rfl,rfl,Int.le_refl _,by omega,by simp⟩ (by unfold big;omega)
 rintro m e h1 ⟨i,t,rfl,hi,hi6,rfl,rfl,ht0,ht1,hall⟩ K' Kn Kx Kr
 unfold l0_JsonsWeight_0
 have stop:(t<1048576→∀ x∈xs,(x.Parts.length:Int)≤t∧(x.Keys.length:Int)≤8*t+8)→K' (X.x 0) (f8 (wz 0) (wz i) v (wz t) V.u V.u V.u V.u) h1=true:=by
  intro hs
  refine Kx _ _ _ ?_
  unfold l0_JsonsWeight_4
  simp -implicitDefEqProofs (disch:=omega)
  exact K t ht0 ht1 hs
 by_cases hi2:i<xs.length
 ·have hi3:(i:Int)<xs.length:=by omega
  by_cases ht:t<1048576
  ·obtain ⟨c,E,a1,a2,a3⟩:=A.at (i:=(i:Int)) (Int.natCast_nonneg i) (getE? (show (i:Int).toNat<xs.length from hi2))
   obtain ⟨x,hx⟩ : ∃ x:api_Json,x=xs[i]:=⟨_,rfl⟩
   have E':∃ v1 v2,c=[wz x.Kind,wz x.N,vs x.S,v1,v2]∧inR x.Kind∧inR x.N∧x.S.length≤maxB∧Sl W h1 v1 x.Keys∧Sl W h1 v2 x.Parts:=by rw [hx];exact E
   obtain ⟨v1,v2,rfl,f0,f1,f2,f3,f4⟩:=E'
   have hpb:=f4.bd
   have a1':∀ k,iadV 5 v (wz (i:Int)) k=k (pel v (i:Int) 0):=a1
   have l4:∀ k,ld1 (pel v (i:Int) 4) h1 k=k v2:=fun k=>a2 4 k (by decide)
   have l2:∀ k,ld1 (pel v (i:Int) 2) h1 k=k (vs x.S):=fun k=>a2 2 k (by decide)
   have l3:∀ k,ld1 (pel v (i:Int) 3) h1 k=k v1:=fun k=>a2 3 k (by decide)
   unfold l0_JsonsWeight_1 l0_JsonsWeight_2
   simp -implicitDefEqProofs (disch:=omega) [ll,hi3,ht,a1',l4,l2,l3,f4.lenL]
   have hpb:x.Parts.length≤maxB:=hpb
   refine Texts2_w (n:=n) f3 fun u hu0 hu1 _=>?_
   simp -implicitDefEqProofs (disch:=omega) [l4,l2,Sl.eqV f4,eqV_vs]
   exact Kn _ _ _ (by omega) ⟨i+1,t+x.Parts.length+(x.S.length:Int) / 8+u / 8,rfl,by omega,by omega,by simp,rfl,by omega,by omega,fun y hy=>by
    rw [List.take_succ_eq_append_getElem hi2] at hy
    rcases List.mem_append.1 hy with q | q
    ·have:=hall y q;omega
    ·simp only [List.mem_cons,List.not_mem_nil,or_false] at q
     rw [q,← hx];omega⟩
  ·have:=stop fun q=>absurd q ht
   simp -implicitDefEqProofs (disch:=omega) [ll,hi3,ht]
   exact this
 ·have hi3:¬ (i:Int)<xs.length:=by omega
  have:=stop fun _ x hx=>hall x (by rw [List.take_of_length_le (by omega)];exact hx)
  simp -implicitDefEqProofs (disch:=omega) [ll,hi3]
  exact this
theorem cellsOf2_w {W:List Nat} {h:H} {a b c:V} {S Q:List Str} {k:KV} (A:Sl W h a S) (C:Sl W h c Q) {n:Nat} (K:∀ (h':H) (t u:Int),Ex h h'→0≤t→t≤281474976710656→(Q.length:Int)≤u→u≤281474976710656→(t<1048576→∀ s∈S,s.length≤t)→(u<1048576→∀ s∈Q,s.length≤u)→k (wz (t / 4+u)) h'=true):run tbl (n+2) Nf_l1_cellsOf (vl [.x .agg (vl [a,b,c]) V.nil]) h k=true:=by
 rw [run_succ,tbl_l1_cellsOf]
 unfold T_l1_cellsOf l1_cellsOf_0
 simp -implicitDefEqProofs (disch:=omega)
 refine newA_w rfl (by decide) (by decide) fun h1 n1 B1 x1=>?_
 have E1:Ex h h1:=x1.ex (Nat.le_refl _)
 obtain ⟨L0,L1,L2,LA⟩:=Ask_ld B1
 have A1:=A.fz E1 (Nat.le_refl _) (by decide)
 have C1:=C.fz E1 (Nat.le_refl _) (by decide)
 simp -implicitDefEqProofs (disch:=omega) [L0,L2]
 refine Texts_w (n:=n) A1 fun t t0 t1 t2=>?_
 simp -implicitDefEqProofs (disch:=omega) [L2,Sl.eqV C1]
 refine Texts2_w (n:=n) C1 fun u u0 u1 u2=>?_
 have:=K h1 t u E1 t0 t1 u0 u1 t2 u2
 simp -implicitDefEqProofs (disch:=omega)
 exact this
theorem Heavy2_w {W:List Nat} {h:H} {a b c:V} {S Q:List Str} {L:List (List api_Json)} {k:KV} (A:Sl W h a S) (B:Sl (α:=List JF) W h b L) (C:Sl W h c Q) {n:Nat} (K:∀ (h':H) (r:Bool),Ex h h'→(r=false→(∀ s∈S,s.length≤20000)∧L.length≤3000∧(∀ l∈L,l.length≤3000∧∀ x∈l,x.Keys.length≤100000∧x.Parts.length≤3000)∧Q.length≤3000∧∀ s∈Q,s.length≤3000)→k (.t r) h'=true):run tbl (n+3) Nf_l1_Heavy (vl [.x .agg (vl [a,b,c]) V.nil]) h k=true:=by
 have hbd:=B.bd
 have hbd:L.length≤maxB:=hbd
 have hm:maxB=140737488355328:=rfl
 rw [run_succ,tbl_l1_Heavy]
 unfold T_l1_Heavy l1_Heavy_5
 simp -implicitDefEqProofs (disch:=omega)
 refine newA_w rfl (by decide) (by decide) fun h1 n1 B1 x1=>?_
 have E1:Ex h h1:=x1.ex (Nat.le_refl _)
 obtain ⟨L0,L1,L2,LA⟩:=Ask_ld B1
 have A1:=A.fz E1 (Nat.le_refl _) (by decide)
 have C1:=C.fz E1 (Nat.le_refl _) (by decide)
 have D1:=B.fz E1 (Nat.le_refl _) (by decide)
 have hn1:h1.next=h.next+1:=n1
 have lD1:∀ k,Go.Bvm.lenL b k=k (wz (L.length:Int)):=D1.lenL
 simp -implicitDefEqProofs (disch:=omega) [L1,LA,lD1]
 refine cellsOf2_w (n:=n) A1 C1 fun h2 t u E2 t0 t1 u0 u1 t2 u2=>?_
 have D2:=D1.fz E2 (Nat.le_refl _) (by decide)
 have B2:=B1.fz E2 (by omega) (by decide)
 obtain ⟨M0,M1,M2,MA⟩:=Ask_ld B2
 have E02:Ex h h2:=E1.loc E2 (by omega) (by omega)
 simp -implicitDefEqProofs (disch:=omega) [M1,Sl.eqV D2]
 unfold l1_Heavy_3
 simp -implicitDefEqProofs (disch:=omega)
 refine loop_w (fun m e h'=>∃ (i:Nat) (z:Int),m=(1048577-i)∧i≤L.length∧i≤1048576∧e=f8 (.t false) (wz i) (.p h.next 0 3 0) (wz z) V.u V.u V.u V.u∧h'=h2∧(L.length:Int)+(t / 4+u)≤z∧z≤4503599627370496∧(z<1048576→∀ l∈L.take i,(l.length:Int)≤z∧∀ x∈l,(x.Keys.length:Int)≤8*z+8∧(x.Parts.length:Int)≤z)) ?_ big 1048577 _ _ ⟨0,(L.length:Int)+(t / 4+u),rfl,by omega,by omega,by simp,rfl,Int.le_refl _,by omega,by simp⟩ (by unfold big;omega)
 rintro m e h3 ⟨i,z,rfl,hi,hi6,rfl,rfl,hz0,hz1,hall⟩ K' Kn Kx Kr
 unfold l1_Heavy_0
 have stop:(z<1048576→∀ l∈L,(l.length:Int)≤z∧∀ x∈l,(x.Keys.length:Int)≤8*z+8∧(x.Parts.length:Int)≤z)→K' (X.x 0) (f8 (.t false) (wz i) (.p h.next 0 3 0) (wz z) V.u V.u V.u V.u) h3=true:=by
  intro hs
  refine Kx _ _ _ ?_
  unfold l1_Heavy_4
  have:=K h3 (decide (3000<z)) E02 fun e=>by
   have e':¬ 3000<z:=of_decide_eq_false e
   refine ⟨fun s q=>by have:=t2 (by omega) s q;omega,by omega,fun l hl=>?_,by omega,fun s q=>by have:=u2 (by omega) s q;omega⟩
   obtain ⟨q1,q2⟩:=hs (by omega) l hl
   exact ⟨by omega,fun x hx=>by have:=q2 x hx;omega⟩
  simp -implicitDefEqProofs (disch:=omega)
  exact this
 by_cases hi2:i<L.length
 ·have hi3:(i:Int)<L.length:=by omega
  by_cases hzz:z<1048576
  ·obtain ⟨cl,⟨w,rfl,D3⟩,a1,a2,a3⟩:=D2.at (i:=(i:Int)) (Int.natCast_nonneg i) (getE? (show (i:Int).toNat<L.length from hi2))
   have a1':∀ k,iadV 1 b (wz (i:Int)) k=k (pel b (i:Int) 0):=a1
   have l0:∀ k,ld1 (pel b (i:Int) 0) h3 k=k w:=fun k=>a2 0 k (by decide)
   unfold l1_Heavy_1 l1_Heavy_2
   simp -implicitDefEqProofs (disch:=omega) [M1,lD1,hi3,hzz,a1',l0]
   refine JsonsWeight2_w (n:=n) (xs:=L[i]) D3 fun g g0 g1 g2=>?_
   simp -implicitDefEqProofs (disch:=omega)
   exact Kn _ _ _ (by omega) ⟨i+1,z+g,rfl,by omega,by omega,by simp,rfl,by omega,by omega,fun hz l hl=>by
    rw [List.take_succ_eq_append_getElem hi2] at hl
    rcases List.mem_append.1 hl with q | q
    ·obtain ⟨q1,q2⟩:=hall hzz l q
     exact ⟨by omega,fun x hx=>by have:=q2 x hx;omega⟩
    ·simp only [List.mem_cons,List.not_mem_nil,or_false] at q
     rw [q]
     exact ⟨by omega,fun x hx=>by have:=g2 (by omega) x hx;omega⟩⟩
  ·have:=stop fun q=>absurd q hzz
   simp -implicitDefEqProofs (disch:=omega) [M1,lD1,hi3,hzz]
   exact this
 ·have hi3:¬ (i:Int)<L.length:=by omega
  have:=stop fun q l hl=>hall q l (by rw [List.take_of_length_le (by omega)];exact hl)
  simp -implicitDefEqProofs (disch:=omega) [M1,lD1,hi3]
  exact this
end Go.Bvm.JN
set_option linter.unusedVariables false
set_option linter.unusedSimpArgs false
set_option maxRecDepth 20000
namespace Go.Bvm.JN
open Go.Bvm
theorem flat_setc {n o:Nat} {w:V} (ho:o<n):∀ {cs:List (List V)} (i:Nat) (hi:i<cs.length),(∀ c∈cs,c.length=n)→cs.flatten.set (i*n+o) w=(cs.set i ((cs[i]).set o w)).flatten
 | [],i,hi,_=>by simp at hi
 | c::r,0,hi,h=>by
  have hc:=h c List.mem_cons_self
  simp [List.set_append,hc,ho]
 | c::r,i+1,hi,h=>by
  have hc:=h c List.mem_cons_self
  have ih:=flat_setc (w:=w) ho (cs:=r) i (by simpa using hi) (fun d hd=>h d (List.mem_cons_of_mem _ hd))
  rw [List.set_cons_succ,List.flatten_cons,List.flatten_cons]
  show (c++r.flatten).set _ w=c++(r.set i ((r[i]'(by simpa using hi)).set o w)).flatten
  rw [← ih,List.set_append,if_neg (by rw [hc,Nat.add_mul,Nat.one_mul];omega)]
  congr 2
  rw [hc,Nat.add_mul,Nat.one_mul];omega
theorem _root_.Go.Bvm.RowO.putc {X:List Nat} {c:Nat} {h:H} {v:V} {ty n o:Nat} {cs:List (List V)} (R:RowO X c h v ty n cs) {i:Nat} {w:V} {k:KV} (hi:i<cs.length) (ho:o<n) (hw:oneV w=true)
  (K:∀ h',RowO X c h' v ty n (cs.set i ((cs[i]).set o w))→h'.next=h.next→(∀ j,j∉rids v→hget j h'.tr=hget j h.tr)→k V.u h'=true):st true 1 (pel v (i:Int) o) w h k=true:=by
 obtain ⟨hn,hb,⟨rfl,rfl⟩ | ⟨id,ver,rfl,hci,hid,B⟩⟩:=R
 ·simp at hi
 have hfl:=flat_len hn
 have hle:(i+1)*n≤cs.length*n:=Nat.mul_le_mul_right _ hi
 rw [Nat.add_mul,Nat.one_mul] at hle
 show st true 1 (.p id (0+i*n+o) (0+cs.length*n) ver) _ h k=true
 rw [Nat.zero_add,Nat.zero_add]
 refine st_w B (by omega) (by omega) hw fun h1 n1 B1 x1=>?_
 rw [flat_setc ho i hi hn] at B1
 refine K h1 ⟨set_len (by rw [List.length_set];exact hn _ (List.getElem_mem hi)) hn,by simpa using hb,.inr ⟨id,ver,by simp,hci,⟨by omega,hid.2⟩,B1⟩⟩ n1 fun j hj=>x1.2 j (by simpa using hj)
end Go.Bvm.JN
set_option linter.unusedVariables false
set_option linter.unusedSimpArgs false
set_option maxRecDepth 20000
namespace Go.Bvm.JN
open Go.Bvm
abbrev ksJ:List Nat:=[0,kR Ty_string,kO Ty_string,kR Ty_int,kO Ty_int]
def Cp (c0:Nat) (h:H) (y:V) (l:List api_Json) (a i:Nat):Prop:=∃ (cs:List (List V)) (D:List Nat) (w1 w2:V),RowO [] c0 h y Ty_api_Json 5 cs∧cs.length=i∧(¬ a<i→D=[])∧(∀ d∈D,d<h.next)∧
 (∀ x,l[a]?=some x→a<i→cs[a]?=some [wz x.Kind,wz x.N,vs x.S,w1,w2]∧inR x.Kind∧inR x.N∧x.S.length≤maxB∧SlO [] c0 h w1 x.Keys∧SlO [] c0 h w2 x.Parts∧(∀ d,d∈rids w1→d∈D)∧∀ d,d∈rids w2→d∈D)∧
 ∀ (j:Nat) (c:List V) (x:api_Json),j≠a→cs[j]?=some c→l[j]?=some x→Enc.rep (α:=JC c0) D h c x
theorem rep_x {c c0:Nat} {h:H} {cs:List V} {x:api_Json} {D:List Nat} (r:Enc.rep (α:=JC c) [] h cs x) (hc:c0≤c) (hD:∀ d∈D,d<c):Enc.rep (α:=JC c0) D h cs x:=by
 obtain ⟨v1,v2,e,f0,f1,f2,⟨a1,R1,A1⟩,⟨a2,R2,A2⟩⟩:=r
 have up:∀ {v:V} {ty n:Nat} {cs:List (List V)},RowO [] c h v ty n cs→RowO D c0 h v ty n cs:=fun R=>by
  obtain ⟨hn,hl,q | ⟨id,ver,e,hci,hid,B⟩⟩:=R
  ·exact ⟨hn,hl,.inl q⟩
  ·exact ⟨hn,hl,.inr ⟨id,ver,e,by omega,⟨hid.1,fun k=>by have:=hD id k;omega⟩,B⟩⟩
 exact ⟨v1,v2,e,f0,f1,f2,⟨a1,up R1,A1.1,fun i c x e1 e2=>A1.2 i c x e1 e2⟩,⟨a2,up R2,A2.1,fun i c x e1 e2=>A2.2 i c x e1 e2⟩⟩
theorem CopyJsonsD_w {Z:List Nat} {h:H} {v:V} {l:List api_Json} (A:Sl (α:=JF) Z h v l) (hl:l.length≤1000000) (hB:∀ x∈l,x.Keys.length≤1000000∧x.Parts.length≤1000000) (a:Nat) {n:Nat} {k:KV} (K:∀ h' w,Cp h.next h' w l a l.length→Ex h h'→k w h'=true):run tbl (n+3) Nf_z_CopyJsons (vl [v]) h k=true:=by
 rw [run_succ,tbl_z_CopyJsons]
 unfold T_z_CopyJsons z_CopyJsons_5 z_CopyJsons_3
 simp -implicitDefEqProofs (disch:=omega)
 refine loop_w (fun m e h'=>∃ (i:Nat) (w:V),m=l.length-i∧i≤l.length∧e=f8 slnil (wz i) v w V.u V.u V.u V.u∧Cp h.next h' w l a i∧Ex h h') ?_ big l.length _ _ ⟨0,slnil,rfl,by omega,rfl,⟨[],[],V.u,V.u,.nil _ _ _ _ _,rfl,fun _=>rfl,fun d hd=>by simp at hd,fun x hx h0=>by omega,fun j c x hj e=>by simp at e⟩,Fz.refl _ _ _ _⟩ (by unfold big;omega)
 rintro m e h1 ⟨i,w,rfl,hi,rfl,⟨cs0,D,u1,u2,R,hcl,hD0,hDn,hnode,hoth⟩,E1⟩ K' Kn Kx Kr
 have A1:=A.fz E1 (Nat.le_refl _) (by simp)
 have ll:∀ k,Go.Bvm.lenL v k=k (wz (l.length:Int)):=A1.lenL
 unfold z_CopyJsons_0
 by_cases hi2:i<l.length
 ·have hi3:(i:Int)<l.length:=by omega
  have hb:=hB _ (List.getElem_mem hi2)
  obtain ⟨cs,E,a1,a2,a3⟩:=A1.at (i:=(i:Int)) (Int.natCast_nonneg i) (getE? (show (i:Int).toNat<l.length from hi2))
  have a1':∀ k,iadV 5 v (wz (i:Int)) k=k (pel v (i:Int) 0):=a1
  have E':∃ w1 w2,cs=[wz l[i].Kind,wz l[i].N,vs l[i].S,w1,w2]∧inR l[i].Kind∧inR l[i].N∧l[i].S.length≤maxB∧Sl Z h1 w1 l[i].Keys∧Sl Z h1 w2 l[i].Parts:=E
  obtain ⟨w1,w2,rfl,f0,f1,f2,f3,f4⟩:=E'
  have a3':∀ k,lda 5 (pel v (i:Int) 0) h1 k=k (.x .agg (vl [wz l[i].Kind,wz l[i].N,vs l[i].S,w1,w2]) V.nil):=fun k=>a3 0 5 k (by decide)
  unfold z_CopyJsons_1 z_CopyJsons_2
  simp -implicitDefEqProofs (disch:=omega) [ll,hi3,a1',a3']
  refine CopyJson_w (n:=n) f0 f1 f2 f3 f4 hb.1 hb.2 fun h2 ds Dr E2=>?_
  have hds:ds.length=5:=Enc.len Dr
  have n2:=E2.nx
  have E12:=E1.loc E2 E1.nx E1.nx
  have hpt:∀ (l:List V) (k:V→Bool),l.length=5→part 0 false 5 (.x .agg (vl ds) V.nil) (vl l) k=k (vl ds):=fun l k hl=>part_all ds l _ k hds hl
  rw [hpt _ _ rfl]
  have R2:RowO [] h.next h2 w Ty_api_Json 5 cs0:=R.gx n2 fun id hid _ _=>E2.lo id hid
  refine R2.app1 hds (by decide) rfl (by decide) (by rw [hcl];omega) E12.nx (by simp) fun h3 w3 R3 g _=>?_
  have F3:Fz h.next h2.next [kR Ty_api_Json] h2 h3:=g.fz R2 E12.nx
  have old:∀ (D:List Nat) (c:List V) (x:api_Json),Enc.rep (α:=JC h.next) D h1 c x→Enc.rep (α:=JC h.next) D h3 c x:=fun D c x r=>Enc.fz (α:=JC h.next) (Enc.fz (α:=JC h.next) r E2 (Nat.le_refl _) (fun k _ q=>by simp at q)) F3 (Nat.le_refl _) (show ∀ k,k∈ksJ→k∉[kR Ty_api_Json] by decide)
  have Dr3:Enc.rep (α:=JC h1.next) [] h3 ds l[i]:=Enc.fz (α:=JC h1.next) Dr F3 (Nat.le_refl _) (show ∀ k,k∈ksJ→k∉[kR Ty_api_Json] by decide)
  obtain ⟨y1,y2,hdse,k0,k1,k2,k3,k4⟩:=Dr3
  have Dr3:Enc.rep (α:=JC h1.next) [] h3 ds l[i]:=⟨y1,y2,hdse,k0,k1,k2,k3,k4⟩
  have n3:=F3.nx
  have next:Cp h.next h3 w3 l a (i+1):=by
   by_cases hai:a=i
   ·subst hai
    have hD:=hD0 (by omega)
    subst hD
    refine ⟨cs0++[ds],rids y1++rids y2,y1,y2,R3,by simp [hcl],fun q=>by omega,fun d hd=>?_,fun x hx _=>?_,fun j c x hj e1 e2=>?_⟩
    ·rcases List.mem_append.1 hd with q | q
     ·exact (k3.rids q).2.1
     ·exact (k4.rids q).2.1
    ·rw [List.getElem?_eq_getElem hi2] at hx
     cases hx
     refine ⟨by rw [List.getElem?_append_right (by omega),hcl];simp [hdse],k0,k1,k2,k3.mono E1.nx,k4.mono E1.nx,fun d q=>List.mem_append_left _ q,fun d q=>List.mem_append_right _ q⟩
    ·by_cases hj2:j<a
     ·rw [List.getElem?_append_left (by omega)] at e1
      have r:=hoth j c x hj e1 e2
      exact old _ c x (Enc.xm (α:=JC h.next) r fun d hd _=>by
       rcases List.mem_append.1 hd with q | q
       ·exact (k3.rids q).1
       ·exact (k4.rids q).1)
     ·have:j<(cs0++[ds]).length:=(List.getElem?_eq_some_iff.1 e1).1
      simp [hcl] at this
      omega
   ·refine ⟨cs0++[ds],D,u1,u2,R3,by simp [hcl],fun q=>hD0 (by omega),fun d hd=>by have:=hDn d hd;omega,fun x hx hai2=>?_,fun j c x hj e1 e2=>?_⟩
    ·obtain ⟨q0,q1,q2,q3,q4,q5,q6,q7⟩:=hnode x hx (by omega)
     refine ⟨by rw [List.getElem?_append_left (by omega)];exact q0,q1,q2,q3,(q4.fz E2 (Nat.le_refl _) (by simp)).fz F3 (Nat.le_refl _) (by decide),(q5.fz E2 (Nat.le_refl _) (by simp)).fz F3 (Nat.le_refl _) (by decide),q6,q7⟩
    ·by_cases hj2:j<i
     ·rw [List.getElem?_append_left (by omega)] at e1
      exact old D c x (hoth j c x hj e1 e2)
     ·have hlt:j<(cs0++[ds]).length:=(List.getElem?_eq_some_iff.1 e1).1
      simp [hcl] at hlt
      have:j=i:=by omega
      subst this
      rw [List.getElem?_append_right (by omega),hcl] at e1
      simp at e1
      subst e1
      rw [List.getElem?_eq_getElem hi2] at e2
      cases e2
      exact rep_x Dr3 E1.nx fun d hd=>hDn d hd
  refine Kn _ _ _ (by omega) ⟨i+1,w3,rfl,by omega,by simp,next,exC E12 F3 (Nat.le_refl _)⟩
 ·have hi3:¬ (i:Int)<l.length:=by omega
  simp -implicitDefEqProofs (disch:=omega) [ll,hi3]
  refine Kx _ _ _ ?_
  unfold z_CopyJsons_4
  simp -implicitDefEqProofs (disch:=omega)
  exact K h1 w (by rw [show l.length=i by omega];exact ⟨cs0,D,u1,u2,R,hcl,hD0,hDn,hnode,hoth⟩) E1
end Go.Bvm.JN
set_option linter.unusedVariables false
set_option linter.unusedSimpArgs false
set_option maxRecDepth 20000
namespace Go.Bvm.JN
open Go.Bvm
theorem fin_put {c0:Nat} {h:H} {y:V} {l:List api_Json} {a o:Nat} {w:V} {cs:List (List V)} {ca:List V} {D:List Nat} {x':api_Json} {k:KV} (R:RowO [] c0 h y Ty_api_Json 5 cs) (hcl:cs.length=l.length) (ha:a<l.length) (hca:cs[a]?=some ca) (ho:o<5) (hw:oneV w=true)
  (hoth:∀ (j:Nat) (c:List V) (x:api_Json),j≠a→cs[j]?=some c→l[j]?=some x→Enc.rep (α:=JC c0) D h c x) (new:Enc.rep (α:=JF) [] h (ca.set o w) x')
  (K:∀ h',Sl (α:=JF) [] h' y (l.set a x')→h'.next=h.next→(∀ j,j<c0→hget j h'.tr=hget j h.tr)→k V.u h'=true):st true 1 (pel y (a:Int) o) w h k=true:=by
 have hal:a<cs.length:=by omega
 have hca2:cs[a]=ca:=by rw [List.getElem?_eq_getElem hal] at hca;exact Option.some.inj hca
 refine R.putc (i:=a) (o:=o) hal ho hw fun h1 R1 n1 F1=>?_
 rw [hca2] at R1
 have hids:∀ j,j∈rids y→c0≤j∧kd (hget j h.tr)=kR Ty_api_Json:=fun j hj=>⟨(R.rids hj).1,(R.rids hj).2.2.2⟩
 have key:∀ (c:List V) (x:api_Json),Enc.rep (α:=JF) [] h c x→Enc.rep (α:=JF) [] h1 c x:=fun c x r=>Enc.gx (α:=JF) r (by omega) fun id hid _ hk=>F1 id fun q=>by
  have:=(hids id q).2
  rw [this] at hk
  exact absurd hk (show kR Ty_api_Json∉ksJ by decide)
 have weak:∀ (c:List V) (x:api_Json),Enc.rep (α:=JC c0) D h c x→Enc.rep (α:=JF) [] h c x:=fun c x r=>Enc.xm (α:=JF) (rep_jf r) fun i hi=>by simp at hi
 refine K h1 ⟨_,R1.row,by show (cs.set a _).length=(l.set a x':List api_Json).length;rw [List.length_set,List.length_set];exact hcl,fun i c x e1 e2=>?_⟩ n1 fun j hj=>F1 j fun q=>by have:=(hids j q).1;omega
 have e2:(l.set a x')[i]?=some x:=e2
 by_cases e:i=a
 ·subst e
  rw [List.getElem?_set_self (by omega)] at e1 e2
  cases e1
  cases e2
  exact key _ _ new
 ·rw [List.getElem?_set_ne (Ne.symm e)] at e1 e2
  exact key _ _ (weak _ _ (hoth i c x e e1 e2))
theorem mut_w {c0:Nat} {h:H} {y:V} {l:List api_Json} {a kk:Nat} {e:L8} {K:KX} {n:Nat} (C:Cp c0 h y l a l.length) (ha:a<l.length) (hM:P.OKM l[a]) (hc:c0≤h.next) (he:e.c0.c5=wz kk) (hk5:kk<5)
  (Kf:∀ h' x',Sl (α:=JF) [] h' y (l.set a x')→(x'.Keys.length≤4001∧x'.Parts.length≤4001)→h.next≤h'.next→(∀ j,j<c0→hget j h'.tr=hget j h.tr)→K X.n e h'=true):l1_values_7 (run tbl n) big y (wz a) e h K=true:=by
 obtain ⟨cs,D,w1,w2,R,hcl,hD0,hDn,hnode,hoth⟩:=C
 have hx:=List.getElem?_eq_getElem ha
 obtain ⟨hca,f0,f1,f2,f3,f4,hr1,hr2⟩:=hnode _ hx ha
 obtain ⟨m1,m2,m3,m4,m5,m6,m7⟩:=hM
 have hal:a<cs.length:=by omega
 have AT:=R.row.at (i:=(a:Int)) (c:=[wz l[a].Kind,wz l[a].N,vs l[a].S,w1,w2]) (Int.natCast_nonneg a) (by simpa using hca)
 have b1:∀ k,iadV 5 y (wz (a:Int)) k=k (pel y (a:Int) 0):=AT.2.1
 have b2:∀ o k,o<5→ld1 (pel y (a:Int) o) h k=k (nth [wz l[a].Kind,wz l[a].N,vs l[a].S,w1,w2] o):=AT.2.2.1
 generalize hxx:l[a]=x at *
 unfold l1_values_7
 have h01234:kk=0∨kk=1∨kk=2∨kk=3∨kk=4:=by omega
 rcases h01234 with rfl | rfl | rfl | rfl | rfl
 ·have he:e.c0.c5=wz 0:=he
  unfold l1_values_6
  simp -implicitDefEqProofs (disch:=omega) [he,b1,b2]
  have q:inR ((x.Kind+1) % 8):=⟨by omega,by omega⟩
  exact fin_put (o:=0) (k:=fun _ h'=>K X.n e h') R hcl ha hca (by decide) rfl hoth (x':=⟨(x.Kind+1) % 8,x.N,x.S,x.Keys,x.Parts⟩) ⟨w1,w2,rfl,q,f1,f2,f3.sl,f4.sl⟩ fun h' S n1 lo=>Kf h' _ S ⟨by show x.Keys.length≤4001;omega,by show x.Parts.length≤4001;omega⟩ (by omega) lo
 ·have he:e.c0.c5=wz 1:=he
  unfold l1_values_6 l1_values_5
  simp -implicitDefEqProofs (disch:=omega) [he,b1,b2]
  have q:inR (x.N+1):=⟨by omega,by omega⟩
  exact fin_put (o:=1) (k:=fun _ h'=>K X.n e h') R hcl ha hca (by decide) rfl hoth (x':=⟨x.Kind,x.N+1,x.S,x.Keys,x.Parts⟩) ⟨w1,w2,rfl,f0,q,f2,f3.sl,f4.sl⟩ fun h' S n1 lo=>Kf h' _ S ⟨by show x.Keys.length≤4001;omega,by show x.Parts.length≤4001;omega⟩ (by omega) lo
 ·have he:e.c0.c5=wz 2:=he
  unfold l1_values_6 l1_values_5
  simp -implicitDefEqProofs (disch:=omega) [he,b1,b2]
  rw [catV_vs _ _ (by show List.length x.S+1≤_;omega)]
  have q:(x.S++[1]).length≤maxB:=by have:maxB=140737488355328:=rfl;rw [List.length_append];show List.length x.S+1≤_;omega
  exact fin_put (o:=2) (k:=fun _ h'=>K X.n e h') R hcl ha hca (by decide) rfl hoth (x':=⟨x.Kind,x.N,x.S++[1],x.Keys,x.Parts⟩) ⟨w1,w2,rfl,f0,f1,q,f3.sl,f4.sl⟩ fun h' S n1 lo=>Kf h' _ S ⟨by show x.Keys.length≤4001;omega,by show x.Parts.length≤4001;omega⟩ (by omega) lo
 ·have he:e.c0.c5=wz 3:=he
  have hXD:∀ j,j∈D→j<h.next:=hDn
  unfold l1_values_6 l1_values_5
  unfold l1_values_4
  simp -implicitDefEqProofs (disch:=omega) [he,b1,b2]
  refine SlO.app1 (α:=List UInt8) f3 (e:=[vs [97]]) (x:=[97]) ⟨rfl,by decide⟩ (by decide) rfl (by decide) (by show (x.Keys.length+1)*1≤_;omega) hc (by simp) (by decide) fun h1 w g1 gr rw_ F1=>?_
  have R1:RowO [] c0 h1 y Ty_api_Json 5 cs:=R.gx F1.nx fun id a1 _ k1=>F1.hi id a1 (by rw [k1];decide)
  obtain ⟨_,c1,c2,c3⟩:=R1.row.at (i:=(a:Int)) (c:=[wz x.Kind,wz x.N,vs x.S,w1,w2]) (Int.natCast_nonneg a) (by simpa using hca)
  have g2:Sl [] h1 w2 x.Parts:=f4.sl.fz F1 (Nat.le_refl _) (by decide)
  have n1:=F1.nx
  have hoth1:∀ (j:Nat) (c:List V) (x:api_Json),j≠a→cs[j]?=some c→l[j]?=some x→Enc.rep (α:=JC c0) D h1 c x:=fun j c x hj e1 e2=>Enc.gx (α:=JC c0) (hoth j c x hj e1 e2) F1.nx fun id a1 a2 _=>gr.2 id a1 fun q=>a2 (hr1 id q)
  have q:(x.Keys++[[97]]).length≤4001:=by rw [List.length_append];show x.Keys.length+1≤_;omega
  exact fin_put (o:=3) (k:=fun _ h'=>K X.n e h') R1 hcl ha hca (by decide) (Sl.one g1.sl) hoth1 (x':=⟨x.Kind,x.N,x.S,x.Keys++[[97]],x.Parts⟩) ⟨w,w2,rfl,f0,f1,f2,g1.sl,g2⟩ fun h' S n2 lo=>Kf h' _ S ⟨q,by show x.Parts.length≤4001;omega⟩ (by omega) fun j hj=>(lo j hj).trans (F1.lo j hj)
 ·have he:e.c0.c5=wz 4:=he
  have hXD:∀ j,j∈D→j<h.next:=hDn
  unfold l1_values_6 l1_values_5
  unfold l1_values_4
  simp -implicitDefEqProofs (disch:=omega) [he,b1,b2]
  refine SlO.app1 (α:=Int) f4 (e:=[wz 0]) (x:=0) ⟨rfl,by decide⟩ (by decide) rfl (by decide) (by show (x.Parts.length+1)*1≤_;omega) hc (by simp) (by decide) fun h1 w g1 gr rw_ F1=>?_
  have R1:RowO [] c0 h1 y Ty_api_Json 5 cs:=R.gx F1.nx fun id a1 _ k1=>F1.hi id a1 (by rw [k1];decide)
  obtain ⟨_,c1,c2,c3⟩:=R1.row.at (i:=(a:Int)) (c:=[wz x.Kind,wz x.N,vs x.S,w1,w2]) (Int.natCast_nonneg a) (by simpa using hca)
  have g2:Sl [] h1 w1 x.Keys:=f3.sl.fz F1 (Nat.le_refl _) (by decide)
  have n1:=F1.nx
  have hoth1:∀ (j:Nat) (c:List V) (x:api_Json),j≠a→cs[j]?=some c→l[j]?=some x→Enc.rep (α:=JC c0) D h1 c x:=fun j c x hj e1 e2=>Enc.gx (α:=JC c0) (hoth j c x hj e1 e2) F1.nx fun id a1 a2 _=>gr.2 id a1 fun q=>a2 (hr2 id q)
  have q:(x.Parts++[0]).length≤4001:=by rw [List.length_append];show x.Parts.length+1≤_;omega
  exact fin_put (o:=4) (k:=fun _ h'=>K X.n e h') R1 hcl ha hca (by decide) (Sl.one g1.sl) hoth1 (x':=⟨x.Kind,x.N,x.S,x.Keys,x.Parts++[0]⟩) ⟨w1,w,rfl,f0,f1,f2,g2,g1.sl⟩ fun h' S n2 lo=>Kf h' _ S ⟨by show x.Keys.length≤4001;omega,q⟩ (by omega) fun j hj=>(lo j hj).trans (F1.lo j hj)
end Go.Bvm.JN
set_option linter.unusedVariables false
set_option linter.unusedSimpArgs false
set_option maxRecDepth 20000
namespace Go.Bvm
theorem app_cut_w {h:H} {esz elem sid soff n sver sfrz sel id len ver:Nat} {ex sex sown:Bool} {l m:List V} {k:KV} (bs':Bk h sid sver sfrz sel sex sown l) (b:Bk h id ver 0 elem ex true m) (he:1≤esz) (hn:1≤n) (hl:soff+n*esz≤l.length) (hm:len*esz<m.length) (hle:len*esz+n*esz≤17179869184)
  (K:∀ h',h'.next=h.next+1→Bk h' h.next 0 0 elem false true (m.take (len*esz)++(l.drop soff).take (n*esz))→(∀ i,i≠id→i≠h.next→hget i h'.tr=hget i h.tr)→k (.sl h.next 0 (len+n) 0 esz) h'=true):app esz elem (.sl id 0 len ver esz) (.sl sid soff n sver esz) h k=true:=by
 obtain ⟨c,s2,s3,s4⟩:=bs'
 obtain ⟨d,m2,m3,m4⟩:=b
 have hf:=acap_fresh (len*esz+n*esz) hle
 have hlen:(m.take (len*esz)++(l.drop soff).take (n*esz)).length=len*esz+n*esz:=by simp;omega
 obtain ⟨q1,q2⟩:=hset_bk (h:=⟨h.next,hset id .nb h.tr⟩) (id:=h.next) (ver:=0) (frz:=0) (elem:=elem) (ex:=false) (own:=true) (l:=m.take (len*esz)++(l.drop soff).take (n*esz)) (c:=acopy c (n*esz) soff (len*esz) (acopy d (len*esz) 0 0 (fresh (len*esz+n*esz)))) (n:=len*esz+n*esz) hlen.symm (by rw [acap_acopy,acap_acopy,hlen];exact hf) (fun j hj=>by
  rw [hlen] at hj
  rw [aget_acopy c _ _ _ _ _ (by rw [acap_acopy];omega) (by rw [acap_acopy];omega)]
  by_cases hjm:j<len*esz
  ·rw [if_neg (by omega),aget_acopy d _ _ _ _ _ (by omega) (by omega),if_pos (by omega),Nat.zero_add,Nat.sub_zero,m4 j (by omega),List.getElem_append_left (by simp;omega)]
   simp
  ·rw [if_pos (by omega),s4 _ (by omega),List.getElem_append_right (by simp;omega)]
   have e:min (len*esz) m.length=len*esz:=Nat.min_eq_left (by omega)
   simp [e]) (h.next+1) (Nat.le_succ _)
 have hb0:Nat.beq n 0=false:=by rw [beq_dec];simp;omega
 show both (Nat.ble 1 esz) (both (Nat.beq esz esz) (onBk (hget sid h.tr) _))=_
 rw [s2]
 show both (Nat.ble 1 esz) (both (Nat.beq esz esz) (both (Nat.beq sver sver) (bs (Nat.beq n 0) _ (both (Nat.beq esz esz) (onBk (hget id h.tr) _)))))=_
 rw [hb0,bs_false,m2]
 show both (Nat.ble 1 esz) (both (Nat.beq esz esz) (both (Nat.beq sver sver) (both (Nat.beq esz esz) (both true (both (Nat.beq ver ver) (both (both (Nat.beq elem elem) (Nat.ble 0 (0+len*esz))) (bs (both (Nat.beq 0 0) (Nat.beq (len*esz) m.length)) _ (both (Nat.ble (len*esz+n*esz) 17179869184) (both (Nat.ble 0 (h.next+1)) (k _ _))))))))))=_
 have e:Nat.beq (len*esz) m.length=false:=by rw [beq_dec];simp;omega
 rw [ble_dec 1 esz,bothd he,beq_dec esz esz,bothd rfl,beq_dec sver sver,bothd rfl,bothd rfl,both_t,beq_dec ver ver,bothd rfl,beq_dec elem elem,bothd rfl,ble_dec 0,bothd (Nat.zero_le _),e]
 show both (Nat.ble (len*esz+n*esz) 17179869184) (both (Nat.ble 0 (h.next+1)) _)=_
 rw [ble_dec,bothd hle,ble_dec,bothd (Nat.zero_le _)]
 refine K _ rfl q1 fun i hi hj=>?_
 have:=q2.2 i hj
 rw [this]
 show hget i (hset id _ h.tr)=_
 rw [hget_hset _ _ _ _ (Nat.zero_le _) (Nat.zero_le _),if_neg hi]
theorem app_zero {h:H} {esz elem sid soff sver sfrz sel:Nat} {sex sown:Bool} {l:List V} {k:KV} {x:V} (b:Bk h sid sver sfrz sel sex sown l) (he:1≤esz) (hx:∃ a b c d e,x=.sl a b c d e):app esz elem x (.sl sid soff 0 sver esz) h k=k x h:=by
 obtain ⟨c,s2,s3,s4⟩:=b
 obtain ⟨x1,x2,x3,x4,x5,rfl⟩:=hx
 show both (Nat.ble 1 esz) (both (Nat.beq esz esz) (onBk (hget sid h.tr) _))=_
 rw [s2]
 show both (Nat.ble 1 esz) (both (Nat.beq esz esz) (both (Nat.beq sver sver) (k _ _)))=_
 rw [ble_dec,bothd he,beq_dec,bothd rfl,beq_dec,bothd rfl]
namespace JN
def RW (c:Nat) (h:H) (v:V) (ls:List (List JF)):Prop:=∃ (id ver:Nat) (ex:Bool) (m:List V),v=.sl id 0 ls.length ver 1∧c≤id∧id<h.next∧Bk h id ver 0 Ty_Sl_api_Json ex true m∧ls.length≤m.length∧m.length≤1000000∧∀ (i:Nat) (x:List JF),ls[i]?=some x→∃ w,m[i]?=some w∧oneV w=true∧Sl (α:=JF) [] h w x
theorem RW.ex {c:Nat} {h h':H} {v:V} {ls:List (List JF)} (R:RW c h v ls) (E:Ex h h'):RW c h' v ls:=by
 obtain ⟨id,ver,ex,m,e,h1,h2,B,h3,h4,h5⟩:=R
 have:=E.nx
 exact ⟨id,ver,ex,m,e,h1,by omega,B.eq (E.lo id h2),h3,h4,fun i x q=>by obtain ⟨w,q1,q2,q3⟩:=h5 i x q;exact ⟨w,q1,q2,q3.fz E (Nat.le_refl _) (by simp)⟩⟩
theorem RW.len {c:Nat} {h:H} {v:V} {ls:List (List JF)} (R:RW c h v ls) (k:V→Bool):lenL v k=k (wz (ls.length:Int)):=by
 obtain ⟨id,ver,ex,m,rfl,h1,h2,B,h3,h4,h5⟩:=R
 exact lenL_sl _ _ _ _ _ (by omega) k
theorem RW.at {c:Nat} {h:H} {v:V} {ls:List (List JF)} (R:RW c h v ls) {i:Nat} (hi:i<ls.length):∃ w,(∀ k,iadV 1 v (wz (i:Int)) k=k (pel v (i:Int) 0))∧(∀ k,ld1 (pel v (i:Int) 0) h k=k w)∧Sl (α:=JF) [] h w ls[i]:=by
 obtain ⟨id,ver,ex,m,rfl,h1,h2,B,h3,h4,h5⟩:=R
 obtain ⟨w,q1,q2,q3⟩:=h5 i _ (List.getElem?_eq_getElem hi)
 refine ⟨w,fun k=>iadV_z 1 id 0 ls.length ver i hi k,fun k=>?_,q3⟩
 have hl:i<m.length:=by omega
 show ld1 (.p id (0+i*1+0) (0+ls.length*1) ver) h k=_
 rw [B.ld rfl (by omega) (by omega)]
 congr 1
 rw [nth_get (by omega)]
 rw [List.getElem?_eq_getElem hl] at q1
 have:=Option.some.inj q1
 rw [← this]
 congr 1
 omega
theorem jf_put {h h':H} {w:V} {x:List JF} {id j:Nat} {m:List V} {ver:Nat} {ex:Bool} (S:Sl (α:=JF) [] h w x) (B:Bk h id ver 0 Ty_Sl_api_Json ex true m) (n1:h.next≤h'.next) (F:∀ i,i≠id→i≠j→hget i h'.tr=hget i h.tr) (hj:h.next≤j):Sl (α:=JF) [] h' w x:=by
 refine S.gx n1 fun i hi _ hk=>F i (fun e=>?_) (by omega)
 subst e
 rw [B.kd] at hk
 cases ex
 ·exact absurd hk (by decide)
 ·exact absurd hk (by decide)
theorem ssli_sl (esz id off len ver i:Nat) (hi:i≤len) (hl:len≤maxB) (k:V→Bool):ssli esz none (some (wz i)) (.sl id off len ver esz) k=k (.sl id off i ver esz):=by
 show both (Nat.beq esz esz) (bnd (some (wz i)) len fun b=>both (Nat.ble b len) (both (Nat.ble 0 b) (k (.sl id (off+0*esz) (b-0) ver esz))))=_
 rw [beq_dec,bothd rfl,bnd_wz i _ (by omega),ble_dec,bothd (by omega),ble_dec,bothd (Nat.zero_le _),Nat.zero_mul,Nat.add_zero,Nat.sub_zero]
theorem RW.cut {c:Nat} {h:H} {v:V} {ls:List (List JF)} (R:RW c h v ls) {i:Nat} (hi:i≤ls.length) {k:V→Bool} (K:∀ w,RW c h w (ls.take i)→k w=true):ssli 1 none (some (wz i)) v k=true:=by
 obtain ⟨id,ver,ex,m,rfl,h1,h2,B,h3,h4,h5⟩:=R
 have hti:(ls.take i).length=i:=by simp;omega
 have hmB:maxB=140737488355328:=rfl
 rw [ssli_sl 1 id 0 ls.length ver i hi (by omega)]
 refine K _ ⟨id,ver,ex,m,by rw [hti],h1,h2,B,by rw [hti];omega,h4,fun j x q=>?_⟩
 rw [List.getElem?_take] at q
 split at q
 ·exact h5 j x q
 ·simp at q
theorem RW.app {c:Nat} {h:H} {v:V} {ls:List (List JF)} (R:RW c h v ls) {x:List JF} {w:V} (S:Sl (α:=JF) [] h w x) (hl:ls.length≤4000) {k:KV} (hc:c≤h.next)
  (K:∀ h' v',RW c h' v' (ls++[x])→Fz c h.next [kR Ty_Sl_api_Json,kO Ty_Sl_api_Json] h h'→k v' h'=true):bslA h.next 1 1 Ty_Sl_api_Json (vl [w]) ⟨h.next+1,h.tr⟩ (fun v' h1=>Go.Bvm.app 1 Ty_Sl_api_Json v v' h1 k)=true:=by
 obtain ⟨id,ver,ex,m,rfl,h1,h2,B,h3,h4,h5⟩:=R
 refine bslA_w rfl (show 1≤4096 by decide) fun g1 n1 b1 o1=>?_
 have n1':g1.next=h.next+1:=n1
 have B1:Bk g1 id ver 0 Ty_Sl_api_Json ex true m:=B.only (h':=g1) (id:=h.next) ⟨by omega,o1.2⟩ (by omega)
 have low:∀ i,i<h.next→hget i g1.tr=hget i h.tr:=fun i hi=>o1.2 i (by omega)
 have up1:∀ {w x},Sl (α:=JF) [] h w x→Sl (α:=JF) [] g1 w x:=fun s=>s.gx (by omega) fun i hi _ _=>low i hi
 have S1:=up1 S
 have nid:∀ i,kd (hget i h.tr)∉[kR Ty_Sl_api_Json,kO Ty_Sl_api_Json]→i≠id:=fun i hk e=>by
  subst e
  rw [B.kd] at hk
  cases ex
  ·exact hk (by decide)
  ·exact hk (by decide)
 by_cases hcut:ls.length*1<m.length
 ·refine app_cut_w (n:=1) b1 B1 (by decide) (by decide) (show 0+1*1≤1 by decide) hcut (by omega) fun g2 n2 b2 o2=>?_
  refine K g2 _ ⟨g1.next,0,false,_,by simp,by omega,by omega,b2,by simp;omega,by simp;omega,fun i y q=>?_⟩ ⟨by omega,fun i hi=>?_,fun i hi hk=>?_⟩
  ·by_cases e:i<ls.length
   ·rw [List.getElem?_append_left e] at q
    obtain ⟨u,q1,q2,q3⟩:=h5 i y q
    refine ⟨u,?_,q2,jf_put (up1 q3) B1 (by omega) o2 (Nat.le_refl _)⟩
    rw [List.getElem?_append_left (by simp;omega),List.getElem?_take,if_pos (by omega)]
    exact q1
   ·have e2:i=ls.length:=by
     have:=(List.getElem?_eq_some_iff.1 q).1
     simp at this
     omega
    subst e2
    simp at q
    subst q
    exact ⟨w,by rw [List.getElem?_append_right (by simp;omega),List.length_take,Nat.min_eq_left (by omega),Nat.mul_one ls.length,Nat.sub_self];rfl,S.one,jf_put S1 B1 (by omega) o2 (Nat.le_refl _)⟩
  ·rw [o2 i (by omega) (by omega),low i (by omega)]
  ·rw [o2 i (nid i hk) (by omega),low i (by omega)]
 ·have hml:m.length=ls.length*1:=by omega
  refine app_row_w (n:=1) b1 B1 (by decide) (by decide) (show 0+1*1≤1 by decide) hml (by omega) fun g2 n2 b2 o2=>?_
  have o2':∀ i,i≠id→i≠g1.next→hget i g2.tr=hget i g1.tr:=fun i a _=>o2.2 i a
  refine K g2 _ ⟨id,ver+1,false,_,by simp,by omega,by omega,b2,by simp;omega,by simp;omega,fun i y q=>?_⟩ ⟨by omega,fun i hi=>?_,fun i hi hk=>?_⟩
  ·by_cases e:i<ls.length
   ·rw [List.getElem?_append_left e] at q
    obtain ⟨u,q1,q2,q3⟩:=h5 i y q
    refine ⟨u,?_,q2,jf_put (up1 q3) B1 (by omega) o2' (Nat.le_refl _)⟩
    rw [List.getElem?_append_left (by omega)]
    exact q1
   ·have e2:i=ls.length:=by
     have:=(List.getElem?_eq_some_iff.1 q).1
     simp at this
     omega
    subst e2
    simp at q
    subst q
    exact ⟨w,by rw [List.getElem?_append_right (by omega)];simp [hml],S.one,jf_put S1 B1 (by omega) o2' (Nat.le_refl _)⟩
  ·rw [o2.2 i (by omega),low i (by omega)]
  ·rw [o2.2 i (nid i hk),low i (by omega)]
theorem RW.start {h:H} {b:V} {L:List (List JF)} (A:Sl (α:=List JF) [] h b L) (hL:L.length≤4000) {h1:H} (n1:h1.next=h.next+1) (B1:Bk h1 h.next 0 0 Ty_Sl_api_Json true true [slnil]) (x1:Only h h1 h.next) {k:KV}
  (K:∀ h' v,RW h.next h' v ([]::L)→(∀ i,i<h.next→hget i h'.tr=hget i h.tr)→h.next≤h'.next→k v h'=true):Go.Bvm.app 1 Ty_Sl_api_Json (.sl h.next 0 1 0 1) b h1 k=true:=by
 have A1:Sl (α:=List JF) [] h1 b L:=A.gx (by omega) fun i hi _ _=>x1.2 i (by omega)
 have low:∀ i,i<h.next→hget i h1.tr=hget i h.tr:=fun i hi=>x1.2 i (by omega)
 have nil0:∀ g:H,∃ w,some slnil=some w∧oneV w=true∧Sl (α:=JF) [] g w []:=fun g=>⟨slnil,rfl,rfl,.nil _ _⟩
 obtain ⟨cs,⟨hcn,hcl,q⟩,hlen,hel⟩:=A1
 have hcn:∀ c∈cs,c.length=1:=hcn
 have base:L=[]→k (.sl h.next 0 1 0 1) h1=true:=fun e=>by
  subst e
  refine K h1 _ ⟨h.next,0,true,_,rfl,by omega,by omega,B1,by decide,by decide,fun i x q=>?_⟩ low (by omega)
  have:i=0:=by
   have:=(List.getElem?_eq_some_iff.1 q).1
   simp at this
   omega
  subst this
  simp at q
  subst q
  exact nil0 h1
 rcases q with ⟨rfl,rfl⟩ | ⟨id,off,ver,frz,ex,own,l,rfl,hid,B,hle,hfl⟩
 ·have hL0:L=[]:=by cases L with | nil=>rfl | cons a b=>simp at hlen
  rw [app_no _ _ _ _ _ (by decide) (.inr ⟨_,_,_,_,_,rfl⟩)]
  exact base hL0
 ·have hcs:cs.length=L.length:=hlen
  by_cases h0:cs.length=0
  ·have hL0:L=[]:=List.length_eq_zero_iff.1 (by omega)
   rw [h0]
   obtain ⟨ty,B'⟩:=B
   exact (app_zero (esz:=1) B'.1 (by decide) ⟨_,_,_,_,_,rfl⟩).trans (base hL0)
  ·obtain ⟨ty,B',_⟩:=B
   have hle':off+cs.length*1≤l.length:=hle
   refine app_row_w (n:=cs.length) B' B1 (by decide) (by omega) hle' rfl (show 1+cs.length*1≤17179869184 by omega) fun g2 n2 b2 o2=>?_
   have hfl':(l.drop off).take (cs.length*1)=cs.flatten:=hfl
   rw [hfl'] at b2
   have hflen:cs.flatten.length=cs.length*1:=flat_len hcn
   refine K g2 _ ⟨h.next,0+1,false,_,by rw [List.length_cons,hcs,Nat.add_comm],by omega,by omega,b2,by simp [hflen];omega,by simp [hflen];omega,fun i x q=>?_⟩ (fun i hi=>by rw [o2.2 i (by omega),low i hi]) (by omega)
   cases i with
   | zero=>
    simp at q
    subst q
    exact nil0 g2
   | succ i=>
    have q:L[i]?=some x:=by simpa using q
    have hi:i<cs.length:=by
     have:=(List.getElem?_eq_some_iff.1 q).1
     omega
    obtain ⟨w,e,S⟩:=hel i _ x (List.getElem?_eq_getElem hi) q
    have e1:cs[i]?=some [w]:=by rw [List.getElem?_eq_getElem hi,e]
    have e2:(cs.flatten.drop (i*1)).take 1=[w]:=flat_at i hcn e1
    refine ⟨w,?_,S.one,jf_put S B1 (by omega) (fun j a _=>o2.2 j a) (Nat.le_refl _)⟩
    have e3:((cs.flatten.drop (i*1)).take 1)[0]?=some w:=by rw [e2];rfl
    rw [List.singleton_append,List.getElem?_cons_succ]
    simpa [List.getElem?_take] using e3
end JN
end Go.Bvm
set_option linter.unusedVariables false
set_option linter.unusedSimpArgs false
set_option maxRecDepth 20000
namespace Go.Bvm.JN
open Go.Bvm
abbrev NdOk (l:List JF):Prop:=∀ x:api_Json,x∈(l:List api_Json)→x.Keys.length≤1000000∧x.Parts.length≤4096
def LsOk (ls:List (List JF)):Prop:=∀ l∈ls,l.length≤1000000∧NdOk l
theorem LsOk.app {ls:List (List JF)} {l:List JF} (h:LsOk ls) (a:l.length≤1000000) (b:NdOk l):LsOk (ls++[l]):=fun y hy=>by
 rcases List.mem_append.1 hy with q | q
 ·exact h y q
 ·simp only [List.mem_cons,List.not_mem_nil,or_false] at q
  rw [q];exact ⟨a,b⟩
structure VA (c:Nat) (h0 h:H) (v:V) (ls:List (List JF)):Prop where
 row:RW c h v ls
 ok:LsOk ls
 lo:∀ i,i<c→hget i h.tr=hget i h0.tr
 nx:c≤h.next
theorem VA.ex {c:Nat} {h0 h h':H} {v:V} {ls:List (List JF)} (a:VA c h0 h v ls) (E:Ex h h'):VA c h0 h' v ls:=⟨a.row.ex E,a.ok,fun i hi=>(E.lo i (by have:=a.nx;omega)).trans (a.lo i hi),by have:=a.nx;have:=E.nx;omega⟩
theorem app_one {c:Nat} {h0 h:H} {v w:V} {ls:List (List JF)} {x:List JF} (a:VA c h0 h v ls) (S:Sl (α:=JF) [] h w x) (hx:x.length≤1000000) (nx:NdOk x) (hl:ls.length≤4000) {k:KV}
  (K:∀ h' v',VA c h0 h' v' (ls++[x])→(∀ {Z:List Nat} {u:V} {y:List JF},Sl (α:=JF) Z h u y→Sl (α:=JF) Z h' u y)→h.next≤h'.next→k v' h'=true) :
  resv 1 h (fun i65 h66=>part 0 true 1 w (vl [V.x .slnil V.nil V.nil]) fun v67=>bslA i65 1 1 Ty_Sl_api_Json v67 h66 fun v68 h69=>app 1 Ty_Sl_api_Json v v68 h69 k)=true:=by
 simp -implicitDefEqProofs (disch:=omega)
 rw [part_one 0 w _ S.one (by simp)]
 refine RW.app a.row S hl a.nx fun h' v' R F=>K h' v' ⟨R,a.ok.app hx nx,fun i hi=>(F.lo i hi).trans (a.lo i hi),by have:=a.nx;have:=F.nx;omega⟩ (fun s=>s.fz F (Nat.le_refl _) (by decide)) F.nx
theorem turned_w {c:Nat} {h0 h h1:H} {v b:V} {ls:List (List JF)} {x:List api_Json} {S Q:List Str} {p i kk:Nat} {x4 x6:V} {n:Nat} {K:KX} (a:VA c h0 h v ls) (hk:kk<5) (hl:ls.length≤3900) (sx:Sl (α:=JF) [] h x4 x) (hx0:x≠[]) (hx:∀ y∈x,P.OKM y) (hxl:x.length≤1000000) {q q0:V} (B:Bk h p 0 0 Ty_amanuensislaw1_Ask true true [q0,b,q]) (hp:p<h.next) (C:Sl [] h q Q) (hQ:Q.length≤3000)
  (Kf:∀ h' v' x6' l,VA c h0 h' v' (ls++[l])→Sl (α:=JF) [] h' x4 x→K X.n (f8 slnil (wz i) (.p p 0 3 0) v' x4 (wz kk) x6' V.u) h'=true):l1_values_9 (run tbl (n+3)) big (f8 slnil (wz i) (.p p 0 3 0) v x4 (wz kk) x6 V.u) h K=true:=by
 have hlen:0<x.length:=by cases x with | nil=>exact absurd rfl hx0 | cons a b=>simp
 unfold l1_values_9
 simp -implicitDefEqProofs (disch:=omega)
 refine CopyJsonsD_w (n:=n) sx hxl (fun y hy=>by obtain ⟨m1,m2,_⟩:=hx y hy;omega) ((kk*x.length / 5+Q.length) % x.length) fun h2 w cp E=>?_
 have lw:∀ k,Go.Bvm.lenL w k=k (wz (x.length:Int)):=by
  obtain ⟨cs,D,w1,w2,R,hcl,_⟩:=cp
  intro k
  rw [R.row.lenL,hcl]
 obtain ⟨_,_,l2',_⟩:=Ask_ld (B.fz E hp (by decide))
 have C2:=C.fz E (Nat.le_refl _) (by simp)
 have hb:(kk:Int)*(x.length:Int)≤5*1000000:=by
  have:kk*x.length≤5*1000000:=Nat.mul_le_mul (by omega) hxl
  have e:(kk:Int)*(x.length:Int)=((kk*x.length:Nat):Int):=by simp
  omega
 have hb0:0≤(kk:Int)*(x.length:Int):=Int.mul_nonneg (by omega) (by omega)
 have hd:(kk:Int)*(x.length:Int) / 5+(Q.length:Int)=((kk*x.length / 5+Q.length:Nat):Int):=by simp
 have hmod:((kk*x.length / 5+Q.length:Nat):Int) % (x.length:Int)=(((kk*x.length / 5+Q.length) % x.length:Nat):Int):=by simp
 have hlt:(kk*x.length / 5+Q.length) % x.length<x.length:=Nat.mod_lt _ hlen
 simp -implicitDefEqProofs (disch:=omega) [lw,l2',C2.lenL]
 rw [Within_eq ⟨by omega,by omega⟩ ⟨by omega,by omega⟩,hd,hmod]
 generalize hat:(kk*x.length / 5+Q.length) % x.length=at_ at *
 refine mut_w (n:=n+3) cp hlt (hx _ (List.getElem_mem hlt)) E.nx rfl hk fun h3 x' S3 b3 n3 lo3=>?_
 show l1_values_8 _ _ _ _ _=true
 unfold l1_values_8
 have E3:Ex h h3:=⟨Nat.le_trans E.nx n3,fun i hi=>(lo3 i hi).trans (E.lo i hi),fun i hi _=>(lo3 i hi).trans (E.lo i hi)⟩
 have sx3:=sx.fz E3 (Nat.le_refl _) (by simp)
 have hl3:((x.set at_ x':List api_Json)).length≤1000000:=by rw [List.length_set];exact hxl
 have ok3:NdOk (x.set at_ x':List api_Json):=fun y hy=>by
  rcases List.mem_or_eq_of_mem_set hy with z | rfl
  ·obtain ⟨m1,m2,_⟩:=hx y z
   exact ⟨by omega,by omega⟩
  ·exact ⟨by omega,by omega⟩
 refine app_one (v:=v) (w:=w) (a.ex E3) S3 hl3 ok3 (by omega) fun h4 v4 a4 keep n4=>?_
 simp -implicitDefEqProofs (disch:=omega)
 exact Kf h4 v4 w _ a4 (keep sx3)
end Go.Bvm.JN
set_option linter.unusedVariables false
set_option linter.unusedSimpArgs false
set_option maxRecDepth 20000
namespace Go.Bvm.JN
open Go.Bvm
theorem VA.E {h0 h:H} {v:V} {ls:List (List JF)} (a:VA h0.next h0 h v ls):Ex h0 h:=⟨a.nx,a.lo,fun i hi _=>a.lo i hi⟩
theorem inner_w {h0 h:H} {v b:V} {ls:List (List JF)} {x:List api_Json} {Q:List Str} {p i:Nat} {x4 x5 x6:V} {n:Nat} {K:KX} (a:VA h0.next h0 h v ls) (hl:ls.length≤3800) (sx:Sl (α:=JF) [] h x4 x) (hx0:x≠[]) (hx:∀ y∈x,P.OKM y) (hxl:x.length≤1000000) {q q0:V} (B:Bk h0 p 0 0 Ty_amanuensislaw1_Ask true true [q0,b,q]) (hp:p<h0.next) (C:Sl [] h0 q Q) (hQ:Q.length≤3000)
  (Kf:∀ h' v' x5' x6' ls',VA h0.next h0 h' v' ls'→ls'.length≤ls.length+6→K X.n (f8 slnil (wz i) (.p p 0 3 0) v' x4 x5' x6' V.u) h'=true):l1_values_11 (run tbl (n+3)) big (f8 slnil (wz i) (.p p 0 3 0) v x4 x5 x6 V.u) h K=true:=by
 unfold l1_values_11
 refine app_one (v:=v) (w:=x4) a sx hxl (fun y hy=>by obtain ⟨m1,m2,_⟩:=hx y hy;omega) (by omega) fun h1 v1 a1 keep n1=>?_
 have sx1:=keep sx
 simp -implicitDefEqProofs (disch:=omega)
 refine loop_w (fun m e h'=>∃ (kk:Nat) (v' y6:V) (ls':List (List JF)),m=5-kk∧kk≤5∧e=f8 slnil (wz i) (.p p 0 3 0) v' x4 (wz kk) y6 V.u∧VA h0.next h0 h' v' ls'∧ls'.length=ls.length+1+kk∧Sl (α:=JF) [] h' x4 x) ?_ big 5 _ _ ⟨0,v1,x6,_,rfl,by decide,rfl,a1,by rw [List.length_append];rfl,sx1⟩ (by unfold big;omega)
 rintro m e h2 ⟨kk,v',y6,ls',rfl,hk5,rfl,a2,hls,sx2⟩ K' Kn Kx Kr
 unfold l1_values_3
 by_cases hk:kk<5
 ·have hk3:(kk:Int)<5:=by omega
  have E2:=a2.E
  simp -implicitDefEqProofs (disch:=omega) [hk3]
  refine turned_w (h1:=h2) (S:=[]) (n:=n) a2 hk (by omega) sx2 hx0 hx hxl (B.fz E2 hp (by decide)) (Nat.lt_of_lt_of_le hp a2.nx) (C.fz E2 (Nat.le_refl _) (by simp)) hQ fun h3 v3 y3 l a3 sx3=>?_
  simp -implicitDefEqProofs (disch:=omega)
  unfold l1_values_10
  simp -implicitDefEqProofs (disch:=omega)
  exact Kn _ _ _ (by omega) ⟨kk+1,v3,y3,_,rfl,by omega,by simp,a3,by rw [List.length_append];show ls'.length+1=_;omega,sx3⟩
 ·have hk3:¬ (kk:Int)<5:=by omega
  simp -implicitDefEqProofs (disch:=omega) [hk3]
  refine Kx _ _ _ ?_
  simp -implicitDefEqProofs (disch:=omega)
  exact Kf _ _ _ _ _ a2 (by omega)
theorem outer_w {h0 h:H} {v b a q:V} {ls:List (List JF)} {S Q:List Str} {p:Nat} {n:Nat} {K:KX} (a0:VA h0.next h0 h v ls) (hl:ls.length≤3001) (B:Bk h0 p 0 0 Ty_amanuensislaw1_Ask true true [a,b,q]) (hp:p<h0.next) (A:Sl [] h0 a S) (C:Sl [] h0 q Q) (hS:∀ s∈S,s.length≤20000) (hQ:Q.length≤3000)
  (Kf:∀ e h' v' ls',e.c0.c3=v'→VA h0.next h0 h' v' ls'→ls'.length≤3900→K X.n e h'=true):l1_values_14 (run tbl (n+25)) big (f8 slnil V.u (.p p 0 3 0) v V.u V.u V.u V.u) h K=true:=by
 have hm:maxB=140737488355328:=rfl
 unfold l1_values_14
 simp -implicitDefEqProofs (disch:=omega)
 refine loop_w (fun m e h'=>∃ (i:Nat) (v' y4 y5 y6:V) (ls':List (List JF)),m=6-i∧i≤6∧e=f8 slnil (wz i) (.p p 0 3 0) v' y4 y5 y6 V.u∧VA h0.next h0 h' v' ls'∧ls'.length≤3001+6*i) ?_ big 6 _ _ ⟨0,v,V.u,V.u,V.u,ls,rfl,by decide,rfl,a0,by omega⟩ (by unfold big;omega)
 rintro m e h1 ⟨i,v',y4,y5,y6,ls',rfl,hi6,rfl,a1,hls⟩ K' Kn Kx Kr
 have E1:=a1.E
 have A1:=A.fz E1 (Nat.le_refl _) (by simp)
 obtain ⟨L0,L1,L2,LA⟩:=Ask_ld (B.fz E1 hp (by decide))
 have lA:∀ k,Go.Bvm.lenL a k=k (wz (S.length:Int)):=A1.lenL
 have stop:K' (X.x 0) (f8 slnil (wz i) (.p p 0 3 0) v' y4 y5 y6 V.u) h1=true:=by
  refine Kx _ _ _ ?_
  simp -implicitDefEqProofs (disch:=omega)
  exact Kf _ _ _ _ rfl a1 (by omega)
 unfold l1_values_1
 by_cases hi:i<S.length
 ·have hi3:(i:Int)<S.length:=by omega
  by_cases h6:i<6
  ·have h63:(i:Int)<6:=by omega
   have next:∀ e h' v' y4 y5 y6 ls',e=f8 slnil (wz i) (.p p 0 3 0) v' y4 y5 y6 V.u→VA h0.next h0 h' v' ls'→ls'.length≤3001+6*(i+1)→l1_values_13 (run tbl (n+25)) big e h' K'=true:=by
    intro e h' v' y4 y5 y6 ls' he a h
    subst he
    unfold l1_values_13
    simp -implicitDefEqProofs (disch:=omega)
    exact Kn _ _ _ (by omega) ⟨i+1,v',y4,y5,y6,ls',rfl,by omega,by simp,a,h⟩
   obtain ⟨f0,a1',a2'⟩:=at_Str A1 hi
   unfold l1_values_12
   simp -implicitDefEqProofs (disch:=omega) [L0,lA,hi3,h63,a1',a2']
   have hsz:=hS _ (List.getElem_mem hi)
   refine rRead_w (n:=n) f0 fun h2 x4 sx b1 b2 E2=>?_
   obtain ⟨ok,ne⟩:=P.Read_okm S[i]
   have okl:=(P.Read_ok S[i]).2
   unfold l1_values_2
   by_cases he:(P.Read S[i]).2.2=0
   ·simp -implicitDefEqProofs (disch:=omega) [he]
    refine inner_w (n:=n+22) (a1.ex E2) (by omega) (Sl_j1 sx.sl) (ne he) ok okl B hp C hQ fun h3 v3 x5 x6 ls3 a3 hl3=>?_
    simp -implicitDefEqProofs (disch:=omega)
    exact next _ _ _ _ _ _ _ rfl a3 (by omega)
   ·simp -implicitDefEqProofs (disch:=omega) [he]
    exact next _ _ _ _ _ _ _ rfl (a1.ex E2) (by omega)
  ·have h63:¬ (i:Int)<6:=by omega
   simp -implicitDefEqProofs (disch:=omega) [L0,lA,hi3,h63]
   exact stop
 ·have hi3:¬ (i:Int)<S.length:=by omega
  simp -implicitDefEqProofs (disch:=omega) [L0,lA,hi3]
  exact stop
theorem values_w {h:H} {a b c:V} {S Q:List Str} {L:List (List JF)} (A:Sl [] h a S) (B:Sl [] h b L) (C:Sl [] h c Q) (hS:∀ s∈S,s.length≤20000) (hL:L.length≤3000) (hLL:LsOk L) (hQ:Q.length≤3000) {n:Nat} {k:KV}
  (K:∀ h' v ls,RW h.next h' v ls→LsOk ls→ls.length≤4000→Ex h h'→k v h'=true):run tbl (n+26) Nf_l1_values (vl [.x .agg (vl [a,b,c]) V.nil]) h k=true:=by
 rw [run_succ,tbl_l1_values]
 unfold T_l1_values l1_values_16
 simp -implicitDefEqProofs (disch:=omega)
 refine newA_w rfl (by decide) (by decide) fun h1 n1 B1 x1=>?_
 have hn1:h1.next=h.next+1:=n1
 have E1:Ex h h1:=x1.ex (Nat.le_refl _)
 obtain ⟨L0,L1,L2,LA⟩:=Ask_ld B1
 have A1:=A.fz E1 (Nat.le_refl _) (by decide)
 have C1:=C.fz E1 (Nat.le_refl _) (by decide)
 have D1:=B.fz E1 (Nat.le_refl _) (by decide)
 simp -implicitDefEqProofs (disch:=omega)
 rw [part_one 0 slnil [slnil] rfl (show 0<1 by decide)]
 refine bslA_w rfl (show 1≤4096 by decide) fun h2 n2 B2 x2=>?_
 have n2':h2.next=h1.next+1:=n2
 have B1':=B1.only (h':=h2) (id:=h1.next) ⟨by omega,x2.2⟩ (by omega)
 obtain ⟨_,L1',_,_⟩:=Ask_ld B1'
 simp -implicitDefEqProofs (disch:=omega) [L1']
 refine RW.start D1 (by omega) n2' B2 ⟨by omega,x2.2⟩ fun h3 v R lo3 n3=>?_
 have okl:LsOk ([]::L):=fun l hl=>by
  rcases List.mem_cons.1 hl with rfl | q
  ·exact ⟨Nat.zero_le _,fun y hy=>absurd hy List.not_mem_nil⟩
  ·exact hLL l q
 have a3:VA h1.next h1 h3 v ([]::L):=⟨R,okl,lo3,n3⟩
 have hlen:(([]:List JF)::L).length=L.length+1:=rfl
 unfold l1_values_0
 have lv:∀ k,Go.Bvm.lenL v k=k (wz ((L.length+1:Nat):Int)):=fun k=>R.len k
 by_cases h7:7<L.length+1
 ·have h7':(7:Int)<(L.length:Int)+1:=by omega
  simp -implicitDefEqProofs (disch:=omega) [lv,h7']
  refine R.cut (i:=7) (by rw [List.length_cons];omega) fun v4 R4=>?_
  have hln:(List.take 7 ([]::L)).length≤3001:=by rw [List.length_take];exact Nat.le_trans (Nat.min_le_left _ _) (by decide)
  refine outer_w (n:=n) ⟨R4,fun l hl=>okl l (List.mem_of_mem_take hl),lo3,n3⟩ hln B1 (by omega) A1 C1 hS hQ fun e h5 v5 ls5 he a5 hl5=>?_
  show l1_values_15 _ _ _ _ _=true
  unfold l1_values_15
  simp -implicitDefEqProofs (disch:=omega) [he]
  have E5:=a5.E
  obtain ⟨r1,r2,r3,r4,r5,r6⟩:=a5.row
  exact K h5 v5 ls5 ⟨r1,r2,r3,r4,r5,by have:=r6.1;omega,r6.2⟩ a5.ok (by omega) (E1.loc E5 (by omega) (by omega))
 ·have h7':¬ (7:Int)<(L.length:Int)+1:=by omega
  simp -implicitDefEqProofs (disch:=omega) [lv,h7']
  refine outer_w (n:=n) a3 (by omega) B1 (by omega) A1 C1 hS hQ fun e h5 v5 ls5 he a5 hl5=>?_
  show l1_values_15 _ _ _ _ _=true
  unfold l1_values_15
  simp -implicitDefEqProofs (disch:=omega) [he]
  have E5:=a5.E
  obtain ⟨r1,r2,r3,r4,r5,r6⟩:=a5.row
  exact K h5 v5 ls5 ⟨r1,r2,r3,r4,r5,by have:=r6.1;omega,r6.2⟩ a5.ok (by omega) (E1.loc E5 (by omega) (by omega))
end Go.Bvm.JN
set_option linter.unusedVariables false
set_option linter.unusedSimpArgs false
set_option maxRecDepth 20000
namespace Go.Bvm.JN
open Go.Bvm
namespace P
structure At (x:St) (t:Str):Prop where
 e:x.e=0
 i:0≤x.i
 d:x.s.drop x.i.toNat=t
theorem At.see {x:St} {c:UInt8} {t:Str} (a:At x (c::t)):see x=c:=by
 unfold P.see
 rw [if_neg (by rw [a.e];simp),(drop_getD a.d).1]
theorem At.nil {x:St} (a:At x []):P.see x=0:=by
 have h:x.s.length≤x.i.toNat:=List.drop_eq_nil_iff.1 a.d
 unfold P.see
 rw [if_neg (by rw [a.e];simp),List.getD_eq_getElem?_getD,List.getElem?_eq_none h];rfl
theorem At.adv {x x':St} {a t:Str} (h:At x (a++t)) (n:Nat) (hn:n=a.length) (e:x'.e=0) (s:x'.s=x.s) (i:x'.i=x.i+n):At x' t:=by
 subst hn
 refine ⟨e,by rw [i];have:=h.i;omega,?_⟩
 have h0:=h.i
 rw [s,i,show (x.i+(a.length:Nat)).toNat=x.i.toNat+a.length by omega,← List.drop_drop,h.d,List.drop_left]
theorem skip_tw:∀ {b t:Str},b.all blankB=true→(∀ c r,t=c::r→blankB c=false)→((b++t).takeWhile blankB)=b
 | [],[],_,_=>rfl
 | [],c::r,_,h=>by rw [List.nil_append,List.takeWhile_cons,h c r rfl];rfl
 | c::b,t,hb,h=>by
  simp only [List.all_cons,Bool.and_eq_true] at hb
  rw [List.cons_append,List.takeWhile_cons,hb.1,if_pos rfl,skip_tw hb.2 h]
theorem At.blanks {x:St} {b t:Str} (a:At x (b++t)) (hb:b.all blankB=true) (h:∀ c r,t=c::r→blankB c=false):P.blanks x={ x with i:=x.i+b.length }:=by
 unfold P.blanks skip
 rw [if_neg (by rw [a.e];simp),a.d,skip_tw hb h]
theorem At.take {x:St} {c:UInt8} {t:Str} (a:At x (c::t)):P.take x c={ x with i:=x.i+1 }:=by
 unfold P.take
 rw [a.see,if_neg (by simp)]
def NoDig (t:Str):Prop:=∀ c r,t=c::r→isDig c=false
theorem tw_dig:∀ {d t:Str},d.all isDig=true→NoDig t→(d++t).takeWhile isDig=d
 | [],[],_,_=>rfl
 | [],c::r,_,h=>by rw [List.nil_append,List.takeWhile_cons,h c r rfl];rfl
 | c::b,t,hb,h=>by
  simp only [List.all_cons,Bool.and_eq_true] at hb
  rw [List.cons_append,List.takeWhile_cons,hb.1,if_pos rfl,tw_dig hb.2 h]
theorem satF_snoc:∀ (u:Str) (n:Int) (c:UInt8),satF n (u++[c])=if satF n u≤1073741824 then satF n u*10+(c-48).toNat else satF n u
 | [],n,c=>rfl
 | a::u,n,c=>by rw [List.cons_append,satF,satF,satF_snoc u]
theorem dig_of {d:Nat} (h:d≤9):isDig (UInt8.ofNat (48+d))=true∧(UInt8.ofNat (48+d)-48).toNat=d∧(0<d→UInt8.ofNat (48+d)≠48):=by
 have:d=0∨d=1∨d=2∨d=3∨d=4∨d=5∨d=6∨d=7∨d=8∨d=9:=by omega
 rcases this with rfl | rfl | rfl | rfl | rfl | rfl | rfl | rfl | rfl | rfl <;> decide
theorem dec_ok:∀ (f m:Nat),m<10 ^ (f+1)→m≤1073741824→(Lib.decDigits m).all isDig=true∧satF 0 (Lib.decDigits m)=(m:Int)∧∃ c r,Lib.decDigits m=c::r∧(0<m→c≠48)∧(m=0→r=[])
 | 0,m,h,h2=>by
  have h:m<10:=by simpa using h
  obtain ⟨a,b,c⟩:=dig_of (d:=m) (by omega)
  rw [Lib.decDigits,dif_pos h]
  refine ⟨by rw [List.all_cons,a];rfl,?_,_,_,rfl,c,fun _=>rfl⟩
  show (0:Int)*10+(_:Nat)=_
  rw [b];omega
 | f+1,m,h,h2=>by
  rw [Lib.decDigits]
  split
  ·rename_i q
   obtain ⟨a,b,c⟩:=dig_of (d:=m) (by omega)
   refine ⟨by rw [List.all_cons,a];rfl,?_,_,_,rfl,c,fun _=>rfl⟩
   show (0:Int)*10+(_:Nat)=_
   rw [b];omega
  ·rename_i q
   obtain ⟨h1,h3,c,r,e,hc,_⟩:=dec_ok f (m / 10) (by rw [Nat.pow_succ] at h;omega) (by omega)
   obtain ⟨a,b,_⟩:=dig_of (d:=m % 10) (by omega)
   refine ⟨by rw [List.all_append,h1,List.all_cons,a];rfl,?_,c,r++[UInt8.ofNat (48+m % 10)],by rw [e];rfl,fun _=>hc (by omega),fun k=>by omega⟩
   rw [satF_snoc,h3,if_pos (by omega),b]
   omega
theorem dec_ok' {m:Nat} (h:m≤1073741824):(Lib.decDigits m).all isDig=true∧satF 0 (Lib.decDigits m)=(m:Int)∧∃ c r,Lib.decDigits m=c::r∧(0<m→c≠48)∧(m=0→r=[]):=dec_ok 10 m (by omega) h
theorem num_back {z:Int} (hz:isNum z=true) {t:Str} (ht:NoDig t):numOk (Lib.itoa z++t)=true∧numV (Lib.itoa z++t)=z∧numSz (Lib.itoa z++t)=(Lib.itoa z).length∧∃ c r,Lib.itoa z=c::r∧(c=45∨isDig c=true):=by
 unfold isNum at hz
 simp only [Bool.and_eq_true,decide_eq_true_eq] at hz
 by_cases hn:z<0
 ·have e:Lib.itoa z=45::Lib.decDigits z.natAbs:=by unfold Lib.itoa;rw [if_pos hn];try rfl
  obtain ⟨h1,h2,c,r,e2,hc,_⟩:=dec_ok' (m:=z.natAbs) (by omega)
  have ng:negB (Lib.itoa z++t)=true:=by rw [e];simp [negB]
  have nd:numDs (Lib.itoa z++t)=Lib.decDigits z.natAbs:=by
   unfold numDs
   rw [if_pos ng,e]
   show ((Lib.decDigits z.natAbs++t)).takeWhile isDig=_
   exact tw_dig h1 ht
  have hd:(Lib.itoa z++t).getD 1 0=c:=by rw [e,e2];rfl
  have hl:1≤(Lib.decDigits z.natAbs).length:=by rw [e2];simp
  have hc0:c≠48:=hc (by omega)
  have ok:numOk (Lib.itoa z++t)=true:=by
   unfold numOk
   rw [nd,h2,ng,if_pos rfl,hd,decide_eq_false (show ¬ ((Lib.decDigits z.natAbs).length:Int)=0 by omega),decide_eq_false (show ¬ 1073741824<(z.natAbs:Int) by omega),decide_eq_false hc0]
   rfl
  refine ⟨ok,?_,?_,45,_,e,.inl rfl⟩
  ·unfold numV;rw [if_pos ok,ng,if_pos rfl,nd,h2];omega
  ·unfold numSz;rw [ng,if_pos rfl,nd,e];simp;omega
 ·have e:Lib.itoa z=Lib.decDigits z.natAbs:=by unfold Lib.itoa;rw [if_neg hn];congr 1;omega
  obtain ⟨h1,h2,c,r,e2,hc,hr⟩:=dec_ok' (m:=z.natAbs) (by omega)
  have hcd:isDig c=true:=by rw [e2] at h1;simp at h1;exact h1.1
  have ng:negB (Lib.itoa z++t)=false:=by
   rw [e,e2]
   have:c≠45:=fun k=>by subst k;revert hcd;decide
   simp [negB,this]
  have nd:numDs (Lib.itoa z++t)=Lib.decDigits z.natAbs:=by
   unfold numDs
   rw [ng,if_neg (by simp),e]
   exact tw_dig h1 ht
  have hd:(Lib.itoa z++t).getD 0 0=c:=by rw [e,e2];rfl
  have hl:1≤(Lib.decDigits z.natAbs).length:=by rw [e2];simp
  have ok:numOk (Lib.itoa z++t)=true:=by
   unfold numOk
   rw [nd,h2,ng,if_neg (by simp),hd,decide_eq_false (show ¬ ((Lib.decDigits z.natAbs).length:Int)=0 by omega),decide_eq_false (show ¬ 1073741824<(z.natAbs:Int) by omega)]
   by_cases z0:z.natAbs=0
   ·have:=hr z0
    rw [e2,this];simp
   ·have:=hc (by omega)
    rw [decide_eq_false this];rfl
  refine ⟨ok,?_,?_,c,r,by rw [e,e2],.inr hcd⟩
  ·unfold numV;rw [if_pos ok,ng,if_neg (by simp),nd,h2];omega
  ·unfold numSz;rw [ng,if_neg (by simp),nd,e];simp
theorem scan_back:∀ (s acc:Str) (t:Str) (i:Int),s.all plainC=true→scanS (esc s++34::t) acc i=some (acc++s,i+(esc s).length+1)
 | [],acc,t,i,_=>by
  show scanS (34::t) acc i=_
  rw [scanS_c,if_pos rfl];simp [esc]
 | c::s,acc,t,i,h=>by
  simp only [List.all_cons,Bool.and_eq_true] at h
  obtain ⟨hc,hs⟩:=h
  unfold plainC at hc
  simp only [Bool.and_eq_true,decide_eq_true_eq] at hc
  have h2:¬ c<32:=by rw [UInt8.lt_iff_toNat_lt];have:(32:UInt8).toNat=32:=rfl;omega
  have h3:¬ 126<c:=by rw [UInt8.lt_iff_toNat_lt];have:(126:UInt8).toNat=126:=rfl;omega
  have es:esc (c::s)=escC c++esc s:=rfl
  by_cases q:c=34∨c=92
  ·have e:escC c=[92,c]:=by unfold escC;rw [if_pos q]
   rw [es,e]
   show scanS (92::c::(esc s++34::t)) acc i=_
   rw [scanS_c,if_neg (by decide),if_neg (by decide),if_neg (by decide),if_pos rfl]
   dsimp only
   rw [if_pos q,scan_back s _ t _ hs]
   simp;omega
  ·have e:escC c=[c]:=by unfold escC;rw [if_neg q]
   rw [es,e]
   show scanS (c::(esc s++34::t)) acc i=_
   rw [scanS_c,if_neg (fun k=>q (.inl k)),if_neg h2,if_neg h3,if_neg (fun k=>q (.inr k)),scan_back s _ t _ hs]
   simp;omega
theorem str_back {s:Str} (h:s.all plainC=true) (t:Str):strF (quote s++t)=some (s,((quote s).length:Int)):=by
 have e:(quote s++t).drop 1=esc s++34::t:=by simp [quote]
 unfold strF
 rw [e,scan_back s [] t 1 h]
 simp [quote];omega
theorem At.text {x:St} {s t:Str} (a:At x (quote s++t)) (h:s.all plainC=true):P.text x=(s,{ x with i:=x.i+(quote s).length }):=by
 unfold P.text
 rw [a.d,str_back h]
theorem At.number {x:St} {z:Int} {t:Str} (a:At x (Lib.itoa z++t)) (hz:isNum z=true) (ht:NoDig t):P.number x=(z,{ x with i:=x.i+(Lib.itoa z).length }):=by
 obtain ⟨h1,h2,h3,_⟩:=num_back hz ht
 unfold P.number
 rw [a.d,h1,h2,h3,if_pos rfl]
theorem At.literal:∀ {w t:Str} {x:St},At x (w++t)→P.literal x w={ x with i:=x.i+w.length }
 | [],t,x,a=>by simp [P.literal]
 | c::w,t,x,a=>by
  have h1:P.take x c={ x with i:=x.i+1 }:=At.take (t:=w++t) a
  have a2:At { x with i:=x.i+1 } (w++t):=At.adv (a:=[c]) (t:=w++t) a 1 rfl a.e rfl rfl
  show P.literal (P.take x c) w=_
  rw [h1,At.literal a2]
  simp only [List.length_cons]
  congr 1;omega
end P
end Go.Bvm.JN
set_option linter.unusedVariables false
set_option linter.unusedSimpArgs false
set_option maxRecDepth 20000
namespace Go.Bvm.JN
open Go.Bvm
namespace P
def tailW (w:Str) (l:List api_Json) (p:Nat):Str:=match l[p]? with | some x=>if x.Kind=6∨x.Kind=7 then w else [] | none=>[]
def partsW (w:Str) (l:List api_Json) (sp:Nat→Str) (m:Prop) [Decidable m]:Bool→List (Str×Int)→Str
 | _,[]=>[]
 | b,(s,p)::r=>(if b then [] else 44::w)++((if m then quote s++(58::w) else [])++(sp p.toNat++tailW w l p.toNat))++partsW w l sp m false r
def items (x:api_Json):List (Str×Int):=(List.range x.Parts.length).map fun j=>(x.Keys.getD j [],x.Parts.getD j 0)
def core (w:Str) (l:List api_Json):Nat→Nat→Str
 | 0,_=>[]
 | f+1,i=>match l[i]? with
  | none=>[]
  | some x=>if x.Kind=4 then Lib.itoa x.N else if x.Kind=5 then quote x.S else if x.Kind=6∨x.Kind=7 then (ends x.Kind).1::w++(partsW w l (core w l f) (x.Kind=7) true (items x)++[(ends x.Kind).2]) else word x.Kind
theorem partsW_snoc (w:Str) (l:List api_Json) (sp:Nat→Str) (m:Prop) [Decidable m]:∀ (r:List (Str×Int)) (b:Bool) (s:Str) (p:Int),partsW w l sp m b (r++[(s,p)])=partsW w l sp m b r++(if b && r.isEmpty then [] else 44::w)++((if m then quote s++(58::w) else [])++(sp p.toNat++tailW w l p.toNat))
 | [],b,s,p=>by simp [partsW]
 | (s',p')::r,b,s,p=>by
  rw [List.cons_append,partsW,partsW_snoc w l sp m r false s p,partsW]
  simp
theorem tailW_nil (l:List api_Json) (p:Nat):tailW [] l p=[]:=by
 unfold tailW;split
 ·split <;> rfl
 ·rfl
theorem spellP_eq {l:List api_Json} {sp:Nat→Str} (x:api_Json):∀ k,spellP sp x k=partsW [] l sp (x.Kind=7) true ((List.range k).map fun j=>(x.Keys.getD j [],x.Parts.getD j 0))
 | 0=>rfl
 | k+1=>by
  rw [List.range_succ,List.map_append,List.map_cons,List.map_nil,partsW_snoc,← spellP_eq x k,spellP,tailW_nil]
  cases k with
  | zero=>simp
  | succ k=>simp [List.range_succ]
theorem spell_core (l:List api_Json):∀ f i,spell l f i=core [] l f i
 | 0,_=>rfl
 | f+1,i=>by
  have ih:spell l f=core [] l f:=funext (spell_core l f)
  cases hx:l[i]? with
  | none=>rw [spell,core,hx]
  | some x=>
   rw [spell,core,hx]
   dsimp only
   rw [ih,spellP_eq (l:=l),List.append_assoc]
   rfl
def Ch (all:List Shp):Int→List Int→Int→Prop
 | a,[],b=>a=b
 | a,p::r,b=>0≤p∧(∃ y:Shp,all[p.toNat]?=some y∧p+1-y.size=a)∧Ch all (p+1) r b
theorem Ch.snoc {all:List Shp} {p:Int} {y:Shp} (h0:0≤p) (hy:all[p.toNat]?=some y):∀ {r:List Int} {a b:Int},Ch all a r b→p+1-y.size=b→Ch all a (r++[p]) (p+1)
 | [],a,b,h,e=>⟨h0,⟨y,hy,by rw [e];exact h.symm⟩,rfl⟩
 | q::r,a,b,⟨h1,h2,h3⟩,e=>⟨h1,h2,Ch.snoc h0 hy h3 e⟩
theorem shGo_ch {all:List Shp} {i:Nat}:∀ (r:List Int) (sz dp s d:Nat),shGo (all.take i) i r sz dp=some (s,d)→1≤sz→Ch all ((i:Int)+1-s) r.reverse ((i:Int)+1-sz)∧dp≤d∧∀ p,p∈r→∃ y:Shp,all[p.toNat]?=some y∧y.deep≤d
 | [],sz,dp,s,d,h,h1=>by
  simp [shGo] at h
  obtain ⟨rfl,rfl⟩:=h
  exact ⟨rfl,Nat.le_refl _,by simp⟩
 | p::r,sz,dp,s,d,h,h1=>by
  unfold shGo at h
  split at h
  ·rename_i hp
   split at h
   ·rename_i y hy
    have hpi:p.toNat<i:=by omega
    rw [List.getElem?_take_of_lt hpi] at hy
    obtain ⟨c,d1,d2⟩:=shGo_ch r (sz+y.size) (max dp y.deep) s d h (by omega)
    refine ⟨?_,by omega,fun q hq=>?_⟩
    ·rw [List.reverse_cons,show (i:Int)+1-sz=p+1 by omega]
     exact Ch.snoc hp.1 hy c (by omega)
    ·rcases List.mem_cons.1 hq with rfl | hq
     ·exact ⟨y,hy,by omega⟩
     ·exact d2 q hq
   ·simp at h
  ·simp at h
theorem Ok.ch {l:List api_Json} {all:List Shp} (O:Ok l all) {k:Nat} {x:api_Json} {y:Shp} (hx:l[k]?=some x) (hy:all[k]?=some y):Ch all ((k:Int)+1-y.size) x.Parts k∧∀ p,p∈x.Parts→∃ z:Shp,all[p.toNat]?=some z∧z.deep+(if 6≤x.Kind then 1 else 0)≤y.deep:=by
 have h:=(O.at_ k x hx).2
 rw [hy] at h
 unfold shaped at h
 split at h
 ·rename_i sz dp hs
  generalize hD:(if 6≤x.Kind then dp+1 else dp)=D at h
  split at h
  ·simp only [Option.some.injEq] at h
   subst h
   obtain ⟨c,d1,d2⟩:=shGo_ch _ _ _ _ _ hs (by omega)
   rw [List.reverse_reverse] at c
   refine ⟨by simpa using c,fun p hp=>?_⟩
   obtain ⟨z,h1,h2⟩:=d2 p (by simpa using hp)
   refine ⟨z,h1,?_⟩
   show z.deep+_≤D
   rw [← hD]
   split <;> omega
  ·simp at h
 ·simp at h
def Back (w:Str) (l:List api_Json) (all:List Shp) (f:Nat) (val:VF):Prop:=∀ (k:Nat) (y:Shp),all[k]?=some y→y.deep<f→∀ (x:St) (b t:Str),At x (b++(core w l f k++t))→b.all blankB=true→NoDig t→
 x.l=l.take (k+1-y.size)→x.begun+y.size≤300→x.depth+y.deep≤8→val x=((k:Int),{ x with i:=x.i+((b.length+(core w l f k).length:Nat):Int),l:=l.take (k+1),begun:=x.begun+y.size })
def headOk (t:Str):Prop:=∃ c r,t=c::r∧blankB c=false∧c≠93∧c≠125
theorem word_head (kd:Int):headOk (word kd):=by
 unfold word
 split
 ·exact ⟨_,_,rfl,by decide,by decide,by decide⟩
 ·split
  ·exact ⟨_,_,rfl,by decide,by decide,by decide⟩
  ·exact ⟨_,_,rfl,by decide,by decide,by decide⟩
theorem dig_head {c:UInt8} (h:c=45∨isDig c=true):blankB c=false∧c≠93∧c≠125∧c≠91∧c≠123∧c≠34:=by
 have key:∀ d:UInt8,isDig d=true→d≠32∧d≠9∧d≠10∧d≠13∧d≠93∧d≠125∧d≠91∧d≠123∧d≠34:=fun d hd=>
  ⟨fun e=>by subst e;revert hd;decide,fun e=>by subst e;revert hd;decide,fun e=>by subst e;revert hd;decide,fun e=>by subst e;revert hd;decide,fun e=>by subst e;revert hd;decide,fun e=>by subst e;revert hd;decide,fun e=>by subst e;revert hd;decide,fun e=>by subst e;revert hd;decide,fun e=>by subst e;revert hd;decide⟩
 rcases h with rfl | h
 ·decide
 ·obtain ⟨a1,a2,a3,a4,a5,a6,a7,a8,a9⟩:=key c h
  exact ⟨by unfold blankB;simp [a1,a2,a3,a4],a5,a6,a7,a8,a9⟩
theorem core_head {w:Str} {l:List api_Json} {f k:Nat} {x:api_Json} (hx:l[k]?=some x) (hn:isNum x.N=true):headOk (core w l (f+1) k):=by
 rw [core,hx]
 dsimp only
 split
 ·obtain ⟨_,_,_,c,r,e,hc⟩:=num_back hn (t:=[]) (fun c r h=>by cases h)
  obtain ⟨h1,h2,h3,_⟩:=dig_head hc
  exact ⟨c,r,e,h1,h2,h3⟩
 ·split
  ·exact ⟨34,_,rfl,by decide,by decide,by decide⟩
  ·split
   ·unfold ends
    split
    ·exact ⟨_,_,rfl,by decide,by decide,by decide⟩
    ·exact ⟨_,_,rfl,by decide,by decide,by decide⟩
   ·exact word_head _
theorem headOk.app {t:Str} (h:headOk t) (u:Str):headOk (t++u):=by
 obtain ⟨c,r,e,q⟩:=h
 exact ⟨c,r++u,by rw [e];rfl,q⟩
theorem headOk.blank {t:Str} (h:headOk t):∀ c r,t=c::r→blankB c=false:=by
 obtain ⟨c,r,e,q,_⟩:=h
 intro c' r' e'
 rw [e] at e'
 injection e' with e1 e2
 rw [← e1];exact q
theorem tailW_blank {w:Str} (hw:w.all blankB=true) (l:List api_Json) (p:Nat):(tailW w l p).all blankB=true:=by
 unfold tailW;split
 ·split
  ·exact hw
  ·rfl
 ·rfl
theorem blank_nodig {b t:Str} (hb:b.all blankB=true) (ht:NoDig t):NoDig (b++t):=by
 cases b with
 | nil=>exact ht
 | cons a b=>
  simp only [List.all_cons,Bool.and_eq_true] at hb
  intro c r e
  injection e with e1 e2
  subst e1
  have:=hb.1
  unfold blankB at this
  simp only [Bool.or_eq_true,decide_eq_true_eq] at this
  rcases this with ((h | h) | h) | h <;> subst h <;> decide
theorem c_nodig {c:UInt8} (h:isDig c=false) (t:Str):NoDig (c::t):=fun d r e=>by injection e with e1 e2;rw [← e1];exact h
end P
end Go.Bvm.JN
set_option linter.unusedVariables false
set_option linter.unusedSimpArgs false
set_option maxRecDepth 20000
namespace Go.Bvm.JN
open Go.Bvm
namespace P
variable {w:Str} {l:List api_Json} {all:List Shp} {f:Nat} {val:VF}
theorem parts_head {sp:Nat→Str} (m:Prop) [Decidable m] (r:List (Str×Int)) {c:UInt8} (hb:blankB c=false) (hd:isDig c=false) (t:Str):(∀ d u,partsW w l sp m false r++c::t=d::u→blankB d=false)∧NoDig (partsW w l sp m false r++c::t):=by
 cases r with
 | nil=>exact ⟨fun d u e=>by injection e with e1 e2;rw [← e1];exact hb,c_nodig hd t⟩
 | cons a r=>
  obtain ⟨s,p⟩:=a
  exact ⟨fun d u e=>by injection e with e1 e2;rw [← e1];rfl,c_nodig (c:=44) rfl _⟩
theorem Ch.le (G:Good all):∀ {r:List Int} {a b:Int},Ch all a r b→a+r.length≤b
 | [],a,b,h=>by have:a=b:=h;simp;omega
 | p::r,a,b,⟨h1,⟨y,hy,e⟩,h3⟩=>by
  have:=Ch.le G h3
  have:=(G _ _ hy).1
  simp only [List.length_cons];omega
theorem listL_back (hB:Back w l all f val) (hw:w.all blankB=true) (hh:∀ k y,all[k]?=some y→y.deep<f→headOk (core w l f k)) (G:Good all) (hl:all.length=l.length):∀ (R:List (Str×Int)) (a e:Int) (F:Nat) (x:St) (ps:List Int) (bl t:Str),R≠[]→Ch all a (R.map (·.2)) e→
  (∀ p,p∈R.map (·.2)→∃ z:Shp,all[p.toNat]?=some z∧z.deep<f∧x.depth+z.deep≤8)→R.length≤F→(ps≠[]∨bl=[])→bl.all blankB=true→At x (bl++(partsW w l (core w l f) False true R++93::t))→0≤a→x.l=l.take a.toNat→x.begun+(e-a)≤300→
  listL val F x ps=({ x with i:=x.i+((bl.length+(partsW w l (core w l f) False true R).length:Nat):Int),l:=l.take e.toNat,begun:=x.begun+(e-a) },ps++R.map (·.2))
 | [],a,e,F,x,ps,bl,t,h0,_,_,_,_,_,_,_,_,_=>absurd rfl h0
 | (s,p)::r,a,e,F,x,ps,bl,t,h0,hc,hd,hF,hp,hb,hx,ha,hL,hbg=>by
  obtain ⟨F,rfl⟩ : ∃ m,F=m+1:=⟨F-1,by simp at hF;omega⟩
  change Ch all a (p::r.map (·.2)) e at hc
  obtain ⟨p0,⟨y,hy,ye⟩,hc2⟩:=hc
  obtain ⟨z,hz,zd,zx⟩:=hd p (by simp)
  obtain rfl:z=y:=by rw [hz] at hy;exact Option.some.inj hy
  have gy:=G _ _ hz
  have hle:=hc2.le G
  have hle':p+1+r.length≤e:=by simpa using hle
  have hpl:p.toNat<all.length:=(List.getElem?_eq_some_iff.1 hz).1
  have tx:partsW w l (core w l f) False true ((s,p)::r)=core w l f p.toNat++(tailW w l p.toNat++partsW w l (core w l f) False false r):=by
   rw [partsW,if_neg (fun h=>h)];simp
  rw [tx] at hx ⊢
  have hx1:At x (bl++(core w l f p.toNat++(tailW w l p.toNat++(partsW w l (core w l f) False false r++93::t)))):=by simpa [List.append_assoc] using hx
  obtain ⟨ph1,ph2⟩:=parts_head (w:=w) (l:=l) (sp:=core w l f) False r (c:=93) rfl rfl t
  have hv:=hB p.toNat z hz zd x bl _ hx1 hb (blank_nodig (tailW_blank hw l _) ph2) (by rw [hL];congr 1;omega) (by omega) zx
  have hcond:x.e=0∧(0<ps.length∨see x≠93):=by
   refine ⟨hx.e,?_⟩
   rcases hp with hp | hp
   ·left;cases ps with
    | nil=>exact absurd rfl hp
    | cons a b=>simp
   ·right
    subst hp
    obtain ⟨c,u,e1,_,e2,_⟩:=(hh _ _ hz zd).app (tailW w l p.toNat++(partsW w l (core w l f) False false r++93::t))
    rw [List.nil_append,e1] at hx1
    rw [hx1.see];exact e2
  rw [listL,if_pos hcond]
  dsimp only
  rw [hv]
  dsimp only
  have a1:At { x with i:=x.i+((bl.length+(core w l f p.toNat).length:Nat):Int),l:=l.take (p.toNat+1),begun:=x.begun+z.size } (tailW w l p.toNat++(partsW w l (core w l f) False false r++93::t)):=by
   rw [← List.append_assoc] at hx1
   exact hx1.adv _ (by simp) hx.e rfl rfl
  rw [a1.blanks (tailW_blank hw l _) ph1]
  dsimp only
  have a2:At { x with i:=x.i+((bl.length+(core w l f p.toNat).length:Nat):Int)+(tailW w l p.toNat).length,l:=l.take (p.toNat+1),begun:=x.begun+z.size } (partsW w l (core w l f) False false r++93::t):=a1.adv _ rfl hx.e rfl rfl
  cases r with
  | nil=>
   have he:p+1=e:=hc2
   have a3:At { x with i:=x.i+((bl.length+(core w l f p.toNat).length:Nat):Int)+(tailW w l p.toNat).length,l:=l.take (p.toNat+1),begun:=x.begun+z.size } (93::t):=a2
   rw [a3.see,if_neg (by decide)]
   have e1:(p.toNat:Int)=p:=by omega
   rw [e1]
   simp only [List.map_cons,List.map_nil,Prod.mk.injEq,and_true]
   rw [show e.toNat=p.toNat+1 by omega]
   congr 1
   ·simp [partsW];omega
   ·omega
  | cons q r=>
   obtain ⟨s2,p2⟩:=q
   have a3:At { x with i:=x.i+((bl.length+(core w l f p.toNat).length:Nat):Int)+(tailW w l p.toNat).length,l:=l.take (p.toNat+1),begun:=x.begun+z.size } (44::(w++(partsW w l (core w l f) False true ((s2,p2)::r)++93::t))):=by
    have:partsW w l (core w l f) False false ((s2,p2)::r)=44::(w++partsW w l (core w l f) False true ((s2,p2)::r)):=by simp [partsW]
    rw [this] at a2
    simpa using a2
   rw [a3.see,if_pos rfl]
   have a4:=At.adv (a:=[44]) (t:=w++(partsW w l (core w l f) False true ((s2,p2)::r)++93::t)) (x':={ x with i:=x.i+((bl.length+(core w l f p.toNat).length:Nat):Int)+(tailW w l p.toNat).length+1,l:=l.take (p.toNat+1),begun:=x.begun+z.size }) a3 1 rfl hx.e rfl rfl
   have ih:=listL_back hB hw hh G hl ((s2,p2)::r) (p+1) e F { x with i:=x.i+((bl.length+(core w l f p.toNat).length:Nat):Int)+(tailW w l p.toNat).length+1,l:=l.take (p.toNat+1),begun:=x.begun+z.size } (ps++[(p.toNat:Int)]) w t (by simp) hc2 (fun q hq=>hd q (by simp at hq ⊢;exact .inr hq)) (by simp at hF ⊢;omega) (.inl (by simp)) hw a4 (by omega) (by show l.take (p.toNat+1)=_;congr 1;omega) (by show x.begun+z.size+_≤_;omega)
   rw [ih]
   have e1:(p.toNat:Int)=p:=by omega
   rw [e1]
   simp only [List.map_cons,List.append_assoc,List.cons_append,List.nil_append,Prod.mk.injEq,and_true]
   congr 1
   ·have:partsW w l (core w l f) False false ((s2,p2)::r)=44::(w++partsW w l (core w l f) False true ((s2,p2)::r)):=by simp [partsW]
    rw [this]
    simp only [List.length_append,List.length_cons];omega
   ·omega
theorem At.name {x:St} {bl s u:Str} {ks:List Str} (a:At x (bl++(quote s++58::u))) (hb:bl.all blankB=true) (hs:s.all plainC=true) (hk:s∉ks):P.name x ks=(s,{ x with i:=x.i+((bl.length+(quote s).length+1:Nat):Int) }):=by
 have a0:=a
 have qe:quote s++58::u=34::(esc s++[34]++58::u):=by simp [quote]
 have h1:=a.blanks hb (by rw [qe];intro c r e;injection e with e1 e2;rw [← e1];rfl)
 have a1:At { x with i:=x.i+bl.length } (quote s++58::u):=a.adv _ rfl a.e rfl rfl
 have sx:P.see { x with i:=x.i+(bl.length:Int) }=34:=by rw [qe] at a1;exact a1.see
 have h2:=a1.text hs
 have a2:At { x with i:=x.i+bl.length+(quote s).length } (58::u):=a1.adv _ rfl a.e rfl rfl
 have h3:=At.blanks (b:=[]) (t:=58::u) a2 rfl (fun c r e=>by injection e with e1 e2;rw [← e1];rfl)
 have h4:=a2.take
 unfold P.name
 rw [h1]
 dsimp only
 rw [if_pos sx,h2]
 dsimp only
 rw [if_neg hk,h3]
 simp only [List.length_nil,Int.natCast_zero,Int.add_zero]
 rw [h4]
 simp only [Prod.mk.injEq,true_and]
 congr 1;omega
theorem pairsL_back (hB:Back w l all f val) (hw:w.all blankB=true) (G:Good all) (hl:all.length=l.length):∀ (R:List (Str×Int)) (a e:Int) (F:Nat) (x:St) (ks:List Str) (ps:List Int) (bl t:Str),R≠[]→Ch all a (R.map (·.2)) e→
  (∀ p,p∈R.map (·.2)→∃ z:Shp,all[p.toNat]?=some z∧z.deep<f∧x.depth+z.deep≤8)→(∀ s,s∈R.map (·.1)→s.all plainC=true)→(ks++R.map (·.1)).Nodup→R.length≤F→(ps≠[]∨bl=[])→bl.all blankB=true→At x (bl++(partsW w l (core w l f) True true R++125::t))→0≤a→x.l=l.take a.toNat→x.begun+(e-a)≤300→
  pairsL val F x ks ps=({ x with i:=x.i+((bl.length+(partsW w l (core w l f) True true R).length:Nat):Int),l:=l.take e.toNat,begun:=x.begun+(e-a) },ks++R.map (·.1),ps++R.map (·.2))
 | [],a,e,F,x,ks,ps,bl,t,h0,_,_,_,_,_,_,_,_,_,_,_=>absurd rfl h0
 | (s,p)::r,a,e,F,x,ks,ps,bl,t,h0,hc,hd,hs,hn,hF,hp,hb,hx,ha,hL,hbg=>by
  obtain ⟨F,rfl⟩ : ∃ m,F=m+1:=⟨F-1,by simp at hF;omega⟩
  change Ch all a (p::r.map (·.2)) e at hc
  obtain ⟨p0,⟨y,hy,ye⟩,hc2⟩:=hc
  obtain ⟨z,hz,zd,zx⟩:=hd p (by simp)
  obtain rfl:z=y:=by rw [hz] at hy;exact Option.some.inj hy
  have gy:=G _ _ hz
  have hle:=hc2.le G
  have hle':p+1+r.length≤e:=by simpa using hle
  have hpl:p.toNat<all.length:=(List.getElem?_eq_some_iff.1 hz).1
  have hsk:s∉ks:=fun k=>by
   rw [List.nodup_append] at hn
   exact hn.2.2 s k s (by simp) rfl
  have tx:partsW w l (core w l f) True true ((s,p)::r)=quote s++58::(w++(core w l f p.toNat++(tailW w l p.toNat++partsW w l (core w l f) True false r))):=by
   rw [partsW,if_pos trivial];simp
  rw [tx] at hx ⊢
  have hx1:At x (bl++(quote s++58::(w++(core w l f p.toNat++(tailW w l p.toNat++(partsW w l (core w l f) True false r++125::t)))))):=by simpa [List.append_assoc] using hx
  obtain ⟨ph1,ph2⟩:=parts_head (w:=w) (l:=l) (sp:=core w l f) True r (c:=125) rfl rfl t
  have hnm:=hx1.name hb (hs s (by simp)) hsk
  have a0:At { x with i:=x.i+((bl.length+(quote s).length+1:Nat):Int) } (w++(core w l f p.toNat++(tailW w l p.toNat++(partsW w l (core w l f) True false r++125::t)))):=by
   have:bl++(quote s++58::(w++(core w l f p.toNat++(tailW w l p.toNat++(partsW w l (core w l f) True false r++125::t)))))=(bl++quote s++[58])++(w++(core w l f p.toNat++(tailW w l p.toNat++(partsW w l (core w l f) True false r++125::t)))):=by simp
   rw [this] at hx1
   exact hx1.adv _ (by simp;omega) hx.e rfl rfl
  have hv:=hB p.toNat z hz zd _ w _ a0 hw (blank_nodig (tailW_blank hw l _) ph2) (by show x.l=_;rw [hL];congr 1;omega) (by show x.begun+_≤_;omega) zx
  have hcond:x.e=0∧(0<ps.length∨see x≠125):=by
   refine ⟨hx.e,?_⟩
   rcases hp with hp | hp
   ·left;cases ps with
    | nil=>exact absurd rfl hp
    | cons a b=>simp
   ·right
    subst hp
    have:At x (34::(esc s++[34]++58::(w++(core w l f p.toNat++(tailW w l p.toNat++(partsW w l (core w l f) True false r++125::t)))))):=by
     have h:=hx1
     rw [List.nil_append] at h
     simpa [quote] using h
    rw [this.see];decide
  rw [pairsL,if_pos hcond]
  dsimp only
  rw [hnm]
  dsimp only
  rw [hv]
  dsimp only
  have a1:At { x with i:=x.i+((bl.length+(quote s).length+1:Nat):Int)+((w.length+(core w l f p.toNat).length:Nat):Int),l:=l.take (p.toNat+1),begun:=x.begun+z.size } (tailW w l p.toNat++(partsW w l (core w l f) True false r++125::t)):=by
   rw [← List.append_assoc] at a0
   exact a0.adv _ (by simp) hx.e rfl rfl
  rw [a1.blanks (tailW_blank hw l _) ph1]
  dsimp only
  have a2:At { x with i:=x.i+((bl.length+(quote s).length+1:Nat):Int)+((w.length+(core w l f p.toNat).length:Nat):Int)+(tailW w l p.toNat).length,l:=l.take (p.toNat+1),begun:=x.begun+z.size } (partsW w l (core w l f) True false r++125::t):=a1.adv _ rfl hx.e rfl rfl
  have e1:(p.toNat:Int)=p:=by omega
  cases r with
  | nil=>
   have he:p+1=e:=hc2
   have a3:At { x with i:=x.i+((bl.length+(quote s).length+1:Nat):Int)+((w.length+(core w l f p.toNat).length:Nat):Int)+(tailW w l p.toNat).length,l:=l.take (p.toNat+1),begun:=x.begun+z.size } (125::t):=a2
   rw [a3.see,if_neg (by decide),e1]
   simp only [List.map_cons,List.map_nil,Prod.mk.injEq,and_true]
   rw [show e.toNat=p.toNat+1 by omega]
   congr 1
   ·simp [partsW];omega
   ·omega
  | cons q r=>
   obtain ⟨s2,p2⟩:=q
   have te:partsW w l (core w l f) True false ((s2,p2)::r)=44::(w++partsW w l (core w l f) True true ((s2,p2)::r)):=by simp [partsW]
   have a3:At { x with i:=x.i+((bl.length+(quote s).length+1:Nat):Int)+((w.length+(core w l f p.toNat).length:Nat):Int)+(tailW w l p.toNat).length,l:=l.take (p.toNat+1),begun:=x.begun+z.size } (44::(w++(partsW w l (core w l f) True true ((s2,p2)::r)++125::t))):=by
    rw [te] at a2
    simpa using a2
   rw [a3.see,if_pos rfl]
   have a4:=At.adv (a:=[44]) (t:=w++(partsW w l (core w l f) True true ((s2,p2)::r)++125::t)) (x':={ x with i:=x.i+((bl.length+(quote s).length+1:Nat):Int)+((w.length+(core w l f p.toNat).length:Nat):Int)+(tailW w l p.toNat).length+1,l:=l.take (p.toNat+1),begun:=x.begun+z.size }) a3 1 rfl hx.e rfl rfl
   have ih:=pairsL_back hB hw G hl ((s2,p2)::r) (p+1) e F { x with i:=x.i+((bl.length+(quote s).length+1:Nat):Int)+((w.length+(core w l f p.toNat).length:Nat):Int)+(tailW w l p.toNat).length+1,l:=l.take (p.toNat+1),begun:=x.begun+z.size } (ks++[s]) (ps++[(p.toNat:Int)]) w t (by simp) hc2 (fun q hq=>hd q (by simp at hq ⊢;exact .inr hq)) (fun q hq=>hs q (by simp at hq ⊢;exact .inr hq)) (by simpa using hn) (by simp at hF ⊢;omega) (.inl (by simp)) hw a4 (by omega) (by show l.take (p.toNat+1)=_;congr 1;omega) (by show x.begun+z.size+_≤_;omega)
   rw [ih,e1]
   simp only [List.map_cons,List.append_assoc,List.cons_append,List.nil_append,Prod.mk.injEq,and_true]
   congr 1
   ·rw [te]
    simp only [List.length_append,List.length_cons];omega
   ·omega
end P
end Go.Bvm.JN
set_option linter.unusedVariables false
set_option linter.unusedSimpArgs false
set_option maxRecDepth 20000
namespace Go.Bvm.JN
open Go.Bvm
namespace P
theorem nodeF {x:api_Json} (h:node x=true):(1≤x.Kind∧x.Kind≤7)∧(x.Kind≠4→x.N=0)∧(x.Kind≠5→x.S=[])∧isNum x.N=true∧x.S.all plainC=true∧(x.Kind=7→x.Keys.length=x.Parts.length∧(∀ s,s∈x.Keys→s.all plainC=true)∧x.Keys.Nodup)∧(x.Kind≠7→x.Keys=[])∧(x.Kind≠6→x.Kind≠7→x.Parts=[]):=by
 unfold node same plain at h
 simp only [Bool.and_eq_true,decide_eq_true_eq,Bool.or_eq_true] at h
 obtain ⟨⟨⟨⟨h1,h2,h3⟩,h4⟩,h5,h6⟩,h7⟩:=h
 refine ⟨h1,fun k=>h2.resolve_left k,fun k=>h3.resolve_left k,h4,h6,fun k=>?_,fun k=>?_,fun k1 k2=>?_⟩
 ·rw [if_pos k] at h7
  simp only [Bool.and_eq_true,decide_eq_true_eq] at h7
  refine ⟨h7.1.1,fun s hs=>?_,?_⟩
  ·have:=List.all_eq_true.1 h7.1.2 s hs
   simp only [Bool.and_eq_true] at this
   exact this.2
  ·have:=h7.2;unfold twice at this;simpa using this
 ·rw [if_neg k] at h7
  simp only [Bool.and_eq_true,decide_eq_true_eq] at h7
  exact h7.1
 ·rw [if_neg k2] at h7
  simp only [Bool.and_eq_true,Bool.or_eq_true,decide_eq_true_eq] at h7
  exact h7.2.resolve_left k1
theorem items_2 (x:api_Json):(items x).map (·.2)=x.Parts:=by
 apply List.ext_getElem
 ·simp [items]
 ·intro i h1 h2
  simp [items,List.getD_eq_getElem?_getD,h2]
theorem items_1 {x:api_Json} (h:x.Keys.length=x.Parts.length):(items x).map (·.1)=x.Keys:=by
 apply List.ext_getElem
 ·simp [items,h]
 ·intro i h1 h2
  simp [items,List.getD_eq_getElem?_getD,h2]
theorem begin_ok {x:St} (he:x.begun<300) (deep:Bool) (hd:deep=true→x.depth<8):begin_ x deep={ x with begun:=x.begun+1 }:=by
 unfold begin_
 rw [if_neg fun k=>by
  rcases k with k | ⟨k1,k2⟩
  ·omega
  ·have:=hd k1
   omega]
theorem partsW_congr (w:Str) (l:List api_Json) (sp:Nat→Str) {m m':Prop} [Decidable m] [Decidable m'] (h:m↔m'):∀ (r:List (Str×Int)) (b:Bool),partsW w l sp m b r=partsW w l sp m' b r
 | [],b=>rfl
 | (s,p)::r,b=>by
  rw [partsW,partsW,partsW_congr w l sp h r false]
  by_cases hm:m
  ·rw [if_pos hm,if_pos (h.1 hm)]
  ·rw [if_neg hm,if_neg fun k=>hm (h.2 k)]
variable {w:Str} {l:List api_Json} {all:List Shp}
theorem parts_start {x:api_Json} {f:Nat} (hh:∀ p,p∈x.Parts→headOk (core w l f p.toNat)) (m:Prop) [Decidable m] {c:UInt8} (hc:blankB c=false) (t:Str):∀ d u,partsW w l (core w l f) m true (items x)++c::t=d::u→blankB d=false:=by
 have h2:=items_2 x
 cases hi:items x with
 | nil=>intro d u e;injection e with e1 e2;rw [← e1];exact hc
 | cons a r=>
  obtain ⟨s,p⟩:=a
  rw [hi] at h2
  by_cases hm:m
  ·intro d u e
   rw [partsW,if_pos hm] at e
   simp only [if_true,List.nil_append,quote,List.cons_append,List.append_assoc] at e
   injection e with e1 e2
   rw [← e1];rfl
  ·have:=(hh p (by rw [← h2];simp)).app (tailW w l p.toNat++(partsW w l (core w l f) m false r++c::t))
   have:=this.blank
   intro d u e
   rw [partsW,if_neg hm] at e
   exact this d u (by simpa using e)
theorem value_back (O:Ok l all) (hw:w.all blankB=true) (h300:l.length≤300):∀ f,Back w l all f (value f)
 | 0=>fun k y _ hd=>by omega
 | f+1=>fun k y hy hd x b t hx hb ht hL hbg hdp=>by
  have ih:=value_back O hw h300 f
  have G:=O.good
  have hka:k<all.length:=(List.getElem?_eq_some_iff.1 hy).1
  have hk:k<l.length:=by rw [← O.len];exact hka
  obtain ⟨X,hX⟩ : ∃ X,l[k]?=some X:=⟨_,List.getElem?_eq_getElem hk⟩
  obtain ⟨n1,n4,n5,nn,np,n7,nk,npt⟩:=nodeF (O.at_ k X hX).1
  have gy:=G _ _ hy
  obtain ⟨ch,cd⟩:=O.ch hX hy
  have chl:=ch.le G
  have heads:∀ j z,all[j]?=some z→z.deep<f→headOk (core w l f j):=fun j z hz hzd=>by
   obtain ⟨g,rfl⟩ : ∃ g,f=g+1:=⟨f-1,by omega⟩
   have hj:j<l.length:=by rw [← O.len];exact (List.getElem?_eq_some_iff.1 hz).1
   exact core_head (List.getElem?_eq_getElem hj) (nodeF (O.at_ j _ (List.getElem?_eq_getElem hj)).1).2.2.2.1
  have hbl:=hx.blanks hb ((core_head (f:=f) (w:=w) hX nn).app t).blank
  have a1:At { x with i:=x.i+b.length } (core w l (f+1) k++t):=hx.adv _ rfl hx.e rfl rfl
  have lt1:l.take (k+1)=l.take k++[X]:=by rw [List.take_add_one,hX];rfl
  have leaf:x.l=l.take k→(l.take k).length=k:=fun _=>by rw [List.length_take];omega
  suffices H:body (value f) { x with i:=x.i+b.length }=(X,{ x with i:=x.i+((b.length+(core w l (f+1) k).length:Nat):Int),l:=l.take k,begun:=x.begun+y.size }) by
   rw [value,hbl,H]
   have:(l.take k).length=k:=by rw [List.length_take];omega
   simp only [add,this,lt1]
  by_cases c67:X.Kind=6∨X.Kind=7
  ·-- parts
   have hcore:core w l (f+1) k=(ends X.Kind).1::w++(partsW w l (core w l f) (X.Kind=7) true (items X)++[(ends X.Kind).2]):=by
    rw [core,hX];dsimp only;rw [if_neg (by omega),if_neg (by omega),if_pos c67]
   have cd':∀ p,p∈X.Parts→∃ z:Shp,all[p.toNat]?=some z∧z.deep<f∧x.depth+1+z.deep≤8:=fun p hp=>by
    obtain ⟨z,h1,h2⟩:=cd p hp
    rw [if_pos (by omega)] at h2
    exact ⟨z,h1,by omega,by omega⟩
   have d1:x.depth<8:=by
    have:1≤y.deep:=by
     have h:=(O.at_ k X hX).2
     rw [hy] at h
     unfold shaped at h
     split at h
     ·rename_i sz dp _
      generalize hD:(if 6≤X.Kind then dp+1 else dp)=D at h
      split at h
      ·simp only [Option.some.injEq] at h
       subst h
       rw [if_pos (by omega)] at hD
       show 1≤D
       omega
      ·simp at h
     ·simp at h
    omega
   have hph:∀ p,p∈X.Parts→headOk (core w l f p.toNat):=fun p hp=>by
    obtain ⟨z,h1,h2,_⟩:=cd' p hp
    exact heads _ z h1 h2
   have ln:X.Parts.length≤4000:=by omega
   have li:(items X).length=X.Parts.length:=by simp [items]
   rw [hcore] at a1 ⊢
   have hopen:∀ c:UInt8,(ends X.Kind).1=c→open_ { x with i:=x.i+b.length } c={ x with i:=x.i+b.length+1,begun:=x.begun+1,depth:=x.depth+1 }:=fun c hc=>by
    have a2:At { x with i:=x.i+b.length,begun:=x.begun+1 } (c::(w++((partsW w l (core w l f) (X.Kind=7) true (items X)++[(ends X.Kind).2])++t))):=by
     refine ⟨hx.e,a1.i,?_⟩
     have:=a1.d
     rw [hc] at this
     rw [← List.append_assoc w]
     exact this
    unfold open_
    rw [begin_ok (x:={ x with i:=x.i+b.length }) (by show x.begun<300;omega) true (fun _=>d1)]
    dsimp only
    rw [a2.take]
   have a3:At { x with i:=x.i+b.length+1,begun:=x.begun+1,depth:=x.depth+1 } (w++(partsW w l (core w l f) (X.Kind=7) true (items X)++(ends X.Kind).2::t)):=by
    have e:((ends X.Kind).1::w++(partsW w l (core w l f) (X.Kind=7) true (items X)++[(ends X.Kind).2]))++t=[(ends X.Kind).1]++(w++(partsW w l (core w l f) (X.Kind=7) true (items X)++(ends X.Kind).2::t)):=by simp
    rw [e] at a1
    exact a1.adv 1 rfl hx.e rfl (by show _=_;rfl)
   have hb3:=fun hc=>a3.blanks hw (parts_start (w:=w) (l:=l) hph (X.Kind=7) (c:=(ends X.Kind).2) hc t)
   have a4:At { x with i:=x.i+b.length+1+w.length,begun:=x.begun+1,depth:=x.depth+1 } (partsW w l (core w l f) (X.Kind=7) true (items X)++(ends X.Kind).2::t):=a3.adv _ rfl hx.e rfl rfl
   have tn:((k:Int)+1-y.size).toNat=k+1-y.size:=by omega
   have fin:∀ (P:Nat) (z:Int),z=((b.length+((ends X.Kind).1::w++(partsW w l (core w l f) (X.Kind=7) true (items X)++[(ends X.Kind).2])).length:Nat):Int)↔z=b.length+1+w.length+(partsW w l (core w l f) (X.Kind=7) true (items X)).length+1:=fun P z=>by
    simp only [List.length_append,List.length_cons,List.length_nil];omega
   rcases c67 with c6 | c7
   ·have eo:(ends X.Kind).1=91:=by rw [c6];rfl
    have ec:(ends X.Kind).2=93:=by rw [c6];rfl
    have e7:partsW w l (core w l f) (X.Kind=7) true (items X)=partsW w l (core w l f) False true (items X):=partsW_congr _ _ _ (by rw [c6];simp) _ _
    rw [e7,ec] at a4
    have sx:see { x with i:=x.i+(b.length:Int) }=91:=by rw [eo] at a1;exact a1.see
    have hb3:=hb3 (by rw [ec];rfl)
    have hr:∃ q:List Int×St,list (value f) { x with i:=x.i+b.length+1,begun:=x.begun+1,depth:=x.depth+1 }=q∧q.1=X.Parts∧q.2={ x with i:=x.i+b.length+1+w.length+(partsW w l (core w l f) False true (items X)).length+1,l:=l.take k,begun:=x.begun+y.size,depth:=x.depth+1 }:=by
     refine ⟨_,rfl,?_⟩
     unfold list
     rw [hb3]
     cases hi:items X with
     | nil=>
      have hP:X.Parts=[]:=by rw [← items_2 X,hi];rfl
      rw [hi] at a4
      have a5:At { x with i:=x.i+b.length+1+w.length,begun:=x.begun+1,depth:=x.depth+1 } (93::t):=a4
      rw [hP] at ch
      have ce:((k:Int)+1-y.size)=k:=ch
      have e0:listL (value f) 4000 { x with i:=x.i+b.length+1+w.length,begun:=x.begun+1,depth:=x.depth+1 } []=({ x with i:=x.i+b.length+1+w.length,begun:=x.begun+1,depth:=x.depth+1 },[]):=by
       rw [listL,if_neg]
       rw [a5.see];simp
      rw [e0]
      refine ⟨hP.symm,?_⟩
      dsimp only
      rw [a5.take]
      have:x.l=l.take k:=by rw [hL];congr 1;omega
      simp only [partsW,List.length_nil]
      rw [this]
      congr 1 <;> omega
     | cons q0 r0=>
      have hb5:=listL_back ih hw (fun j z hz hzd=>heads j z hz hzd) G O.len (items X) ((k:Int)+1-y.size) k 4000 { x with i:=x.i+b.length+1+w.length,begun:=x.begun+1,depth:=x.depth+1 } [] [] t (by rw [hi];simp) (by rw [items_2];exact ch) (by rw [items_2];exact cd') (by omega) (.inr rfl) rfl a4 (by omega) (by rw [tn];exact hL) (by show x.begun+1+_≤_;omega)
      rw [← hi,hb5]
      dsimp only
      have a5:At { x with i:=x.i+b.length+1+w.length+(([]:Str).length+(partsW w l (core w l f) False true (items X)).length:Nat),l:=l.take (k:Int).toNat,begun:=x.begun+1+((k:Int)-((k:Int)+1-y.size)),depth:=x.depth+1 } (93::t):=a4.adv _ (by simp) hx.e rfl rfl
      rw [a5.take]
      refine ⟨by rw [List.nil_append,items_2],?_⟩
      simp only [List.length_nil,Nat.zero_add,Int.toNat_natCast]
      congr 1;omega
    obtain ⟨q,hq,q1,q2⟩:=hr
    unfold body
    dsimp only
    rw [sx,if_pos (.inl rfl)]
    unfold nested
    rw [if_pos rfl,hopen 91 eo,hq]
    dsimp only
    rw [q1,q2]
    simp only [Prod.mk.injEq]
    refine ⟨?_,?_⟩
    ·have h1:=n4 (by omega);have h2:=n5 (by omega);have h3:=nk (by omega)
     cases X;simp only at c6 h1 h2 h3;subst c6 h1 h2 h3;rfl
    ·rw [e7]
     simp only [List.length_append,List.length_cons,List.length_nil]
     congr 1 <;> omega
   ·have eo:(ends X.Kind).1=123:=by rw [c7];rfl
    have ec:(ends X.Kind).2=125:=by rw [c7];rfl
    obtain ⟨k1,k2,k3⟩:=n7 c7
    have e7:partsW w l (core w l f) (X.Kind=7) true (items X)=partsW w l (core w l f) True true (items X):=partsW_congr _ _ _ (by rw [c7];simp) _ _
    rw [e7,ec] at a4
    have sx:see { x with i:=x.i+(b.length:Int) }=123:=by rw [eo] at a1;exact a1.see
    have hb3:=hb3 (by rw [ec];rfl)
    have hr:∃ q:(List Str×List Int)×St,pairs (value f) { x with i:=x.i+b.length+1,begun:=x.begun+1,depth:=x.depth+1 }=q∧q.1=(X.Keys,X.Parts)∧q.2={ x with i:=x.i+b.length+1+w.length+(partsW w l (core w l f) True true (items X)).length+1,l:=l.take k,begun:=x.begun+y.size,depth:=x.depth+1 }:=by
     refine ⟨_,rfl,?_⟩
     unfold pairs
     rw [hb3]
     cases hi:items X with
     | nil=>
      have hP:X.Parts=[]:=by rw [← items_2 X,hi];rfl
      have hK:X.Keys=[]:=List.eq_nil_of_length_eq_zero (by rw [k1,hP];rfl)
      rw [hi] at a4
      have a5:At { x with i:=x.i+b.length+1+w.length,begun:=x.begun+1,depth:=x.depth+1 } (125::t):=a4
      rw [hP] at ch
      have ce:((k:Int)+1-y.size)=k:=ch
      have e0:pairsL (value f) 4000 { x with i:=x.i+b.length+1+w.length,begun:=x.begun+1,depth:=x.depth+1 } [] []=({ x with i:=x.i+b.length+1+w.length,begun:=x.begun+1,depth:=x.depth+1 },[],[]):=by
       rw [pairsL,if_neg]
       rw [a5.see];simp
      rw [e0]
      refine ⟨by rw [hP,hK],?_⟩
      dsimp only
      rw [a5.take]
      have:x.l=l.take k:=by rw [hL];congr 1;omega
      simp only [partsW,List.length_nil]
      rw [this]
      congr 1 <;> omega
     | cons q0 r0=>
      have hb5:=pairsL_back ih hw G O.len (items X) ((k:Int)+1-y.size) k 4000 { x with i:=x.i+b.length+1+w.length,begun:=x.begun+1,depth:=x.depth+1 } [] [] [] t (by rw [hi];simp) (by rw [items_2];exact ch) (by rw [items_2];exact cd') (by rw [items_1 k1];exact k2) (by rw [items_1 k1];simpa using k3) (by omega) (.inr rfl) rfl a4 (by omega) (by rw [tn];exact hL) (by show x.begun+1+_≤_;omega)
      rw [← hi,hb5]
      dsimp only
      have a5:At { x with i:=x.i+b.length+1+w.length+(([]:Str).length+(partsW w l (core w l f) True true (items X)).length:Nat),l:=l.take (k:Int).toNat,begun:=x.begun+1+((k:Int)-((k:Int)+1-y.size)),depth:=x.depth+1 } (125::t):=a4.adv _ (by simp) hx.e rfl rfl
      rw [a5.take]
      refine ⟨by rw [List.nil_append,List.nil_append,items_2,items_1 k1],?_⟩
      simp only [List.length_nil,Nat.zero_add,Int.toNat_natCast]
      congr 1;omega
    obtain ⟨q,hq,q1,q2⟩:=hr
    unfold body
    dsimp only
    rw [sx,if_pos (.inr rfl)]
    unfold nested
    rw [if_neg (by decide),hopen 123 eo,hq]
    dsimp only
    rw [q1,q2]
    simp only [Prod.mk.injEq]
    refine ⟨?_,?_⟩
    ·have h1:=n4 (by omega);have h2:=n5 (by omega)
     cases X;simp only at c7 h1 h2;subst c7 h1 h2;rfl
    ·rw [e7]
     simp only [List.length_append,List.length_cons,List.length_nil]
     congr 1 <;> omega
  ·-- leaves
   have hP:=npt (fun h=>c67 (.inl h)) (fun h=>c67 (.inr h))
   have hK:=nk (fun h=>c67 (.inr h))
   rw [hP] at ch
   have ce:((k:Int)+1-y.size)=k:=ch
   have hL':x.l=l.take k:=by rw [hL];congr 1;omega
   have bo:=begin_ok (x:={ x with i:=x.i+b.length }) (by show x.begun<300;omega) false (fun h=>by cases h)
   have a2:∀ {u:Str},core w l (f+1) k=u→At { x with i:=x.i+b.length,begun:=x.begun+1 } (u++t):=fun {u} e=>by
    rw [e] at a1
    exact ⟨a1.e,a1.i,a1.d⟩
   have out:∀ {n:Nat},(core w l (f+1) k).length=n→({ x with i:=x.i+b.length+n,begun:=x.begun+1 }:St)={ x with i:=x.i+((b.length+(core w l (f+1) k).length:Nat):Int),l:=l.take k,begun:=x.begun+y.size }:=fun {n} e=>by
    rw [e,← hL']
    congr 1 <;> omega
   by_cases c4:X.Kind=4
   ·have hcore:core w l (f+1) k=Lib.itoa X.N:=by rw [core,hX];dsimp only;rw [if_pos c4]
    obtain ⟨_,_,_,c,r,e,hc⟩:=num_back nn (t:=t) ht
    obtain ⟨_,_,_,q1,q2,q3⟩:=dig_head hc
    have sx:see { x with i:=x.i+(b.length:Int) }=c:=by rw [hcore,e] at a1;exact a1.see
    have nb:=(a2 hcore).number nn ht
    unfold body
    dsimp only
    rw [sx,if_neg (by intro h;rcases h with h | h;exact q1 h;exact q2 h),if_neg q3,if_pos hc,bo,nb]
    simp only [Prod.mk.injEq]
    refine ⟨?_,out (by rw [hcore])⟩
    have h2:=n5 (by omega)
    cases X;simp only at c4 h2 hK hP;subst c4 h2 hK hP;rfl
   ·by_cases c5:X.Kind=5
    ·have hcore:core w l (f+1) k=quote X.S:=by rw [core,hX];dsimp only;rw [if_neg c4,if_pos c5]
     have sx:see { x with i:=x.i+(b.length:Int) }=34:=by rw [hcore] at a1;exact At.see (t:=esc X.S++[34]++t) (by simpa [quote] using a1)
     have nb:=(a2 hcore).text np
     unfold body
     dsimp only
     rw [sx,if_neg (by decide),if_pos rfl,bo,nb]
     simp only [Prod.mk.injEq]
     refine ⟨?_,out (by rw [hcore])⟩
     have h2:=n4 (by omega)
     cases X;simp only at c5 h2 hK hP;subst c5 h2 hK hP;rfl
    ·have hcore:core w l (f+1) k=word X.Kind:=by rw [core,hX];dsimp only;rw [if_neg c4,if_neg c5,if_neg c67]
     have h1:=n4 c4
     have h2:=n5 c5
     have hk3:X.Kind=1∨X.Kind=2∨X.Kind=3:=by omega
     have key:∀ (c:UInt8) (u:Str),word X.Kind=c::u→wordOf c=c::u→kindOf c=X.Kind→(c=110∨c=102∨c=116)→body (value f) { x with i:=x.i+b.length }=(X,{ x with i:=x.i+((b.length+(core w l (f+1) k).length:Nat):Int),l:=l.take k,begun:=x.begun+y.size }):=fun c u e1 e2 e3 e4=>by
      have sx:see { x with i:=x.i+(b.length:Int) }=c:=by rw [hcore,e1] at a1;exact a1.see
      have nb:=(a2 (hcore.trans e1)).literal
      have ne:c≠91∧c≠123∧c≠34∧c≠45∧isDig c=false:=by rcases e4 with rfl | rfl | rfl <;> decide
      unfold body
      dsimp only
      rw [sx,if_neg (by intro h;rcases h with h | h;exact ne.1 h;exact ne.2.1 h),if_neg ne.2.2.1,if_neg (by intro h;rcases h with h | h;exact ne.2.2.2.1 h;rw [ne.2.2.2.2] at h;cases h),if_pos e4,bo,e2,nb,e3]
      simp only [Prod.mk.injEq]
      refine ⟨?_,out (by rw [hcore,e1])⟩
      cases X;simp only at h1 h2 hK hP;subst h1 h2 hK hP;rfl
     rcases hk3 with c | c | c
     ·exact key 110 [117,108,108] (by rw [c];rfl) rfl (by rw [c];rfl) (.inl rfl)
     ·exact key 102 [97,108,115,101] (by rw [c];rfl) rfl (by rw [c];rfl) (.inr (.inl rfl))
     ·exact key 116 [114,117,101] (by rw [c];rfl) rfl (by rw [c];rfl) (.inr (.inr rfl))
end P
end Go.Bvm.JN
set_option linter.unusedVariables false
set_option linter.unusedSimpArgs false
set_option maxRecDepth 20000
namespace Go.Bvm.JN
open Go.Bvm
namespace P
def Wide (w:Str) (l:List api_Json):Str:=core w l 9 (l.length-1)++tailW w l (l.length-1)
theorem Read_back {l:List api_Json} (hm:May l=true) {b w:Str} (hb:b.all blankB=true) (hw:w.all blankB=true) (hl:(b++Wide w l).length≤3000):Read (b++Wide w l)=(l,0,0):=by
 obtain ⟨all,O,hls,h1,h2⟩:=ok_of hm
 have hal:=O.len
 obtain ⟨y,hy⟩ : ∃ y,all[l.length-1]?=some y:=⟨_,List.getElem?_eq_getElem (by omega)⟩
 have g:=O.good _ _ hy
 have hsz:y.size=l.length:=by
  unfold lastSize at hls
  rw [List.getLast?_eq_getElem?,hal,hy] at hls
  exact of_decide_eq_true hls
 have hB:=value_back O hw h2 9 (l.length-1) y hy (by omega) (init (b++Wide w l)) b (tailW w l (l.length-1)) ⟨rfl,Int.le_refl _,by show (b++Wide w l).drop 0=_;rw [List.drop_zero];rfl⟩ hb
  (by have:=blank_nodig (tailW_blank hw l (l.length-1)) (t:=[]) (fun c r h=>by cases h);rwa [List.append_nil] at this)
  (by show []=_;rw [hsz,show l.length-1+1-l.length=0 by omega];rfl) (by show (0:Int)+y.size≤300;omega) (by show (0:Int)+y.deep≤8;omega)
 have hi:((b++Wide w l).length:Int)=0+((b.length+(core w l 9 (l.length-1)).length:Nat):Int)+(tailW w l (l.length-1)).length:=by
  unfold Wide;simp only [List.length_append];omega
 have a1:At (value 9 (init (b++Wide w l))).2 (tailW w l (l.length-1)++[]):=by
  rw [hB]
  have a0:At (init (b++Wide w l)) ((b++core w l 9 (l.length-1))++tailW w l (l.length-1)):=⟨rfl,Int.le_refl _,by show (b++Wide w l).drop 0=_;rw [List.drop_zero];unfold Wide;simp⟩
  rw [List.append_nil]
  exact a0.adv _ (by simp) rfl rfl rfl
 have hbl:=a1.blanks (tailW_blank hw l _) (fun c r h=>by cases h)
 have hfin:fin (b++Wide w l)={ (value 9 (init (b++Wide w l))).2 with i:=(value 9 (init (b++Wide w l))).2.i+(tailW w l (l.length-1)).length }:=by
  unfold fin
  rw [hbl]
  unfold last
  rw [if_neg]
  rw [hB]
  show ¬ (0+((b.length+(core w l 9 (l.length-1)).length:Nat):Int)+(tailW w l (l.length-1)).length<((b++Wide w l).length:Int))
  omega
 unfold Read
 rw [if_neg (by omega),hfin,hB]
 show (if (0:Int)≠0 then _ else (l.take (l.length-1+1),(0:Int),(0:Int)))=_
 rw [if_neg (by simp),show l.length-1+1=l.length by omega,List.take_length]
theorem Wide_nil (l:List api_Json):Wide [] l=Text l:=by
 unfold Wide Text
 rw [tailW_nil,List.append_nil,spell_core]
theorem Read_text {l:List api_Json} (hm:May l=true) (hl:(Text l).length≤3000):Read (Text l)=(l,0,0):=by
 have:=Read_back hm (b:=[]) (w:=[]) rfl rfl (by rw [List.nil_append,Wide_nil];exact hl)
 rwa [List.nil_append,Wide_nil] at this
def sepB (c:UInt8):Bool:=decide (c=44) || decide (c=58) || decide (c=91) || decide (c=123) || decide (c=93) || decide (c=125)
def wideF (w:Str):Bool→Str→Str
 | _,[]=>[]
 | q,c::r=>let q':=if c=34 then !q else q
  c::((if !q' && sepB c then w else [])++wideF w q' r)
def qF:Bool→Str→Bool
 | q,[]=>q
 | q,c::r=>qF (if c=34 then !q else q) r
theorem wideF_app (w:Str):∀ (a b:Str) (q:Bool),wideF w q (a++b)=wideF w q a++wideF w (qF q a) b
 | [],b,q=>rfl
 | c::a,b,q=>by
  rw [List.cons_append,wideF,wideF,wideF_app w a b,qF]
  simp
theorem qF_app:∀ (a b:Str) (q:Bool),qF q (a++b)=qF (qF q a) b
 | [],b,q=>rfl
 | c::a,b,q=>by rw [List.cons_append,qF,qF_app a b,qF]
def Flat (s:Str):Prop:=s.all (fun c=>!decide (c=34) && !sepB c)=true
theorem wideF_flat (w:Str):∀ {s:Str},Flat s→wideF w false s=s∧qF false s=false
 | [],_=>⟨rfl,rfl⟩
 | c::r,h=>by
  unfold Flat at h
  simp only [List.all_cons,Bool.and_eq_true,Bool.not_eq_true',decide_eq_false_iff_not] at h
  obtain ⟨⟨h1,h2⟩,h3⟩:=h
  obtain ⟨e1,e2⟩:=wideF_flat w (s:=r) (by unfold Flat;simpa using h3)
  rw [wideF,qF,if_neg h1,e2,h2,e1]
  exact ⟨rfl,rfl⟩
theorem wideF_in (w:Str):∀ {s:Str},s.all (fun c=>!decide (c=34))=true→wideF w true s=s∧qF true s=true
 | [],_=>⟨rfl,rfl⟩
 | c::r,h=>by
  simp only [List.all_cons,Bool.and_eq_true,Bool.not_eq_true',decide_eq_false_iff_not] at h
  obtain ⟨e1,e2⟩:=wideF_in w (s:=r) h.2
  rw [wideF,qF,if_neg h.1,e2,e1]
  exact ⟨rfl,rfl⟩
def noSl (s:Str):Prop:=∀ c,c∈s→c≠92
theorem esc_noSl:∀ {s:Str},noSl (esc s)→esc s=s∧s.all (fun c=>!decide (c=34))=true
 | [],_=>⟨rfl,rfl⟩
 | c::r,h=>by
  have e:esc (c::r)=escC c++esc r:=rfl
  rw [e] at h
  have hc:¬ (c=34∨c=92):=fun k=>by
   have:escC c=[92,c]:=by unfold escC;rw [if_pos k]
   rw [this] at h
   exact h 92 (by simp) rfl
  have ec:escC c=[c]:=by unfold escC;rw [if_neg hc]
  obtain ⟨e1,e2⟩:=esc_noSl (s:=r) (fun d hd=>h d (by simp [hd]))
  rw [e,ec,e1]
  refine ⟨rfl,?_⟩
  rw [List.all_cons,e2,decide_eq_false (fun k=>hc (.inl k))];rfl
theorem wideF_quote (w:Str) {s:Str} (h:noSl (quote s)):wideF w false (quote s)=quote s∧qF false (quote s)=false:=by
 obtain ⟨e1,e2⟩:=esc_noSl (s:=s) (fun c hc=>h c (by simp [quote,hc]))
 obtain ⟨e3,e4⟩:=wideF_in w e2
 have:quote s=34::(s++[34]):=by unfold quote;rw [e1];rfl
 rw [this,wideF,qF,if_pos rfl,show (!false)=true from rfl,wideF_app,qF_app,e3,e4]
 exact ⟨rfl,rfl⟩
theorem flat_num {z:Int} (h:isNum z=true):Flat (Lib.itoa z):=by
 have dig:∀ m:Nat,m≤1073741824→Flat (Lib.decDigits m):=fun m hm=>by
  obtain ⟨h1,_⟩:=dec_ok' hm
  unfold Flat
  rw [List.all_eq_true] at h1 ⊢
  intro c hc
  have:=h1 c hc
  have k:∀ d:UInt8,isDig d=false→c≠d:=fun d hd e=>by subst e;rw [this] at hd;cases hd
  unfold sepB
  simp [k 34 rfl,k 44 rfl,k 58 rfl,k 91 rfl,k 123 rfl,k 93 rfl,k 125 rfl]
 unfold isNum at h
 simp only [Bool.and_eq_true,decide_eq_true_eq] at h
 by_cases hn:z<0
 ·have e:Lib.itoa z=45::Lib.decDigits z.natAbs:=by unfold Lib.itoa;rw [if_pos hn];try rfl
  have:=dig z.natAbs (by omega)
  rw [e]
  unfold Flat at this ⊢
  rw [List.all_cons,this];rfl
 ·have e:Lib.itoa z=Lib.decDigits z.natAbs:=by unfold Lib.itoa;rw [if_neg hn];congr 1;omega
  rw [e]
  exact dig z.natAbs (by omega)
theorem flat_word (kd:Int):Flat (word kd):=by
 unfold word
 split
 ·rfl
 ·split <;> rfl
variable {w:Str} {l:List api_Json} {all:List Shp}
theorem wide_parts {f:Nat} (m:Prop) [Decidable m]:∀ (R:List (Str×Int)) (b:Bool),(∀ p,p∈R.map (·.2)→noSl (core [] l f p.toNat)→wideF w false (core [] l f p.toNat)=core w l f p.toNat++tailW w l p.toNat∧qF false (core [] l f p.toNat)=false)→noSl (partsW [] l (core [] l f) m b R)→
  wideF w false (partsW [] l (core [] l f) m b R)=partsW w l (core w l f) m b R∧qF false (partsW [] l (core [] l f) m b R)=false
 | [],b,_,_=>⟨rfl,rfl⟩
 | (s,p)::r,b,h,hs=>by
  rw [partsW,tailW_nil,List.append_nil] at hs ⊢
  have s1:noSl (core [] l f p.toNat):=fun c hc=>hs c (by simp [hc])
  have s2:noSl (partsW [] l (core [] l f) m false r):=fun c hc=>hs c (by simp [hc])
  obtain ⟨a1,a2⟩:=h p (by simp) s1
  obtain ⟨b1,b2⟩:=wide_parts m r false (fun q hq=>h q (by simp at hq ⊢;exact .inr hq)) s2
  have k1:∀ (b:Bool),wideF w false (if b then [] else [44])=(if b then [] else 44::w)∧qF false (if b then [] else [44])=false:=fun b=>by
   cases b
   ·exact ⟨by simp [wideF,sepB],rfl⟩
   ·exact ⟨rfl,rfl⟩
  have k2:wideF w false (if m then quote s++[58] else [])=(if m then quote s++58::w else [])∧qF false (if m then quote s++[58] else [])=false:=by
   by_cases hm:m
   ·rw [if_pos hm,if_pos hm]
    have s3:noSl (quote s):=fun c hc=>hs c (by rw [if_pos hm];simp [hc])
    obtain ⟨e1,e2⟩:=wideF_quote w s3
    rw [wideF_app,qF_app,e1,e2]
    exact ⟨by simp [wideF,sepB],rfl⟩
   ·rw [if_neg hm,if_neg hm];exact ⟨rfl,rfl⟩
  refine ⟨?_,?_⟩
  ·rw [wideF_app,wideF_app,wideF_app,qF_app,qF_app,(k1 b).2,(k1 b).1,k2.2,k2.1,a2,a1,b1,partsW]
  ·rw [qF_app,qF_app,qF_app,(k1 b).2,k2.2,a2,b2]
theorem wide_core (O:Ok l all):∀ f i (y:Shp),all[i]?=some y→y.deep<f→noSl (core [] l f i)→wideF w false (core [] l f i)=core w l f i++tailW w l i∧qF false (core [] l f i)=false
 | 0,i,y,_,hd,_=>by omega
 | f+1,i,y,hy,hd,h=>by
  cases hx:l[i]? with
  | none=>rw [core,core,hx];refine ⟨?_,rfl⟩;unfold tailW;rw [hx];rfl
  | some x=>
   have nf:=nodeF (O.at_ i x hx).1
   have ht:tailW w l i=if x.Kind=6∨x.Kind=7 then w else []:=by unfold tailW;rw [hx]
   rw [ht]
   rw [core,hx] at h ⊢
   rw [core,hx]
   dsimp only at h ⊢
   by_cases c4:x.Kind=4
   ·rw [if_pos c4,if_pos c4,if_neg (by omega),List.append_nil]
    exact wideF_flat w (flat_num nf.2.2.2.1)
   ·rw [if_neg c4] at h ⊢
    rw [if_neg c4]
    by_cases c5:x.Kind=5
    ·rw [if_pos c5] at h ⊢
     rw [if_pos c5,if_neg (by omega),List.append_nil]
     exact wideF_quote w h
    ·rw [if_neg c5] at h ⊢
     rw [if_neg c5]
     by_cases c67:x.Kind=6∨x.Kind=7
     ·rw [if_pos c67] at h ⊢
      rw [if_pos c67,if_pos c67]
      have sp:noSl (partsW [] l (core [] l f) (x.Kind=7) true (items x)):=fun c hc=>h c (by simp [hc])
      have k:∀ p,p∈(items x).map (·.2)→noSl (core [] l f p.toNat)→wideF w false (core [] l f p.toNat)=core w l f p.toNat++tailW w l p.toNat∧qF false (core [] l f p.toNat)=false:=fun p hp hn=>by
       rw [items_2] at hp
       obtain ⟨z,h1,h2⟩:=(O.ch hx hy).2 p hp
       rw [if_pos (by omega)] at h2
       exact wide_core O f p.toNat z h1 (by omega) hn
      obtain ⟨p1,p2⟩:=wide_parts (w:=w) (x.Kind=7) (items x) true k sp
      have e1:∀ c:UInt8,c≠34→sepB c=true→wideF w false [c]=c::w∧qF false [c]=false:=fun c h1 h2=>by
       rw [wideF,qF,if_neg h1,h2]
       exact ⟨by simp [wideF],rfl⟩
      have eo:(ends x.Kind).1≠34∧sepB (ends x.Kind).1=true∧(ends x.Kind).2≠34∧sepB (ends x.Kind).2=true:=by
       unfold ends;split <;> exact ⟨by decide,by decide,by decide,by decide⟩
      obtain ⟨q1,q2⟩:=e1 _ eo.1 eo.2.1
      obtain ⟨q3,q4⟩:=e1 _ eo.2.2.1 eo.2.2.2
      have:(ends x.Kind).1::[]++(partsW [] l (core [] l f) (x.Kind=7) true (items x)++[(ends x.Kind).2])=[(ends x.Kind).1]++(partsW [] l (core [] l f) (x.Kind=7) true (items x)++[(ends x.Kind).2]):=rfl
      rw [this,wideF_app,wideF_app,qF_app,qF_app,q2,q1,p2,p1,q4,q3]
      exact ⟨by simp,rfl⟩
     ·rw [if_neg c67,if_neg c67,if_neg c67,List.append_nil]
      exact wideF_flat w (flat_word _)
theorem wide_text (hm:May l=true) (h:noSl (Text l)):wideF w false (Text l)=Wide w l:=by
 obtain ⟨all,O,hls,h1,h2⟩:=ok_of hm
 have hal:=O.len
 obtain ⟨y,hy⟩ : ∃ y,all[l.length-1]?=some y:=⟨_,List.getElem?_eq_getElem (by omega)⟩
 have g:=O.good _ _ hy
 unfold Text at h ⊢
 rw [spell_core] at h ⊢
 exact (wide_core O 9 _ y hy (by omega) h).1
end P
end Go.Bvm.JN
set_option linter.unusedVariables false
set_option linter.unusedSimpArgs false
set_option maxRecDepth 20000
namespace Go.Bvm.JN
open Go.Bvm
theorem EqJson_f {A B:List Nat} {h:H} {ca cb:List V} {x:api_Json} {k:KV} (E:Enc.rep (α:=JF) A h ca x) (F:Enc.rep (α:=JF) B h cb x) (hk:x.Keys.length≤1000000) (hp:x.Parts.length≤1000000) {n:Nat} (K:∀ h',Ex h h'→k (.t true) h'=true):run tbl (n+2) Nf_z_EqJson (vl [.x .agg (vl ca) V.nil,.x .agg (vl cb) V.nil]) h k=true:=by
 have la:ca.length=5:=Enc.len (α:=JF) E
 have lb:cb.length=5:=Enc.len (α:=JF) F
 rw [run_succ,tbl_z_EqJson]
 unfold T_z_EqJson z_EqJson_2
 simp -implicitDefEqProofs (disch:=omega)
 refine newA_w la (by decide) (by decide) fun h1 n1 B1 x1=>?_
 have E1:Ex h h1:=x1.ex (Nat.le_refl _)
 have hn1:h1.next=h.next+1:=n1
 refine newA_w lb (by decide) (by decide) fun h2 n2 B2 x2=>?_
 have E2:Ex h1 h2:=x2.ex (Nat.le_refl _)
 have hn2:h2.next=h1.next+1:=n2
 have E02:Ex h h2:=E1.loc E2 (by omega) (by omega)
 have B12:=B1.fz E2 (by omega) (by decide)
 have Ea:=Enc.fz (α:=JF) E E02 (Nat.le_refl _) (by decide)
 have Eb:=Enc.fz (α:=JF) F E02 (Nat.le_refl _) (by decide)
 obtain ⟨v1,v2,rfl,f0,f1,f2,f3,f4⟩:=Ea
 obtain ⟨w1,w2,rfl,g0,g1,g2,g3,g4⟩:=Eb
 have La:=fun {o m}=>B12.ld (n:=5) rfl (off:=o) (lim:=m)
 have Lb:=fun {o m}=>B2.ld (n:=5) rfl (off:=o) (lim:=m)
 unfold z_EqJson_1 z_EqJson_0
 have e1:∀ k:KV,k (.t true) h2=true→run tbl (n+1) Nf_z_EqStrings (vl [v1,w1]) h2 k=true:=fun k hk2=>EqStrings_w f3 g3 (by unfold big;omega) (by simpa using hk2)
 have e2:∀ k:KV,k (.t true) h2=true→run tbl (n+1) Nf_z_EqNumbers (vl [v2,w2]) h2 k=true:=fun k hk2=>EqNumbers_w f4 g4 (by unfold big;omega) (by simpa using hk2)
 have:=K h2 E02
 simp -implicitDefEqProofs (disch:=omega) [La,Lb]
 refine e1 _ ?_
 simp -implicitDefEqProofs (disch:=omega) [La,Lb]
 refine e2 _ ?_
 exact this
theorem EqJsons_f {A B:List Nat} {h:H} {va vb:V} {xs:List api_Json} {k:KV} (S:Sl (α:=JF) A h va xs) (T:Sl (α:=JF) B h vb xs) (hl:xs.length≤1000000) (hk:∀ x∈xs,x.Keys.length≤1000000∧x.Parts.length≤1000000) {n:Nat} (K:∀ h',Ex h h'→k (.t true) h'=true):run tbl (n+3) Nf_z_EqJsons (vl [va,vb]) h k=true:=by
 rw [run_succ,tbl_z_EqJsons]
 unfold T_z_EqJsons z_EqJsons_6 z_EqJsons_0 z_EqJsons_4 z_EqJsons_5
 have lS:∀ k,Go.Bvm.lenL va k=k (wz (xs.length:Int)):=S.lenL
 have lT:∀ k,Go.Bvm.lenL vb k=k (wz (xs.length:Int)):=T.lenL
 simp -implicitDefEqProofs (disch:=omega) [lS,lT]
 refine loop_w (fun m e h'=>∃ i:Nat,m=xs.length-i∧i≤xs.length∧e=f8 (V.t false) (wz i) va vb V.u V.u V.u V.u∧Ex h h') ?_ big xs.length _ _ ⟨0,by simp,by omega,rfl,Fz.refl _ _ _ _⟩ (by unfold big;omega)
 rintro m e h1 ⟨i,rfl,hi,rfl,E1⟩ K' Kn Kx Kr
 have S1:=S.fz E1 (Nat.le_refl _) (by decide)
 have T1:=T.fz E1 (Nat.le_refl _) (by decide)
 unfold z_EqJsons_1
 by_cases hi2:i<xs.length
 ·have hi3:(i:Int)<xs.length:=by omega
  obtain ⟨ca,Ea,a1,a2,a3⟩:=S1.at (i:=(i:Int)) (Int.natCast_nonneg i) (getE? (show (i:Int).toNat<xs.length from hi2))
  obtain ⟨cb,Eb,b1,b2,b3⟩:=T1.at (i:=(i:Int)) (Int.natCast_nonneg i) (getE? (show (i:Int).toNat<xs.length from hi2))
  have lca:ca.length=5:=Enc.len (α:=JF) Ea
  have lcb:cb.length=5:=Enc.len (α:=JF) Eb
  have a1':∀ k,iadV 5 va (wz (i:Int)) k=k (pel va (i:Int) 0):=a1
  have b1':∀ k,iadV 5 vb (wz (i:Int)) k=k (pel vb (i:Int) 0):=b1
  have a3':∀ k,lda 5 (pel va (i:Int) 0) h1 k=k (.x .agg (vl ca) V.nil):=fun k=>by
   have:=a3 0 5 k (by decide)
   rw [List.drop_zero,List.take_of_length_le (by omega)] at this
   exact this
  have b3':∀ k,lda 5 (pel vb (i:Int) 0) h1 k=k (.x .agg (vl cb) V.nil):=fun k=>by
   have:=b3 0 5 k (by decide)
   rw [List.drop_zero,List.take_of_length_le (by omega)] at this
   exact this
  have hb:=hk _ (List.getElem_mem hi2)
  unfold z_EqJsons_2 z_EqJsons_3
  simp -implicitDefEqProofs (disch:=omega) [lS,hi3,a1',b1',a3',b3']
  refine EqJson_f (n:=n) Ea Eb hb.1 hb.2 fun h2 E2=>?_
  simp -implicitDefEqProofs (disch:=omega)
  exact Kn _ _ _ (by omega) ⟨i+1,rfl,by omega,by simp,E1.loc E2 E1.nx E1.nx⟩
 ·have hi3:¬ (i:Int)<xs.length:=by omega
  have:=K h1 E1
  simp -implicitDefEqProofs (disch:=omega) [lS,hi3]
  refine Kx _ _ _ ?_
  simp -implicitDefEqProofs (disch:=omega)
  exact this
theorem num_eq {z:Int} {h:H} {n:Nat} {k:KV}:run tbl (n+1) Nf_l1_num (vl [wz z]) h k=k (wz z) h:=by
 rw [run_succ,tbl_l1_num]
 unfold T_l1_num l1_num_0
 simp -implicitDefEqProofs (disch:=omega)
theorem Wakes_w {n:Nat} {h:H} {k:KV} (p:Pin h) (K:k (.t true) h=true):run tbl (n+1) Nf_l1_wakes V.nil h k=true:=by
 rw [run_succ,tbl_l1_wakes]
 show onPin (hget Pg h.tr) _=true
 rw [show hget Pg h.tr=.pin 0 0 0 from p]
 exact K
theorem Sl_inR {h:H} {v:V} {l:List api_Json} (S:Sl (α:=JF) [] h v l):∀ x∈l,inR x.N:=fun x hx=>by
 obtain ⟨i,hi,rfl⟩:=List.mem_iff_getElem.1 hx
 obtain ⟨cs,E,_⟩:=S.at (i:=(i:Int)) (Int.natCast_nonneg i) (getE? (show (i:Int).toNat<l.length from hi))
 obtain ⟨_,_,_,_,f1,_⟩:=E
 exact f1
def cnt (s:Str):Int:=((s.filter fun c=>decide (c=92)).length:Int)
theorem cnt_0 {s:Str} (h:cnt s=0):P.noSl s:=fun c hc e=>by
 subst e
 unfold cnt at h
 have:(s.filter fun c=>decide (c=92))=[]:=List.eq_nil_of_length_eq_zero (by omega)
 have h2:(92:UInt8)∈s.filter fun c=>decide (c=92):=List.mem_filter.2 ⟨hc,by simp⟩
 rw [this] at h2
 cases h2
theorem take_succ_get {s:Str} {i:Nat} (hi:i<s.length):s.take (i+1)=s.take i++[s[i]]:=by
 rw [List.take_add_one,List.getElem?_eq_getElem hi];rfl
theorem sidx_g {s:Str} {i:Nat} (hi:i<s.length) (k:V→Bool):sidxV (vs s) (wz (i:Int)) k=k (vy s[i]):=by
 rw [sidxV_d s i (by omega) (by omega)]
 congr 2
 rw [List.getD_eq_getElem?_getD,Int.toNat_natCast,List.getElem?_eq_getElem hi];rfl
theorem slashes_w {h:H} {s:Str} (hs:s.length≤1000000) {n:Nat} {k:KV} (K:k (wz (cnt s)) h=true):run tbl (n+1) Nf_l1_slashes (vl [vs s]) h k=true:=by
 rw [run_succ,tbl_l1_slashes]
 unfold T_l1_slashes l1_slashes_5 l1_slashes_3
 simp -implicitDefEqProofs (disch:=omega)
 refine loop_w (fun m e h'=>∃ i:Nat,m=s.length-i∧i≤s.length∧e=f8 (wz 0) (wz i) (vs s) (wz (cnt (s.take i))) V.u V.u V.u V.u∧h'=h) ?_ big s.length _ _ ⟨0,rfl,by omega,rfl,rfl⟩ (by unfold big;omega)
 rintro m e h' ⟨i,rfl,hi,rfl,rfl⟩ K' Kn Kx Kr
 unfold l1_slashes_0
 by_cases hi2:i<s.length
 ·have hi3:(i:Int)<(s.length:Int):=by omega
  have hc:0≤cnt (s.take i)∧cnt (s.take i)≤1000000:=by
   unfold cnt
   have:=List.length_filter_le (fun c=>decide (c=(92:UInt8))) (s.take i)
   rw [List.length_take] at this
   omega
  have e1:cnt (s.take (i+1))=if s[i]=92 then cnt (s.take i)+1 else cnt (s.take i):=by
   rw [take_succ_get hi2]
   unfold cnt
   rw [List.filter_append,List.length_append]
   by_cases c:s[i]=92
   ·rw [if_pos c];simp [c]
   ·rw [if_neg c];simp [c]
  have sx:=sidx_g hi2
  unfold l1_slashes_1
  by_cases c:s[i]=92
  ·rw [if_pos c] at e1
   simp -implicitDefEqProofs (disch:=omega) [hi3,sx,c]
   unfold l1_slashes_2
   simp -implicitDefEqProofs (disch:=omega)
   exact Kn _ _ _ (by omega) ⟨i+1,rfl,by omega,by rw [e1];simp,rfl⟩
  ·rw [if_neg c] at e1
   simp -implicitDefEqProofs (disch:=omega) [hi3,sx,c]
   unfold l1_slashes_2
   simp -implicitDefEqProofs (disch:=omega)
   exact Kn _ _ _ (by omega) ⟨i+1,rfl,by omega,by rw [e1];simp,rfl⟩
 ·have hi3:¬ (i:Int)<(s.length:Int):=by omega
  have ei:s.take i=s:=List.take_of_length_le (by omega)
  simp -implicitDefEqProofs (disch:=omega) [hi3]
  refine Kx _ _ _ ?_
  unfold l1_slashes_4
  simp -implicitDefEqProofs (disch:=omega) [ei]
  exact K
noncomputable abbrev fB (p i:Nat) (v:V) (s:Str) (k:Nat) (q:Bool) (W:Str):L8:=f8 (.t false) (.p p 0 3 0) (wz i) v (vs s) (wz k) (.t q) (vs W)
theorem quo_w {cf:CallF} {h:H} {p i k:Nat} {v:V} {s W:Str} {q:Bool} {K:KX} (hk:k<s.length) (hs:s.length≤900)
  (K0:∀ q',(P.noSl s→q'=if s[k]=34 then !q else q)→K X.n (fB p i v s k q' W) h=true):l1_JsonBack_7 cf big (fB p i v s k q W) h K=true:=by
 have sx:=sidx_g hk
 unfold l1_JsonBack_7 l1_JsonBack_6 l1_JsonBack_5
 by_cases c:s[k]=34
 ·by_cases k0:k=0
  ·subst k0
   have:=K0 (!q) (fun _=>by rw [if_pos c])
   simp -implicitDefEqProofs (disch:=omega) [sx,c]
   exact this
  ·have k1:¬ (k:Int)=0:=by omega
   have s1:∀ f,sidxV (vs s) (wz ((k:Int)-1)) f=f (vy s[k-1]):=fun f=>by
    rw [show (k:Int)-1=((k-1:Nat):Int) by omega];exact sidx_g (by omega) f
   by_cases c1:s[k-1]=92
   ·have no:¬ P.noSl s:=fun z=>z _ (List.getElem_mem _) c1
    by_cases k2:k=1
    ·subst k2
     have c1':s[0]=92:=c1
     have:=K0 q (fun z=>absurd z no)
     simp -implicitDefEqProofs (disch:=omega) [sx,c,k0,k1,s1,c1']
     exact this
    ·have k3:(k:Int)>1:=by omega
     have s2:∀ f,sidxV (vs s) (wz ((k:Int)-2)) f=f (vy s[k-2]):=fun f=>by
      rw [show (k:Int)-2=((k-2:Nat):Int) by omega];exact sidx_g (by omega) f
     by_cases c2:s[k-2]=92
     ·have:=K0 (!q) (fun z=>absurd z no)
      simp -implicitDefEqProofs (disch:=omega) [sx,c,k0,k1,s1,c1,k3,s2,c2]
      exact this
     ·have:=K0 q (fun z=>absurd z no)
      simp -implicitDefEqProofs (disch:=omega) [sx,c,k0,k1,s1,c1,k3,s2,c2]
      exact this
   ·have:=K0 (!q) (fun _=>by rw [if_pos c])
    simp -implicitDefEqProofs (disch:=omega) [sx,c,k0,k1,s1,c1]
    exact this
 ·have:=K0 q (fun _=>by rw [if_neg c])
  simp -implicitDefEqProofs (disch:=omega) [sx,c]
  exact this
theorem qF_s (q:Bool):∀ (a:Str) (c:UInt8),P.qF q (a++[c])=if c=34 then !(P.qF q a) else P.qF q a:=fun a c=>by rw [P.qF_app];rfl
theorem sepL_w {cf:CallF} {h:H} {p i k:Nat} {v:V} {s W:Str} {q:Bool} {K:KX} (hk:k<s.length) (hs:s.length≤900) (hW:W.length≤4000)
  (K0:K X.n (fB p i v s k q (W++(s[k]::(if !q && P.sepB s[k] then [10,9,32] else [])))) h=true):l1_JsonBack_12 cf big (fB p i v s k q W) h K=true:=by
 have sx:=sidx_g hk
 have e1:(s.drop k).take 1=[s[k]]:=by rw [List.drop_eq_getElem_cons hk];rfl
 unfold l1_JsonBack_12
 simp -implicitDefEqProofs (disch:=omega)
 rw [e1,catV_vs W [s[k]] (by rw [List.length_singleton];omega)]
 have hcat:∀ (c:UInt8) f,catV (vs (W++[c])) (vs [10,9,32]) f=f (vs (W++[c]++[10,9,32])):=fun c f=>catV_vs _ _ (by simp;omega) f
 unfold l1_JsonBack_11
 cases q with
 | true=>
  unfold l1_JsonBack_10 l1_JsonBack_9 l1_JsonBack_8
  simp -implicitDefEqProofs (disch:=omega)
  exact K0
 | false=>
  by_cases c0:s[k]=44
  ·unfold l1_JsonBack_10 l1_JsonBack_9 l1_JsonBack_8
   rw [c0] at K0
   simp -implicitDefEqProofs (disch:=omega) [sx,c0,hcat]
   simpa [P.sepB] using K0
  ·unfold l1_JsonBack_10
   simp -implicitDefEqProofs (disch:=omega) [sx,c0,hcat]
   by_cases c1:s[k]=58
   ·unfold l1_JsonBack_9 l1_JsonBack_8
    rw [c1] at K0
    simp -implicitDefEqProofs (disch:=omega) [sx,c1,hcat]
    simpa [P.sepB] using K0
   ·simp -implicitDefEqProofs (disch:=omega) [sx,c1,hcat]
    by_cases c2:s[k]=91
    ·unfold l1_JsonBack_9 l1_JsonBack_8
     rw [c2] at K0
     simp -implicitDefEqProofs (disch:=omega) [sx,c2,hcat]
     simpa [P.sepB] using K0
    ·simp -implicitDefEqProofs (disch:=omega) [sx,c2,hcat]
     unfold l1_JsonBack_9
     by_cases c3:s[k]=123
     ·unfold l1_JsonBack_8
      rw [c3] at K0
      simp -implicitDefEqProofs (disch:=omega) [sx,c3,hcat]
      simpa [P.sepB] using K0
     ·simp -implicitDefEqProofs (disch:=omega) [sx,c3,hcat]
      by_cases c4:s[k]=93
      ·unfold l1_JsonBack_8
       rw [c4] at K0
       simp -implicitDefEqProofs (disch:=omega) [sx,c4,hcat]
       simpa [P.sepB] using K0
      ·simp -implicitDefEqProofs (disch:=omega) [sx,c4,hcat]
       unfold l1_JsonBack_8
       by_cases c5:s[k]=125
       ·rw [c5] at K0
        simp -implicitDefEqProofs (disch:=omega) [sx,c5,hcat]
        simpa [P.sepB] using K0
       ·have:P.sepB s[k]=false:=by unfold P.sepB;simp [c0,c1,c2,c3,c4,c5]
        rw [this] at K0
        simp -implicitDefEqProofs (disch:=omega) [sx,c5,hcat]
        simpa using K0
theorem widen_w {cf:CallF} {h:H} {p i:Nat} {v c5:V} {s:Str} {K:KX} (hs:s.length≤900)
  (K0:∀ q W,W.length≤3601→(P.noSl s→W=[32]++P.wideF [10,9,32] false s)→K X.n (fB p i v s s.length q W) h=true):l1_JsonBack_14 cf big (f8 (.t false) (.p p 0 3 0) (wz i) v (vs s) c5 (.t false) (vs [32])) h K=true:=by
 unfold l1_JsonBack_14
 simp -implicitDefEqProofs (disch:=omega)
 refine loop_w (fun m e h'=>∃ (k:Nat) (q:Bool) (W:Str),m=s.length-k∧k≤s.length∧e=fB p i v s k q W∧h'=h∧W.length≤1+4*k∧(P.noSl s→q=P.qF false (s.take k)∧W=[32]++P.wideF [10,9,32] false (s.take k))) ?_ big s.length _ _ ⟨0,false,[32],rfl,by omega,rfl,rfl,by simp,fun _=>⟨rfl,rfl⟩⟩ (by unfold big;omega)
 rintro m e h' ⟨k,q,W,rfl,hk,rfl,rfl,hW,hn⟩ K' Kn Kx Kr
 unfold l1_JsonBack_4
 by_cases hk2:k<s.length
 ·have hk3:(k:Int)<(s.length:Int):=by omega
  simp -implicitDefEqProofs (disch:=omega) [hk3]
  refine quo_w hk2 hs fun q' hq=>?_
  simp -implicitDefEqProofs (disch:=omega)
  refine sepL_w hk2 hs (by omega) ?_
  unfold l1_JsonBack_13
  simp -implicitDefEqProofs (disch:=omega)
  refine Kn _ _ _ (by omega) ⟨k+1,q',W++(s[k]::(if !q' && P.sepB s[k] then [10,9,32] else [])),rfl,by omega,by simp,rfl,?_,fun z=>?_⟩
  ·rw [List.length_append,List.length_cons]
   split <;> simp <;> omega
  ·obtain ⟨h1,h2⟩:=hn z
   have h3:=hq z
   rw [take_succ_get hk2,qF_s,← h1]
   refine ⟨h3,?_⟩
   rw [P.wideF_app,← h1,h2,List.append_assoc]
   congr 2
   rw [P.wideF,P.wideF,h3,List.append_nil]
 ·have hk3:¬ (k:Int)<(s.length:Int):=by omega
  obtain rfl:k=s.length:=by omega
  rw [List.take_length] at hn
  simp -implicitDefEqProofs (disch:=omega) [hk3]
  refine Kx _ _ _ ?_
  simp -implicitDefEqProofs (disch:=omega)
  exact K0 q W (by omega) fun z=>(hn z).2
end Go.Bvm.JN
set_option linter.unusedVariables false
set_option linter.unusedSimpArgs false
set_option maxRecDepth 20000
namespace Go.Bvm.JN
open Go.Bvm
theorem ex2 {h h1 h2:H} (A:Ex h h1) (B:Ex h1 h2):Ex h h2:=A.loc B A.nx A.nx
structure WB (h:H) (p:Nat) (a b q:V):Prop where
 pin:Pin h
 pg:Pg<h.next
 B:Bk h p 0 0 Ty_amanuensislaw1_Ask true true [a,b,q]
 hp:p<h.next
theorem WB.ex {h h':H} {p:Nat} {a b q:V} (w:WB h p a b q) (E:Ex h h'):WB h' p a b q:=
 ⟨(E.lo _ w.pg).trans w.pin,Nat.lt_of_lt_of_le w.pg E.nx,w.B.fz E w.hp (by decide),Nat.lt_of_lt_of_le w.hp E.nx⟩
theorem ok_nd {ls:List (List JF)} (ok:LsOk ls) {i:Nat} (hi:i<ls.length):List.length (α:=api_Json) ls[i]≤1000000∧(∀ x:api_Json,x∈(ls[i]:List api_Json)→x.Keys.length≤1000000∧x.Parts.length≤4096):=ok _ (List.getElem_mem hi)
theorem second_w {h:H} {p i c:Nat} {v:V} {ls:List (List JF)} {l:List api_Json} {W:Str} {q:Bool} {s:Str} {n:Nat} {K:KX} (R:RW c h v ls) (hi:i<ls.length) (hl:l=(ls[i]:List api_Json)) (ok:LsOk ls) (hs:s.length≤900) (hW:W.length≤3000)
  (hr:P.noSl s→P.Read W=(l,0,0)) (K0:∀ h',Ex h h'→K X.n (fB p i v s s.length q W) h'=true):l1_JsonBack_18 (run tbl (n+34)) big (fB p i v s s.length q W) h K=true:=by
 have hmB:maxB=140737488355328:=rfl
 unfold l1_JsonBack_18
 simp -implicitDefEqProofs (disch:=omega)
 refine Read_w (n:=n) (by omega) fun h1 r S b1 b2 E1=>?_
 unfold l1_JsonBack_17
 simp -implicitDefEqProofs (disch:=omega)
 refine slashes_w (n:=n+33) (by omega) ?_
 have hc0:0≤cnt s∧cnt s≤900:=by
  unfold cnt
  have:=List.length_filter_le (fun c=>decide (c=(92:UInt8))) s
  omega
 by_cases hc:cnt s=0
 ·have hR:=hr (cnt_0 hc)
  rw [hR] at S
  have e2:(P.Read W).2.2=0:=by rw [hR]
  unfold l1_JsonBack_16
  obtain ⟨w,w1,w2,w3⟩:=(R.ex E1).at hi
  simp -implicitDefEqProofs (disch:=omega) [hc,num_eq,e2,w1,w2]
  have S1:=Sl_j1 S.sl
  rw [hl] at S1
  obtain ⟨o1,o2⟩:=ok_nd ok hi
  refine EqJsons_f (n:=n+31) S1 w3 o1 (fun x hx=>by have:=o2 x hx;omega) fun h2 E2=>?_
  simp -implicitDefEqProofs (disch:=omega)
  exact K0 h2 (ex2 E1 E2)
 ·unfold l1_JsonBack_16
  simp -implicitDefEqProofs (disch:=omega) [hc]
  exact K0 h1 E1
theorem round_w {h:H} {p i c:Nat} {a b q v y4 y5 y6 y7:V} {ls:List (List JF)} {n:Nat} {K:KX} (wf:WB h p a b q) (R:RW c h v ls) (hi:i<ls.length) (ok:LsOk ls)
  (Kn:∀ h' y4 y5 y6 y7,Ex h h'→K X.n (f8 (.t false) (.p p 0 3 0) (wz i) v y4 y5 y6 y7) h'=true) (Kx:∀ h' y4 y5 y6 y7,Ex h h'→K (X.x 1) (f8 (.t false) (.p p 0 3 0) (wz i) v y4 y5 y6 y7) h'=true) :
  l1_JsonBack_21 (run tbl (n+34)) big (f8 (.t false) (.p p 0 3 0) (wz i) v y4 y5 y6 y7) h K=true:=by
 have hmB:maxB=140737488355328:=rfl
 unfold l1_JsonBack_21
 obtain ⟨w,w1,w2,w3⟩:=R.at hi
 obtain ⟨o1,o2⟩:=ok_nd ok hi
 simp -implicitDefEqProofs (disch:=omega) [w1,w2]
 refine Write_w (n:=n+18) w3 wf.pin wf.pg (Sl_inR w3) o2 fun h1 s e E1 s1 s2=>?_
 simp -implicitDefEqProofs (disch:=omega)
 unfold l1_JsonBack_2
 cases hm:P.May (ls[i]:List api_Json) with
 | false=>
  obtain ⟨rfl,rfl⟩:=s2 hm
  simp -implicitDefEqProofs (disch:=omega) [num_eq]
  exact Kx h1 _ _ _ _ E1
 | true=>
  obtain ⟨hs,rfl,hsl⟩:=s1 hm
  by_cases h9:(s.length:Int)>900
  ·have h9':900<s.length:=by omega
   simp -implicitDefEqProofs (disch:=omega) [num_eq,h9,h9']
   exact Kx h1 _ _ _ _ E1
  ·have h9':¬ 900<s.length:=by omega
   have hsn:s.length≤900:=by omega
   have hR:P.Read s=((ls[i]:List api_Json),0,0):=by rw [hs] at hsn ⊢;exact P.Read_text hm (by omega)
   have e2:(P.Read s).2.2=0:=by rw [hR]
   simp -implicitDefEqProofs (disch:=omega) [num_eq,h9,h9']
   unfold l1_JsonBack_20
   simp -implicitDefEqProofs (disch:=omega)
   refine Read_w (n:=n) (by omega) fun h2 r S b1 b2 E2=>?_
   rw [hR] at S
   have S1:=Sl_j1 S.sl
   unfold l1_JsonBack_3
   have E12:=ex2 E1 E2
   obtain ⟨w',v1,v2,v3⟩:=(R.ex E12).at hi
   simp -implicitDefEqProofs (disch:=omega) [num_eq,e2,v1,v2]
   refine EqJsons_f (n:=n+31) S1 v3 o1 (fun x hx=>by have:=o2 x hx;omega) fun h3 E3=>?_
   simp -implicitDefEqProofs (disch:=omega)
   unfold l1_JsonBack_19
   simp -implicitDefEqProofs (disch:=omega)
   have E13:=ex2 E12 E3
   refine widen_w hsn fun q' W hW hWn=>?_
   simp -implicitDefEqProofs (disch:=omega)
   unfold l1_JsonBack_15
   by_cases hl:(W.length:Int)>3000
   ·have hl':3000<W.length:=by omega
    simp -implicitDefEqProofs (disch:=omega) [hl,hl']
    exact Kx h3 _ _ _ _ E13
   ·have hl':¬ 3000<W.length:=by omega
    simp -implicitDefEqProofs (disch:=omega) [hl,hl']
    refine second_w (n:=n) (R.ex E13) hi rfl ok hsn (by omega) (fun z=>?_) fun h4 E4=>?_
    ·have hz:=hWn z
     rw [hs] at z hz
     rw [P.wide_text hm z] at hz
     rw [hz]
     exact P.Read_back hm (b:=[32]) (w:=[10,9,32]) rfl rfl (by rw [← hz];omega)
    ·exact Kn h4 _ _ _ _ (ex2 E13 E4)
theorem rounds_w {h0:H} {p:Nat} {a b q:V} {c:Nat} {v:V} {ls:List (List JF)} (wf:WB h0 p a b q) (R:RW c h0 v ls) (hls:ls.length≤4000) (ok:LsOk ls) {n:Nat} {K:KX}
  (K0:∀ h' e,Ex h0 h'→K X.n e h'=true):l1_JsonBack_23 (run tbl (n+34)) big (f8 (.t false) (.p p 0 3 0) V.u v V.u V.u V.u V.u) h0 K=true:=by
 unfold l1_JsonBack_23
 simp -implicitDefEqProofs (disch:=omega)
 refine loop_w (fun m e h'=>∃ (i:Nat) (y4 y5 y6 y7:V),m=ls.length-i∧i≤ls.length∧e=f8 (.t false) (.p p 0 3 0) (wz i) v y4 y5 y6 y7∧Ex h0 h') ?_ big ls.length _ _ ⟨0,V.u,V.u,V.u,V.u,rfl,by omega,rfl,Fz.refl _ _ _ _⟩ (by unfold big;omega)
 rintro m e h1 ⟨i,y4,y5,y6,y7,rfl,hi0,rfl,E1⟩ K' Kn Kx Kr
 have R1:=R.ex E1
 unfold l1_JsonBack_1
 by_cases hi:i<ls.length
 ·have hi':(i:Int)<(ls.length:Int):=by omega
  have fin:∀ h2 y4 y5 y6 y7,Ex h1 h2→l1_JsonBack_22 (run tbl (n+34)) big (f8 (.t false) (.p p 0 3 0) (wz i) v y4 y5 y6 y7) h2 K'=true:=fun h2 y4 y5 y6 y7 E2=>by
   unfold l1_JsonBack_22
   simp -implicitDefEqProofs (disch:=omega)
   exact Kn _ _ _ (by omega) ⟨i+1,y4,y5,y6,y7,rfl,by omega,by simp,ex2 E1 E2⟩
  simp -implicitDefEqProofs (disch:=omega) [R1.len,hi']
  refine round_w (n:=n) (wf.ex E1) R1 hi ok (fun h2 y4 y5 y6 y7 E2=>?_) (fun h2 y4 y5 y6 y7 E2=>?_)
  ·simp -implicitDefEqProofs (disch:=omega)
   exact fin h2 _ _ _ _ E2
  ·simp -implicitDefEqProofs (disch:=omega)
   exact fin h2 _ _ _ _ E2
 ·have hi':¬ (i:Int)<(ls.length:Int):=by omega
  simp -implicitDefEqProofs (disch:=omega) [R1.len,hi']
  refine Kx _ _ _ ?_
  simp -implicitDefEqProofs (disch:=omega)
  exact K0 h1 _ E1
theorem JsonBack_w {n:Nat} {h:H} {a b c:V} {S Q:List Str} {L:List (List JF)} {k:KV} (A:Sl [] h a S) (B:Sl [] h b L) (C:Sl [] h c Q) (hp:Pin h) (hq:Pg<h.next) (K:∀ h',k (.t true) h'=true):run tbl (n+35) Nf_l1_JsonBack (vl [.x .agg (vl [a,b,c]) V.nil]) h k=true:=by
 rw [run_succ,tbl_l1_JsonBack]
 unfold T_l1_JsonBack l1_JsonBack_26
 simp -implicitDefEqProofs (disch:=omega)
 refine newA_w rfl (by decide) (by decide) fun h1 n1 B1 x1=>?_
 have hn1:h1.next=h.next+1:=n1
 have E1:Ex h h1:=x1.ex (Nat.le_refl _)
 have wf:WB h1 h.next a b c:=⟨(E1.lo _ hq).trans hp,by omega,B1,by omega⟩
 have A1:=A.fz E1 (Nat.le_refl _) (by simp)
 have D1:=B.fz E1 (Nat.le_refl _) (by simp)
 have C1:=C.fz E1 (Nat.le_refl _) (by simp)
 obtain ⟨L0,L1,L2,LA⟩:=Ask_ld B1
 unfold l1_JsonBack_0
 simp -implicitDefEqProofs (disch:=omega) [LA]
 refine Heavy2_w (n:=n+31) A1 D1 C1 fun h2 r E2 hr=>?_
 cases r with
 | true=>
  simp -implicitDefEqProofs (disch:=omega)
  exact K h2
 | false=>
  obtain ⟨r1,r2,r3,r4,r5⟩:=hr rfl
  have wf2:=wf.ex E2
  obtain ⟨_,_,_,LA2⟩:=Ask_ld wf2.B
  simp -implicitDefEqProofs (disch:=omega)
  unfold l1_JsonBack_25
  simp -implicitDefEqProofs (disch:=omega) [LA2]
  refine values_w (n:=n+8) (A1.fz E2 (Nat.le_refl _) (by simp)) (D1.fz E2 (Nat.le_refl _) (by simp)) (C1.fz E2 (Nat.le_refl _) (by simp)) r1 r2 (fun l hl=>?_) r4 fun h3 v ls R ok hl3 E3=>?_
  ·obtain ⟨q1,q2⟩:=r3 l hl
   exact ⟨by show List.length (α:=api_Json) l≤_;omega,fun x hx=>by have:=q2 x hx;omega⟩
  ·refine rounds_w (wf2.ex E3) R hl3 ok (n:=n) fun h4 e E4=>?_
   simp -implicitDefEqProofs (disch:=omega)
   unfold l1_JsonBack_24
   simp -implicitDefEqProofs (disch:=omega)
   refine Wakes_w (n:=n+33) ((wf2.ex E3).ex E4).pin ?_
   exact K h4
end Go.Bvm.JN
set_option linter.unusedVariables false
namespace Go.Bvm.JN
open Go.Bvm
theorem imp_str {w:World} (s:ByteArray) (hs:s.size≤maxB):Imp w [.string s] (s.data.toList:Str):=by
 intro φ h R F
 have hl:s.data.toList.length=s.size:=by simp
 refine ⟨φ,h,[vs s.data.toList],R,φ.le_refl,F,.refl h,⟨rfl,fun j x v a b=>?_⟩,rfl,by rw [hl];exact hs⟩
 cases j with
 | zero=>
  simp at a b
  subst a b
  refine ⟨?_,rfl⟩
  exact RV.s hl.symm rfl
 | succ j=>simp at a
theorem imp_int {w:World} (z:Int) (hz:inR z):Imp w [.int .i64 z] z:=by
 intro φ h R F
 refine ⟨φ,h,[wz z],R,φ.le_refl,F,.refl h,⟨rfl,fun j x v a b=>?_⟩,rfl,hz⟩
 cases j with
 | zero=>
  simp at a b
  subst a b
  refine ⟨?_,rfl⟩
  have:z=(((z+9223372036854775808).toNat:Nat):Int)-9223372036854775808:=by omega
  have r:=RV.w (φ:=φ) (n:=(z+9223372036854775808).toNat) (by omega)
  rw [← this] at r
  exact r
 | succ j=>simp at a
def ImpS {α:Type} [Enc α] (w:World) (v:Value) (xs:List α):Prop:=∀ (φ:Phi) (h:H),Rel φ h w→FO h→∃ φ' h' u,Rel φ' h' w∧φ.le φ'∧FO h'∧Keep h h'∧RV φ' u v∧Sl [] h' u xs
theorem impS_nil {α:Type} [Enc α] {w:World}:ImpS (α:=α) w (.slice none 0 0) []:=fun φ h R F=>⟨φ,h,slnil,R,φ.le_refl,F,.refl h,.slnil,.nil _ _⟩
theorem impS_row {α:Type} [Enc α] {w:World} {a:Addr} {len cap:Nat} (hn:1≤Enc.n α) (hlc:len≤cap) (hcap:0<cap) (hr:∀ i,i<cap→∃ l,w.cells? 0 (a.add (i*Enc.n α)) (Enc.n α)=some l) {ls:List (List Value)} {xs:List α} (hls:ls.length=len) (hxs:xs.length=len) (hm:len≤maxB)
  (hl:∀ (i:Nat) (l:List Value),ls[i]?=some l→w.cells? 0 (a.add (i*Enc.n α)) (Enc.n α)=some l) (hi:∀ (i:Nat) (l:List Value) (x:α),ls[i]?=some l→xs[i]?=some x→Imp w l x):ImpS w (.slice (some a) len cap) xs:=
 fun φ h R F=>imp_row hn hlc hcap hr hls hxs hm hl hi φ h R F
theorem imp_cell {w:World} {v:Value} {xs:List JF} (I:ImpS w v xs) (h1:v.oneCell'=true):Imp w [v] xs:=by
 intro φ h R F
 obtain ⟨φ',h',u,R',le,F',K,rv,S⟩:=I φ h R F
 refine ⟨φ',h',[u],R',le,F',K,⟨rfl,fun j x y a b=>?_⟩,u,rfl,S⟩
 cases j with
 | zero=>
  simp at a b
  subst a b
  exact ⟨rv,h1⟩
 | succ j=>simp at a
theorem imp_node {w:World} {kd nn:Int} {s:ByteArray} {v1 v2:Value} {ks:List Str} {ps:List Int} (hk:inR kd) (hn:inR nn) (hs:s.size≤maxB) (K:ImpS w v1 ks) (P:ImpS w v2 ps) (o1:v1.oneCell'=true) (o2:v2.oneCell'=true) :
  Imp (α:=JF) w [.int .i64 kd,.int .i64 nn,.string s,v1,v2] (⟨kd,nn,s.data.toList,ks,ps⟩ : api_Json):=by
 intro φ h R F
 obtain ⟨φ1,h1,u1,R1,le1,F1,K1,rv1,S1⟩:=K φ h R F
 obtain ⟨φ2,h2,u2,R2,le2,F2,K2,rv2,S2⟩:=P φ1 h1 R1 F1
 have int:∀ z:Int,inR z→RV φ2 (wz z) (.int .i64 z):=fun z hz=>by
  have:z=(((z+9223372036854775808).toNat:Nat):Int)-9223372036854775808:=by omega
  have r:=RV.w (φ:=φ2) (n:=(z+9223372036854775808).toNat) (by omega)
  rw [← this] at r
  exact r
 have hl:s.data.toList.length=s.size:=by simp
 refine ⟨φ2,h2,[wz kd,wz nn,vs s.data.toList,u1,u2],R2,Phi.le_trans le1 le2,F2,K1.trans K2,⟨rfl,fun j x v a b=>?_⟩,u1,u2,rfl,hk,hn,by show s.data.toList.length≤maxB;rw [hl];exact hs,S1.gx K2.1 fun id hi _ _=>K2.2 id hi,S2⟩
 match j,a,b with
 | 0,a,b=>simp at a b;subst a b;exact ⟨int _ hk,rfl⟩
 | 1,a,b=>simp at a b;subst a b;exact ⟨int _ hn,rfl⟩
 | 2,a,b=>simp at a b;subst a b;exact ⟨RV.s hl.symm rfl,rfl⟩
 | 3,a,b=>simp at a b;subst a b;exact ⟨rv1.mono le2,o1⟩
 | 4,a,b=>simp at a b;subst a b;exact ⟨rv2,o2⟩
 | n+5,a,b=>simp at a
theorem imp_ask {w:World} {v1 v2 v3:Value} {S Q:List Str} {L:List (List JF)} (I1:ImpS w v1 S) (I2:ImpS w v2 L) (I3:ImpS w v3 Q) (o:∀ v,v∈[v1,v2,v3]→v.oneCell'=true) (φ:Phi) (h:H) (R:Rel φ h w) (F:FO h) :
  ∃ φ' h' a b c,Rel φ' h' w∧φ.le φ'∧FO h'∧Keep h h'∧RV φ' (.x .agg (vl [a,b,c]) V.nil) (.agg ⟨[v1,v2,v3]⟩)∧Sl [] h' a S∧Sl [] h' b L∧Sl [] h' c Q:=by
 obtain ⟨φ1,h1,a,R1,le1,F1,K1,r1,S1⟩:=I1 φ h R F
 obtain ⟨φ2,h2,b,R2,le2,F2,K2,r2,S2⟩:=I2 φ1 h1 R1 F1
 obtain ⟨φ3,h3,c,R3,le3,F3,K3,r3,S3⟩:=I3 φ2 h2 R2 F2
 refine ⟨φ3,h3,a,b,c,R3,Phi.le_trans le1 (Phi.le_trans le2 le3),F3,K1.trans (K2.trans K3),.agg (.cons ((r1.mono le2).mono le3) (.cons (r2.mono le3) (.cons r3 .nil))) o,?_,S2.gx K3.1 fun id hi _ _=>K3.2 id hi,S3⟩
 have K:=K2.trans K3
 exact S1.gx K.1 fun id hi _ _=>K.2 id hi
end Go.Bvm.JN
set_option linter.unusedVariables false
namespace Go.Bvm
variable {H:Type} {enc:TypeId×Value→H} {P:Program} {w:World}
def HasCells (w:World):Prop:=∃ (B:Nat) (cs:Array Value) (el:Nat) (fr:Nat×Nat),w.heap[B]?=some (.cells cs el fr)
namespace JN
theorem impS_empty {α:Type} [Enc α] (hw:HasCells w) (a:Addr):ImpS (α:=α) w (.slice (some a) 0 0) []:=by
 intro φ h R F
 obtain ⟨B,cs,el,fr,hB⟩:=hw
 obtain ⟨φ',h',R',le,F',p1,B',n',o'⟩:=R.imp F (vs:=[]) (B:=B) (o:=0) hB (by simp) (fun i hi=>by simp at hi)
 have B2:Bk h' h.next 0 0 el false false []:=B'
 refine ⟨φ',h',.sl h.next 0 0 0 (Enc.n α),R',le,F',⟨by omega,fun i hi=>o'.2 i (by omega)⟩,RV.sl p1 (by simp) (Nat.le_refl _) (fun q=>absurd rfl q) (by simp),[],⟨fun c hc=>by simp at hc,by simp,.inr ⟨h.next,0,0,0,false,false,[],rfl,⟨by omega,by simp⟩,⟨el,B2,fun q=>by simp at q⟩,by simp,by simp⟩⟩,.nil _ _⟩
end JN
theorem weightsAll_mem {e:TypeId} {d:DataW H} {n:Nat}:∀ {l:List (DataW H)},d∈l→n∈d.weights P e→n∈DataW.weightsAll P e l
 | [],h,_=>by simp at h
 | x::r,h,k=>by
  unfold DataW.weightsAll
  rcases List.mem_cons.1 h with q | q
  ·rw [q] at k;exact List.mem_append_left _ k
  ·exact List.mem_append_right _ (weightsAll_mem q k)
abbrev Read (enc:TypeId×Value→H) (P:Program) (w:World) (t:TypeId) (cs:List Value) (d:DataW H):Prop:=∃ fu ps,DataW.trod enc P w 0 (fun _=>true) true fu t cs=some (d,ps)
def CanS (α:Type) [Enc α] (enc:TypeId×Value→H) (P:Program) (w:World) (t:TypeId):Prop:=∀ cs d,Read enc P w t cs d→(∀ n∈d.weights P t,n≤reachBytes)→∃ v,cs=[v]∧v.oneCell'=true∧∃ xs:List α,JN.ImpS w v xs
def Can (α:Type) [Enc α] (enc:TypeId×Value→H) (P:Program) (w:World) (t:TypeId):Prop:=∀ cs d,Read enc P w t cs d→(∀ n∈d.weights P t,n≤reachBytes)→∃ x:α,Imp w cs x
theorem canS {α:Type} [Enc α] {t e:TypeId} (hw:HasCells w) (ht:P.underlying t=some (.slice e)) (hc:P.cellsOf e=Enc.n α) (hn:1≤Enc.n α) (hb:1≤P.bytesOf e) (elem:Can α enc P w e):CanS α enc P w t:=by
 rintro cs d ⟨fu,ps,h⟩ hr
 have hm:maxB=140737488355328:=rfl
 have hre:reachBytes=140737488351232:=rfl
 rcases DataW.trod_slice ht h with ⟨rfl,hd⟩ | ⟨a,len,cap,elems,rest,n,rfl,rfl,hd,hbl,hlc,hcm,hel,h1,h2,_⟩
 ·exact ⟨_,rfl,rfl,[],JN.impS_nil⟩
 ·obtain ⟨hrl,h2⟩:=h2 rfl
  obtain ⟨rfl,rfl⟩:=Prod.mk.inj hd
  unfold DataW.weights at hr
  rw [ht] at hr
  simp only [List.length_map] at hr
  have hcap:cap≤reachBytes:=by
   have:=hr _ (List.mem_cons_self ..)
   have e1:elems.length+rest.length=cap:=by omega
   rw [e1] at this
   exact Nat.le_trans (Nat.le_mul_of_pos_right _ hb) this
  by_cases hc0:cap=0
  ·have:len=0:=by omega
   subst hc0 this
   exact ⟨_,rfl,rfl,[],JN.impS_empty hw a⟩
  ·rw [hc] at h1 h2
   have cells:∀ i,i<cap→∃ l,w.cells? 0 (a.add (i*Enc.n α)) (Enc.n α)=some l:=fun i hi=>by
    by_cases hil:i<len
    ·have:=h1 i hil
     rw [List.getElem?_eq_getElem (by omega),Option.bind_eq_some_iff] at this
     obtain ⟨l,e1,_⟩:=this
     exact ⟨l,e1⟩
    ·have:=h2 (i-len) (by omega)
     rw [List.getElem?_eq_getElem (by omega),Option.bind_eq_some_iff] at this
     obtain ⟨l,e1,_⟩:=this
     rw [show len+(i-len)=i by omega] at e1
     exact ⟨l,e1⟩
   have key:∀ i:Fin len,∃ p:List Value×α,w.cells? 0 (a.add (i.1*Enc.n α)) (Enc.n α)=some p.1∧Imp w p.1 p.2:=fun i=>by
    have:=h1 i.1 i.2
    have hi:i.1<elems.length:=by omega
    rw [List.getElem?_eq_getElem hi,Option.bind_eq_some_iff] at this
    obtain ⟨l,e1,e2⟩:=this
    obtain ⟨x,hx⟩:=elem l elems[i.1].1 ⟨n,elems[i.1].2,e2⟩ (fun m hm=>hr m (List.mem_cons_of_mem _ (List.mem_append_left _ (weightsAll_mem (List.mem_map.2 ⟨_,List.getElem_mem hi,rfl⟩) hm))))
    exact ⟨(l,x),e1,hx⟩
   obtain ⟨f,hf⟩:=Classical.axiomOfChoice key
   refine ⟨_,rfl,rfl,List.ofFn (fun i=>(f i).2),JN.impS_row hn hlc (by omega) cells (ls:=List.ofFn (fun i=>(f i).1)) (by simp) (by simp) (by omega) (fun i l hi=>?_) (fun i l x hi hx=>?_)⟩
   ·rw [List.getElem?_ofFn] at hi
    split at hi
    ·rename_i hlt
     have:=(hf ⟨i,hlt⟩).1
     cases hi
     exact this
    ·simp at hi
   ·rw [List.getElem?_ofFn] at hi hx
    split at hi
    ·rename_i hlt
     rw [dif_pos hlt] at hx
     cases hi
     cases hx
     exact (hf ⟨i,hlt⟩).2
    ·simp at hi
namespace JN
theorem can_str {t:TypeId} (ht:P.underlying t=some .string):Can Str enc P w t:=by
 rintro cs d ⟨fu,ps,h⟩ hr
 have hm:maxB=140737488355328:=rfl
 have hre:reachBytes=140737488351232:=rfl
 obtain ⟨s,rfl,hd,_⟩:=DataW.trod_string ht h
 obtain ⟨rfl,rfl⟩:=Prod.mk.inj hd
 unfold DataW.weights at hr
 have:=hr _ (List.mem_cons_self ..)
 have e:s.data.toList.length=s.size:=by simp
 exact ⟨_,imp_str s (by omega)⟩
theorem can_int {t:TypeId} (ht:P.underlying t=some (.int .i64)):Can Int enc P w t:=by
 rintro cs d ⟨fu,ps,h⟩ hr
 obtain ⟨z,rfl,hd,hz⟩:=DataW.trod_int ht h
 simp [Lit.wf,IntKind.min,IntKind.max,IntKind.signed,IntKind.bits] at hz
 exact ⟨z,imp_int z (by unfold inR;omega)⟩
end JN
theorem weightsEach_mem:∀ {ts:List TypeId} {ds:List (DataW H)} {i:Nat} {t:TypeId} {d:DataW H} {n:Nat},ts[i]?=some t→ds[i]?=some d→n∈d.weights P t→n∈DataW.weightsEach P ts ds
 | [],_,_,_,_,_,h,_,_=>by simp at h
 | _::_,[],_,_,_,_,_,h,_=>by simp at h
 | t0::ts,d0::ds,0,t,d,n,h1,h2,h3=>by
  simp at h1 h2
  subst h1 h2
  unfold DataW.weightsEach
  exact List.mem_append_left _ h3
 | t0::ts,d0::ds,i+1,t,d,n,h1,h2,h3=>by
  unfold DataW.weightsEach
  exact List.mem_append_right _ (weightsEach_mem (i:=i) (by simpa using h1) (by simpa using h2) h3)
def flds (P:Program) (t:TypeId):Option (List (Nat×Nat)):=match P.underlying t with
 | some (.struct fs)=>some (fs.toList.map fun f=>(f.type,f.offset))
 | _=>none
theorem read_struct {t:TypeId} {l:List (Nat×Nat)} {cs:List Value} {d:DataW H} (h:flds P t=some l) (r:Read enc P w t cs d):cs.length=P.cellsOf t∧
  ∀ (i ty o:Nat),l[i]?=some (ty,o)→∃ di,Read enc P w ty ((cs.drop o).take (P.cellsOf ty)) di∧∀ n∈di.weights P ty,n∈d.weights P t:=by
 unfold flds at h
 split at h
 rotate_left
 ·simp at h
 rename_i fs ht
 obtain rfl:=Option.some.inj h
 obtain ⟨fu,ps,r⟩:=r
 obtain ⟨xs,n,rfl,hd,hl,hxl,hx⟩:=DataW.trod_struct ht r
 obtain ⟨rfl,rfl⟩:=Prod.mk.inj hd
 refine ⟨hl,fun i ty o hi=>?_⟩
 rw [List.getElem?_map,Option.map_eq_some_iff] at hi
 obtain ⟨f,hf,he⟩:=hi
 cases he
 have hi:i<xs.length:=by
  have:=(List.getElem?_eq_some_iff.1 hf).1
  simpa [hxl] using this
 have:=hx i f (by simpa using hf)
 rw [List.getElem?_eq_getElem hi] at this
 refine ⟨xs[i].1,⟨n,xs[i].2,this⟩,fun m hm=>?_⟩
 unfold DataW.weights
 rw [ht]
 exact weightsEach_mem (i:=i) (by rw [List.getElem?_map,hf];rfl) (by rw [List.getElem?_map,List.getElem?_eq_getElem hi];rfl) hm
namespace JN
theorem can_node {t t0 t1 t2 t3 t4:TypeId} (hf:flds P t=some [(t0,0),(t1,1),(t2,2),(t3,3),(t4,4)]) (hc:P.cellsOf t=5) (c0:P.cellsOf t0=1) (c1:P.cellsOf t1=1) (c2:P.cellsOf t2=1) (c3:P.cellsOf t3=1) (c4:P.cellsOf t4=1)
  (u0:P.underlying t0=some (.int .i64)) (u1:P.underlying t1=some (.int .i64)) (u2:P.underlying t2=some .string) (u3:CanS Str enc P w t3) (u4:CanS Int enc P w t4):Can JF enc P w t:=by
 intro cs d r hr
 have hm:maxB=140737488355328:=rfl
 have hre:reachBytes=140737488351232:=rfl
 obtain ⟨hl,hx⟩:=read_struct hf r
 rw [hc] at hl
 match cs,hl with
 | [a0,a1,a2,a3,a4],_=>
  obtain ⟨d0,r0,w0⟩:=hx 0 t0 0 rfl
  obtain ⟨d1,r1,w1⟩:=hx 1 t1 1 rfl
  obtain ⟨d2,r2,w2⟩:=hx 2 t2 2 rfl
  obtain ⟨d3,r3,w3⟩:=hx 3 t3 3 rfl
  obtain ⟨d4,r4,w4⟩:=hx 4 t4 4 rfl
  rw [c0] at r0;rw [c1] at r1;rw [c2] at r2;rw [c3] at r3;rw [c4] at r4
  simp only [List.drop_zero,List.take_succ_cons,List.take_zero,List.drop_succ_cons] at r0 r1 r2 r3 r4
  obtain ⟨_,_,r0⟩:=r0
  obtain ⟨_,_,r1⟩:=r1
  obtain ⟨_,_,r2⟩:=r2
  obtain ⟨z0,e0,_,h0⟩:=DataW.trod_int u0 r0
  obtain ⟨z1,e1,_,h1⟩:=DataW.trod_int u1 r1
  obtain ⟨s,e2,hd2,_⟩:=DataW.trod_string u2 r2
  simp at e0 e1 e2
  subst e0 e1 e2
  simp [Lit.wf,IntKind.min,IntKind.max,IntKind.signed,IntKind.bits] at h0 h1
  obtain ⟨v3,e3,o3,ks,I3⟩:=u3 _ _ r3 (fun n hn=>hr n (w3 n hn))
  obtain ⟨v4,e4,o4,qs,I4⟩:=u4 _ _ r4 (fun n hn=>hr n (w4 n hn))
  simp at e3 e4
  subst e3 e4
  obtain ⟨rfl,_⟩:=Prod.mk.inj hd2
  have hs:s.size≤maxB:=by
   have:=hr _ (w2 s.data.toList.length (by unfold DataW.weights;exact List.mem_cons_self ..))
   have e:s.data.toList.length=s.size:=by simp
   omega
  exact ⟨_,imp_node (by unfold inR;omega) (by unfold inR;omega) hs I3 I4 o3 o4⟩
theorem can_cell {t:TypeId} (h:CanS JF enc P w t):Can (List JF) enc P w t:=by
 intro cs d r hr
 obtain ⟨v,rfl,o,xs,I⟩:=h cs d r hr
 exact ⟨xs,imp_cell I o⟩
theorem can_ask {t t0 t1 t2:TypeId} {base:Nat} {v:Value} {d:DataW H} (hf:flds P t=some [(t0,0),(t1,1),(t2,2)]) (hc:P.cellsOf t=3) (c0:P.cellsOf t0=1) (c1:P.cellsOf t1=1) (c2:P.cellsOf t2=1)
  (u0:CanS Str enc P w t0) (u1:CanS (List JF) enc P w t1) (u2:CanS Str enc P w t2) (hv:Value.okWide P w .any base t v) (r:Read enc P w t v.cells.toList d) (hr:∀ n∈d.weights P t,n≤reachBytes) (φ:Phi) (h:Go.Bvm.H) (R:Rel φ h w) (F:FO h) :
  ∃ (S Q:List Str) (L:List (List JF)) (φ':Phi) (h':Go.Bvm.H) (a b c:V),Rel φ' h' w∧φ.le φ'∧FO h'∧Keep h h'∧RV φ' (.x .agg (vl [a,b,c]) V.nil) v∧Sl [] h' a S∧Sl [] h' b L∧Sl [] h' c Q:=by
 obtain ⟨l,rfl⟩ : ∃ l:List Value,v=.agg ⟨l⟩:=by
  have hf':=hf
  unfold flds at hf'
  split at hf'
  ·rename_i fs ht
   unfold Value.okWide at hv
   rw [ht] at hv
   obtain ⟨⟨l⟩,rfl,_⟩:=hv
   exact ⟨l,rfl⟩
  ·simp at hf'
 have r:Read enc P w t l d:=r
 obtain ⟨hl,hx⟩:=read_struct hf r
 rw [hc] at hl
 match l,hl with
 | [a0,a1,a2],_=>
  obtain ⟨d0,r0,w0⟩:=hx 0 t0 0 rfl
  obtain ⟨d1,r1,w1⟩:=hx 1 t1 1 rfl
  obtain ⟨d2,r2,w2⟩:=hx 2 t2 2 rfl
  rw [c0] at r0;rw [c1] at r1;rw [c2] at r2
  simp only [List.drop_zero,List.take_succ_cons,List.take_zero,List.drop_succ_cons] at r0 r1 r2
  obtain ⟨v0,e0,o0,S,I0⟩:=u0 _ _ r0 (fun n hn=>hr n (w0 n hn))
  obtain ⟨v1,e1,o1,L,I1⟩:=u1 _ _ r1 (fun n hn=>hr n (w1 n hn))
  obtain ⟨v2,e2,o2,Q,I2⟩:=u2 _ _ r2 (fun n hn=>hr n (w2 n hn))
  simp at e0 e1 e2
  subst e0 e1 e2
  obtain ⟨φ',h',a,b,c,q⟩:=imp_ask I0 I1 I2 (fun v hv=>by simp at hv;rcases hv with rfl | rfl | rfl <;> assumption) φ h R F
  exact ⟨S,Q,L,φ',h',a,b,c,q⟩
end JN
end Go.Bvm
