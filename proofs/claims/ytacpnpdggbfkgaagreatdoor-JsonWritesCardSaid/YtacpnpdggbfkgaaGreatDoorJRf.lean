/- Functions run by the abstract machine on values that are not all known. Conditions: stated in each theorem. -/
import Derived.Test.YtacpnpdggbfkgaaGreatDoorJRe
import Derived.ChangeArms
set_option linter.unusedVariables false
set_option linter.unusedSimpArgs false
set_option linter.unusedVariables false
set_option linter.unusedSimpArgs false
set_option maxRecDepth 20000
namespace Go.Bvm.JN
open Go.Bvm
namespace P
theorem parse_snoc:∀ (u:List UInt8) (acc v d:Nat),Lib.parseUint10 acc u=.ok v→v≤100000000→d≤9→Lib.parseUint10 acc (u++[UInt8.ofNat (48+d)])=.ok (v*10+d)
 | [],acc,v,d,h,hv,hd=>by
  have e:(UInt8.ofNat (48+d)).toNat=48+d:=by simp;omega
  simp only [Lib.parseUint10] at h
  injection h with h
  subst h
  rw [List.nil_append,Lib.parseUint10,e,if_pos (by omega),if_neg (by omega),if_neg (by omega),Lib.parseUint10]
  congr 1;omega
 | c::r,acc,v,d,h,hv,hd=>by
  rw [List.cons_append,Lib.parseUint10]
  rw [Lib.parseUint10] at h
  split at h
  ·rename_i q
   rw [if_pos q]
   split at h
   ·cases h
   ·rename_i q2
    rw [if_neg q2]
    split at h
    ·cases h
    ·rename_i q3
     rw [if_neg q3]
     exact parse_snoc r _ v d h hv hd
  ·cases h
theorem parse_dec:∀ (f m:Nat),m<10 ^ f→m≤100000000→Lib.parseUint10 0 (Lib.decDigits m)=.ok m
 | 0,m,h,h2=>by
  have:m=0:=by simp at h;exact h
  subst this
  rw [Lib.decDigits,dif_pos (by omega)]
  have:=parse_snoc [] 0 0 0 (by rw [Lib.parseUint10]) (by omega) (by omega)
  simpa using this
 | f+1,m,h,h2=>by
  rw [Lib.decDigits]
  split
  ·rename_i q
   have:=parse_snoc [] 0 0 m (by rw [Lib.parseUint10]) (by omega) (by omega)
   simpa using this
  ·have:=parse_snoc _ 0 (m / 10) (m % 10) (parse_dec f (m / 10) (by rw [Nat.pow_succ] at h;omega) (by omega)) (by omega) (by omega)
   rw [this];congr 1;omega
theorem dec_head (m:Nat):∃ c r,Lib.decDigits m=c::r∧48≤c.toNat∧c.toNat≤57:=by
 have:∀ (f m:Nat),m<10 ^ (f+1)→∃ c r,Lib.decDigits m=c::r∧48≤c.toNat∧c.toNat≤57:=fun f=>by
  induction f with
  | zero=>
   intro m h
   have e:(UInt8.ofNat (48+m)).toNat=48+m:=by simp;simp at h;omega
   exact ⟨_,[],by rw [Lib.decDigits,dif_pos (by simpa using h)],by omega,by simp at h;omega⟩
  | succ f ih=>
   intro m h
   rw [Lib.decDigits]
   split
   ·rename_i q
    have e:(UInt8.ofNat (48+m)).toNat=48+m:=by simp;omega
    exact ⟨_,[],rfl,by omega,by omega⟩
   ·obtain ⟨c,r,e,h1,h2⟩:=ih (m / 10) (by rw [Nat.pow_succ] at h;omega)
    exact ⟨c,r++[UInt8.ofNat (48+m % 10)],by rw [e];rfl,h1,h2⟩
 exact this m m (Nat.lt_of_lt_of_le (Nat.lt_pow_self (by omega)) (Nat.pow_le_pow_right (by omega) (by omega)))
theorem atoi_itoa {k:Nat} (hk:k≤1000000):Lib.atoiAll (Lib.itoa (k:Int))=.ok (k:Int):=by
 have e:Lib.itoa (k:Int)=Lib.decDigits k:=by unfold Lib.itoa;rw [if_neg (by omega)];rfl
 obtain ⟨c,r,hc,h1,h2⟩:=dec_head k
 have hp:=parse_dec 8 k (by omega) (by omega)
 rw [e,hc] at *
 unfold Lib.atoiAll
 dsimp only
 rw [if_neg (by omega)]
 unfold Lib.parseMag
 rw [if_neg (by simp),hp]
 dsimp only
 rw [if_neg (by omega),if_neg (by omega),if_neg (by omega)]
theorem next_no {x:api_Json} {s:Str}:∀ k,(∀ j,j<k→R.hit x s j=false)→R.next x s k=-1
 | 0,_=>rfl
 | k+1,h=>by rw [R.next,h k (by omega)];exact next_no k fun j hj=>h j (by omega)
theorem next_one {x:api_Json} {s:Str} {m:Nat}:∀ k,m<k→R.hit x s m=true→(∀ j,j<k→R.hit x s j=true→j=m)→R.next x s k=x.Parts.getD m 0
 | 0,h,_,_=>by omega
 | k+1,h,hm,hu=>by
  rw [R.next]
  by_cases e:k=m
  ·subst e;rw [if_pos hm]
  ·have:R.hit x s k=false:=by
    cases q:R.hit x s k with
    | true=>exact absurd (hu k (by omega) q) e
    | false=>rfl
   rw [this]
   exact next_one k (by omega) hm fun j hj=>hu j (by omega)
theorem idxS_at (s:Str):∀ (xs:List Str) (i:Int),0≤i→0≤idxS s xs i→xs[(idxS s xs i-i).toNat]?=some s∧i≤idxS s xs i
 | [],i,h,q=>by unfold idxS at q;omega
 | a::r,i,h,q=>by
  unfold idxS at q ⊢
  split
  ·rename_i e;rw [e];simp
  ·rename_i e
   rw [if_neg e] at q
   obtain ⟨h1,h2⟩:=idxS_at s r (i+1) (by omega) q
   refine ⟨?_,by omega⟩
   rw [show (idxS s r (i+1)-i).toNat=(idxS s r (i+1)-(i+1)).toNat+1 by omega]
   simpa using h1
theorem step_eq {x:api_Json} {s:Str} (h:node x=true) (hp:x.Parts.length≤4096):step x s=R.next x s x.Parts.length:=by
 have hn:=h
 unfold node at h
 simp only [Bool.and_eq_true,decide_eq_true_eq] at h
 obtain ⟨_,hr⟩:=h
 by_cases c7:x.Kind=7
 ·rw [if_pos c7] at hr
  simp only [Bool.and_eq_true,decide_eq_true_eq] at hr
  have hkl:=hr.1.1
  have hnd:x.Keys.Nodup:=by
   have:=hr.2
   unfold twice at this
   simpa using this
  have hhit:∀ j,j<x.Parts.length→(R.hit x s j=true↔x.Keys[j]?=some s):=fun j hj=>by
   have ek:x.Keys.getD j []=x.Keys[j]'(by omega):=by rw [List.getD_eq_getElem?_getD,List.getElem?_eq_getElem (by omega)];rfl
   unfold R.hit
   rw [ek,List.getElem?_eq_getElem (by omega)]
   simp [c7]
  have hk:stepK x s=idxS s x.Keys 0:=by unfold stepK;rw [if_neg (by omega)]
  unfold step
  rw [hk]
  by_cases q:idxS s x.Keys 0<0
  ·rw [if_pos q]
   refine (next_no _ fun j hj=>?_).symm
   cases z:R.hit x s j with
   | false=>rfl
   | true=>
    have:=(hhit j hj).1 z
    have hm:s∈x.Keys:=List.mem_iff_getElem?.2 ⟨j,this⟩
    have:=(idxS_bd s x.Keys 0 (by omega)).2.2.2 hm
    omega
  ·rw [if_neg q]
   obtain ⟨h1,h2⟩:=idxS_at s x.Keys 0 (by omega) (by omega)
   rw [Int.sub_zero] at h1
   have hlt:(idxS s x.Keys 0).toNat<x.Keys.length:=(List.getElem?_eq_some_iff.1 h1).1
   refine (next_one _ (by omega) ((hhit _ (by omega)).2 h1) fun j hj hjh=>?_).symm
   have h3:=(hhit j hj).1 hjh
   exact (List.getElem?_inj (by omega) hnd).1 (h3.trans h1.symm)
 ·rw [if_neg c7] at hr
  simp only [Bool.and_eq_true,Bool.or_eq_true,decide_eq_true_eq] at hr
  by_cases c6:x.Kind=6
  ·have hhit:∀ j,R.hit x s j=true↔Lib.itoa (j:Int)=s:=fun j=>by unfold R.hit;simp [c6,c7]
   have none_:(∀ j,j<x.Parts.length→Lib.itoa (j:Int)≠s)→R.next x s x.Parts.length=-1:=fun hno=>next_no _ fun j hj=>by
    cases z:R.hit x s j with
    | false=>rfl
    | true=>exact absurd ((hhit j).1 z) (hno j hj)
   by_cases hok:∃ z,Lib.atoiAll s=.ok z
   ·obtain ⟨z,hz⟩:=hok
    have hk:stepK x s=if Lib.itoa z=s∧0≤z∧z<x.Parts.length then z else -1:=by unfold stepK;rw [if_pos c6,hz]
    by_cases q:Lib.itoa z=s∧0≤z∧z<x.Parts.length
    ·rw [if_pos q] at hk
     unfold step
     rw [hk,if_neg (by omega)]
     have ez:Lib.itoa ((z.toNat:Nat):Int)=s:=by rw [Int.toNat_of_nonneg q.2.1];exact q.1
     refine (next_one _ (by omega) ((hhit _).2 ez) fun j hj hjh=>?_).symm
     have h1:=(hhit j).1 hjh
     have h2:=atoi_itoa (k:=j) (by omega)
     rw [h1,hz] at h2
     injection h2 with h2
     omega
    ·rw [if_neg q] at hk
     unfold step
     rw [hk,if_pos (by omega)]
     refine (none_ fun j hj e=>?_).symm
     have h2:=atoi_itoa (k:=j) (by omega)
     rw [e,hz] at h2
     injection h2 with h2
     subst h2
     exact q ⟨e,by omega,by omega⟩
   ·have hno:∀ z,Lib.atoiAll s≠.ok z:=fun z hz=>hok ⟨z,hz⟩
    have hk:stepK x s=-1:=by
     unfold stepK
     rw [if_pos c6]
     split
     ·rename_i z hz;exact absurd hz (hno z)
     ·rfl
    unfold step
    rw [hk,if_pos (by omega)]
    refine (none_ fun j hj e=>?_).symm
    have h2:=atoi_itoa (k:=j) (by omega)
    rw [e] at h2
    exact hno _ h2
  ·have hP:=hr.2.resolve_left c6
   have hk:stepK x s=-1:=by unfold stepK;rw [if_neg c6,hr.1];rfl
   unfold step
   rw [hk,if_pos (by omega),hP];rfl
theorem get_eq {l:List api_Json} {all:List Shp} (O:Ok l all) (hB:∀ x∈l,x.Parts.length≤4096):∀ (path:List Str) (a:Nat),get l path a=R.get l path a
 | [],a=>rfl
 | s::r,a=>by
  rw [get,R.get]
  cases hx:l[a]? with
  | none=>rfl
  | some x=>
   dsimp only
   rw [step_eq (O.at_ a x hx).1 (hB x (List.mem_of_getElem? hx)),get_eq O hB r]
end P
end Go.Bvm.JN
set_option linter.unusedVariables false
set_option linter.unusedSimpArgs false
set_option maxRecDepth 20000
namespace Go.Bvm.JN
open Go.Bvm
theorem exC {c b:Nat} {M:List Nat} {h h1 h2:H} (A:Ex h h1) (B:Fz c b M h1 h2) (hc:h.next≤c):Ex h h2:=⟨Nat.le_trans A.nx B.nx,fun j hj=>(B.lo j (by omega)).trans (A.lo j hj),fun j hj _=>(B.lo j (by omega)).trans (A.lo j hj)⟩
def JC (c0:Nat):Type:=api_Json
instance (c0:Nat):Enc (JC c0):=⟨5,Ty_api_Json,[0,kR Ty_string,kO Ty_string,kR Ty_int,kO Ty_int],fun X h c (x:api_Json)=>∃ v1 v2,c=[wz x.Kind,wz x.N,vs x.S,v1,v2]∧inR x.Kind∧inR x.N∧x.S.length≤maxB∧SlO X c0 h v1 x.Keys∧SlO X c0 h v2 x.Parts,fun r=>by obtain ⟨v1,v2,e,f0,f1,f2,f3,f4⟩:=r;rw [e];rfl,fun r n1 F=>by obtain ⟨v1,v2,e,f0,f1,f2,f3,f4⟩:=r;exact ⟨v1,v2,e,f0,f1,f2,f3.gx n1 fun id a b c=>F id a b (mem_of c (by decide)),f4.gx n1 fun id a b c=>F id a b (mem_of c (by decide))⟩,fun r hx=>by obtain ⟨v1,v2,e,f0,f1,f2,f3,f4⟩:=r;exact ⟨v1,v2,e,f0,f1,f2,f3.xm hx,f4.xm hx⟩⟩
theorem JC.mono {c c':Nat} {X:List Nat} {h:H} {cs:List V} {x:api_Json} (r:Enc.rep (α:=JC c) X h cs x) (hc:c'≤c):Enc.rep (α:=JC c') X h cs x:=by
 obtain ⟨v1,v2,e,f0,f1,f2,f3,f4⟩:=r
 exact ⟨v1,v2,e,f0,f1,f2,f3.mono hc,f4.mono hc⟩
theorem CopyStrings_w {Z:List Nat} {h:H} {v:V} {l:List Str} (A:Sl Z h v l) (hl:l.length≤1000000) {n:Nat} {k:KV} (K:∀ h' w,SlO [] h.next h' w l→Ex h h'→k w h'=true):run tbl (n+1) Nf_z_CopyStrings (vl [v]) h k=true:=by
 rw [run_succ,tbl_z_CopyStrings]
 unfold T_z_CopyStrings z_CopyStrings_5 z_CopyStrings_3
 simp -implicitDefEqProofs (disch:=omega)
 refine loop_w (fun m e h'=>∃ (i:Nat) (w:V),m=l.length-i∧i≤l.length∧e=f8 slnil (wz i) v w V.u V.u V.u V.u∧SlO [] h.next h' w (l.take i)∧Ex h h') ?_ big l.length _ _ ⟨0,slnil,rfl,by omega,rfl,by simpa using SlO.nil _ _ _,Fz.refl _ _ _ _⟩ (by unfold big;omega)
 rintro m e h1 ⟨i,w,rfl,hi,rfl,S,E1⟩ K' Kn Kx Kr
 have A1:=A.fz E1 (Nat.le_refl _) (by simp)
 unfold z_CopyStrings_0
 by_cases hi2:i<l.length
 ·have hi3:(i:Int)<l.length:=by omega
  obtain ⟨hb,a1,a2⟩:=at_Str A1 hi2
  unfold z_CopyStrings_1 z_CopyStrings_2
  simp -implicitDefEqProofs (disch:=omega) [A1.lenL,hi3,a1,a2]
  refine S.app1 (x:=l[i]) ⟨rfl,hb⟩ (by decide) rfl (by decide) (by show ((l.take i).length+1)*1≤_;simp;omega) E1.nx (by simp) (by decide) fun h2 w2 S2 _ _ F2=>?_
  refine Kn _ _ _ (by omega) ⟨i+1,w2,rfl,by omega,by simp,by rw [List.take_succ_eq_append_getElem hi2];exact S2,exC E1 F2 (Nat.le_refl _)⟩
 ·have hi3:¬ (i:Int)<l.length:=by omega
  simp -implicitDefEqProofs (disch:=omega) [A1.lenL,hi3]
  refine Kx _ _ _ ?_
  unfold z_CopyStrings_4
  simp -implicitDefEqProofs (disch:=omega)
  rw [List.take_of_length_le (by omega)] at S
  exact K h1 w S E1
theorem CopyNumbers_w {Z:List Nat} {h:H} {v:V} {l:List Int} (A:Sl Z h v l) (hl:l.length≤1000000) {n:Nat} {k:KV} (K:∀ h' w,SlO [] h.next h' w l→Ex h h'→k w h'=true):run tbl (n+1) Nf_z_CopyNumbers (vl [v]) h k=true:=by
 rw [run_succ,tbl_z_CopyNumbers]
 unfold T_z_CopyNumbers z_CopyNumbers_5 z_CopyNumbers_3
 simp -implicitDefEqProofs (disch:=omega)
 refine loop_w (fun m e h'=>∃ (i:Nat) (w:V),m=l.length-i∧i≤l.length∧e=f8 slnil (wz i) v w V.u V.u V.u V.u∧SlO [] h.next h' w (l.take i)∧Ex h h') ?_ big l.length _ _ ⟨0,slnil,rfl,by omega,rfl,by simpa using SlO.nil _ _ _,Fz.refl _ _ _ _⟩ (by unfold big;omega)
 rintro m e h1 ⟨i,w,rfl,hi,rfl,S,E1⟩ K' Kn Kx Kr
 have A1:=A.fz E1 (Nat.le_refl _) (by simp)
 unfold z_CopyNumbers_0
 by_cases hi2:i<l.length
 ·have hi3:(i:Int)<l.length:=by omega
  obtain ⟨hb,a1,a2⟩:=at_Int A1 hi2
  unfold z_CopyNumbers_1 z_CopyNumbers_2
  simp -implicitDefEqProofs (disch:=omega) [A1.lenL,hi3,a1,a2]
  refine S.app1 (x:=l[i]) ⟨rfl,hb⟩ (by decide) rfl (by decide) (by show ((l.take i).length+1)*1≤_;simp;omega) E1.nx (by simp) (by decide) fun h2 w2 S2 _ _ F2=>?_
  refine Kn _ _ _ (by omega) ⟨i+1,w2,rfl,by omega,by simp,by rw [List.take_succ_eq_append_getElem hi2];exact S2,exC E1 F2 (Nat.le_refl _)⟩
 ·have hi3:¬ (i:Int)<l.length:=by omega
  simp -implicitDefEqProofs (disch:=omega) [A1.lenL,hi3]
  refine Kx _ _ _ ?_
  unfold z_CopyNumbers_4
  simp -implicitDefEqProofs (disch:=omega)
  rw [List.take_of_length_le (by omega)] at S
  exact K h1 w S E1
theorem CopyJson_w {Z:List Nat} {h:H} {x:api_Json} {v1 v2:V} (f0:inR x.Kind) (f1:inR x.N) (f2:x.S.length≤maxB) (f3:Sl Z h v1 x.Keys) (f4:Sl Z h v2 x.Parts) (hk:x.Keys.length≤1000000) (hp:x.Parts.length≤1000000) {n:Nat} {k:KV}
  (K:∀ h' cs,Enc.rep (α:=JC h.next) [] h' cs x→Ex h h'→k (.x .agg (vl cs) V.nil) h'=true):run tbl (n+2) Nf_z_CopyJson (vl [.x .agg (vl [wz x.Kind,wz x.N,vs x.S,v1,v2]) V.nil]) h k=true:=by
 rw [run_succ,tbl_z_CopyJson]
 unfold T_z_CopyJson z_CopyJson_1
 simp -implicitDefEqProofs (disch:=omega)
 refine newA_w rfl (by decide) (by decide) fun h1 n1 B1 x1=>?_
 have hn1:h1.next=h.next+1:=n1
 have E1:Ex h h1:=x1.ex (Nat.le_refl _)
 refine newA_w rfl (by decide) (by decide) fun h2 n2 B2 x2=>?_
 have hn2:h2.next=h1.next+1:=n2
 have E2:Ex h1 h2:=x2.ex (Nat.le_refl _)
 unfold z_CopyJson_0
 have B1':=B1.fz E2 (by omega) (by simp)
 have Da:=B1'.lda (m:=5) rfl (off:=0) (n:=5) (lim:=5) (by decide) (by decide)
 simp -implicitDefEqProofs (disch:=omega) [Da]
 refine newA_w rfl (by decide) (by decide) fun h3 n3 B3 x3=>?_
 have hn3:h3.next=h2.next+1:=n3
 have E3:Ex h2 h3:=x3.ex (Nat.le_refl _)
 refine sta_w B3 rfl (by simp) (by simp) fun h4 n4 B4 x4=>?_
 have B4:Bk h4 h2.next 0 0 Ty_api_Json true true [wz x.Kind,wz x.N,vs x.S,v1,v2]:=B4
 have E4:Ex h2 h4:=⟨by omega,fun j hj=>(x4.2 j (by omega)).trans (E3.lo j hj),fun j hj _=>(x4.2 j (by omega)).trans (E3.lo j hj)⟩
 have E04:Ex h h4:=(E1.loc E2 (by omega) (by omega)).loc E4 (by omega) (by omega)
 have B14:=B1'.fz E4 (by omega) (by simp)
 have B24:=B2.fz E4 (by omega) (by simp)
 have La:=fun {o m}=>B14.ld (n:=5) rfl (off:=o) (lim:=m)
 simp -implicitDefEqProofs (disch:=omega) [La]
 refine CopyStrings_w (n:=n) (f3.fz E04 (Nat.le_refl _) (by simp)) hk fun h5 w1 S5 E5=>?_
 have n5:=E5.nx
 refine st_w (B4.fz E5 (by omega) (by simp)) (by simp) (by simp) S5.sl.one fun h6 n6 B6 x6=>?_
 have B6:Bk h6 h2.next 0 0 Ty_api_Json true true [wz x.Kind,wz x.N,vs x.S,w1,v2]:=B6
 have F56:Fz h2.next h4.next [kO Ty_api_Json] h4 h6:=⟨by omega,fun j hj=>(x6.2 j (by omega)).trans (E5.lo j (by omega)),fun j hj hm=>by
  by_cases e:j=h2.next
  ·subst e
   rw [B4.kd] at hm
   exact absurd (List.mem_singleton.2 rfl) hm
  ·exact (x6.2 j e).trans (E5.lo j hj)⟩
 have E06:Ex h h6:=exC E04 F56 (by omega)
 have S6:SlO [] h4.next h6 w1 x.Keys:=S5.fz ((Fz.refl h4.next h5.next [kO Ty_api_Json] h5).mono (c:=0) (Nat.zero_le _) (Nat.le_refl _) (fun _ k=>k) |>.put x6 (Nat.zero_le _) (.inr (by rw [(B4.fz E5 (by omega) (by simp)).kd];exact List.mem_cons_self))) (Nat.le_refl _) (by decide)
 have B16:=B14.eq ((x6.2 h.next (by omega)).trans (E5.lo h.next (by omega)))
 have La:=fun {o m}=>B16.ld (n:=5) rfl (off:=o) (lim:=m)
 simp -implicitDefEqProofs (disch:=omega) [La]
 refine CopyNumbers_w (n:=n) (f4.fz E06 (Nat.le_refl _) (by simp)) hp fun h7 w2 S7 E7=>?_
 have n7:=E7.nx
 have S67:=S6.fz E7 (Nat.le_refl _) (by simp)
 refine st_w (B6.fz E7 (by omega) (by simp)) (by simp) (by simp) S7.sl.one fun h8 n8 B8 x8=>?_
 have B8:Bk h8 h2.next 0 0 Ty_api_Json true true [wz x.Kind,wz x.N,vs x.S,w1,w2]:=B8
 have F78:Fz 0 h7.next [kO Ty_api_Json] h7 h8:=(Fz.refl 0 h7.next [kO Ty_api_Json] h7).put x8 (Nat.zero_le _) (.inr (by rw [(B6.fz E7 (by omega) (by simp)).kd];exact List.mem_cons_self))
 have S68:=S67.fz F78 (Nat.le_refl _) (by decide)
 have S78:=S7.fz F78 (Nat.le_refl _) (by decide)
 have Db:=B8.lda (m:=5) rfl (off:=0) (n:=5) (lim:=5) (by decide) (by decide)
 have E08:Ex h h8:=⟨by have:=E06.nx;omega,fun j hj=>(x8.2 j (by omega)).trans ((E7.lo j (by have:=E06.nx;omega)).trans (E06.lo j hj)),fun j hj _=>(x8.2 j (by omega)).trans ((E7.lo j (by have:=E06.nx;omega)).trans (E06.lo j hj))⟩
 have B28:Bk h8 h1.next 0 0 Ty_api_Json true true [wz 0,wz 0,vs [],slnil,slnil]:=(((B24.fz E5 (by omega) (by simp)).only x6 (by omega)).fz E7 (by omega) (by simp)).only x8 (by omega)
 simp -implicitDefEqProofs (disch:=omega) [Db]
 refine sta_w B28 rfl (by simp) (by simp) fun h9 n9 B9 x9=>?_
 have B9:Bk h9 h1.next 0 0 Ty_api_Json true true [wz x.Kind,wz x.N,vs x.S,w1,w2]:=B9
 have F89:Fz 0 h8.next [kO Ty_api_Json] h8 h9:=(Fz.refl 0 h8.next [kO Ty_api_Json] h8).put x9 (Nat.zero_le _) (.inr (by rw [B28.kd];exact List.mem_cons_self))
 have Dc:=B9.lda (m:=5) rfl (off:=0) (n:=5) (lim:=5) (by decide) (by decide)
 simp -implicitDefEqProofs (disch:=omega) [Dc]
 refine K h9 _ ⟨w1,w2,rfl,f0,f1,f2,(S68.fz F89 (Nat.le_refl _) (by decide)).mono (by omega),(S78.fz F89 (Nat.le_refl _) (by decide)).mono (by have:=E06.nx;omega)⟩ ⟨by have:=E08.nx;omega,fun j hj=>(x9.2 j (by omega)).trans (E08.lo j hj),fun j hj _=>(x9.2 j (by omega)).trans (E08.lo j hj)⟩
end Go.Bvm.JN
set_option linter.unusedVariables false
set_option linter.unusedSimpArgs false
set_option maxRecDepth 20000
namespace Go.Bvm.JN
open Go.Bvm
theorem rep_jf {c0:Nat} {Z:List Nat} {h:H} {cs:List V} {x:api_Json} (r:Enc.rep (α:=JC c0) Z h cs x):Enc.rep (α:=JF) Z h cs x:=by
 obtain ⟨v1,v2,e,f0,f1,f2,f3,f4⟩:=r
 exact ⟨v1,v2,e,f0,f1,f2,f3.sl,f4.sl⟩
theorem rep_j1 {Z:List Nat} {h:H} {cs:List V} {x:api_Json} (r:Enc.rep (α:=api_Json) Z h cs x):Enc.rep (α:=JF) Z h cs x:=by
 obtain ⟨v1,v2,e,f0,f1,f2,f3,f4⟩:=r
 exact ⟨v1,v2,e,f0,f1,f2,f3.sl,f4.sl⟩
theorem Sl_j1 {Z:List Nat} {h:H} {v:V} {l:List api_Json} (S:Sl Z h v l):Sl (α:=JF) Z h v l:=by
 obtain ⟨cs,R,A⟩:=S
 exact ⟨cs,R,A.1,fun i c x e1 e2=>rep_j1 (A.2 i c x e1 e2)⟩
theorem Sl_jf {c0:Nat} {Z:List Nat} {h:H} {v:V} {l:List api_Json} (S:Sl (α:=JC c0) Z h v l):Sl (α:=JF) Z h v l:=by
 obtain ⟨cs,R,A⟩:=S
 exact ⟨cs,R,A.1,fun i c x e1 e2=>rep_jf (A.2 i c x e1 e2)⟩
theorem CopyJsons_w {Z:List Nat} {h:H} {v:V} {l:List api_Json} (A:Sl (α:=JF) Z h v l) (hl:l.length≤1000000) (hB:∀ x∈l,x.Keys.length≤1000000∧x.Parts.length≤1000000) {n:Nat} {k:KV} (K:∀ h' w,SlO (α:=JC h.next) [] h.next h' w l→Ex h h'→k w h'=true):run tbl (n+3) Nf_z_CopyJsons (vl [v]) h k=true:=by
 rw [run_succ,tbl_z_CopyJsons]
 unfold T_z_CopyJsons z_CopyJsons_5 z_CopyJsons_3
 simp -implicitDefEqProofs (disch:=omega)
 refine loop_w (fun m e h'=>∃ (i:Nat) (w:V),m=l.length-i∧i≤l.length∧e=f8 slnil (wz i) v w V.u V.u V.u V.u∧SlO (α:=JC h.next) [] h.next h' w (l.take i)∧Ex h h') ?_ big l.length _ _ ⟨0,slnil,rfl,by omega,rfl,SlO.nil (α:=JC h.next) [] h.next h,Fz.refl _ _ _ _⟩ (by unfold big;omega)
 rintro m e h1 ⟨i,w,rfl,hi,rfl,S,E1⟩ K' Kn Kx Kr
 have A1:=A.fz E1 (Nat.le_refl _) (by simp)
 have ll:∀ k,Go.Bvm.lenL v k=k (wz (l.length:Int)):=A1.lenL
 unfold z_CopyJsons_0
 by_cases hi2:i<l.length
 ·have hi3:(i:Int)<l.length:=by omega
  have hb:=hB _ (List.getElem_mem hi2)
  obtain ⟨cs,E,a1,a2,a3⟩:=A1.at (i:=(i:Int)) (Int.natCast_nonneg i) (getE? (show (i:Int).toNat<l.length from hi2))
  have a1':∀ k,iadV 5 v (wz (i:Int)) k=k (pel v (i:Int) 0):=a1
  have E':∃ w1 w2,cs=[wz l[i].Kind,wz l[i].N,vs l[i].S,w1,w2]∧inR l[i].Kind∧inR l[i].N∧l[i].S.length≤maxB∧Sl Z h1 w1 l[i].Keys∧Sl Z h1 w2 l[i].Parts:=E
  obtain ⟨w1,w2,rfl,f0,f1,f2,f3,f4⟩:=E'
  have a3':∀ k,lda 5 (pel v (i:Int) 0) h1 k=k (.x .agg (vl [wz l[i].Kind,wz l[i].N,vs l[i].S,w1,w2]) V.nil):=fun k=>a3 0 5 k (by decide)
  unfold z_CopyJsons_1 z_CopyJsons_2
  simp -implicitDefEqProofs (disch:=omega) [ll,hi3,a1',a3']
  refine CopyJson_w (n:=n) f0 f1 f2 f3 f4 hb.1 hb.2 fun h2 ds D E2=>?_
  have hds:ds.length=5:=Enc.len D
  have E12:=E1.loc E2 E1.nx E1.nx
  have S2:=S.fz E2 (Nat.le_refl _) (by simp)
  have hpt:∀ (l:List V) (k:V→Bool),l.length=5→part 0 false 5 (.x .agg (vl ds) V.nil) (vl l) k=k (vl ds):=fun l k hl=>part_all ds l _ k hds hl
  rw [hpt _ _ rfl]
  refine S2.app1 (x:=l[i]) (JC.mono D E1.nx) (show 1≤5 by decide) rfl (show 5≤4096 by decide) (by show ((l.take i).length+1)*5≤_;simp;omega) E12.nx (by simp) (show kR Ty_api_Json∉[0,kR Ty_string,kO Ty_string,kR Ty_int,kO Ty_int] by decide) fun h3 w3 S3 _ _ F3=>?_
  refine Kn _ _ _ (by omega) ⟨i+1,w3,rfl,by omega,by simp,by
   have e:l.take (i+1)=l.take i++[l[i]]:=List.take_succ_eq_append_getElem hi2
   have S3:SlO (α:=JC h.next) [] h.next h3 w3 (l.take i++[l[i]]:List api_Json):=S3
   rw [← e] at S3
   exact S3,exC E12 F3 (Nat.le_refl _)⟩
 ·have hi3:¬ (i:Int)<l.length:=by omega
  simp -implicitDefEqProofs (disch:=omega) [ll,hi3]
  refine Kx _ _ _ ?_
  unfold z_CopyJsons_4
  simp -implicitDefEqProofs (disch:=omega)
  have e:l.take i=l:=List.take_of_length_le (by omega)
  have S:SlO (α:=JC h.next) [] h.next h1 w (l.take i:List api_Json):=S
  exact K h1 w (Eq.mp (congrArg (fun q:List api_Json=>SlO (α:=JC h.next) [] h.next h1 w q) e) S) E1
end Go.Bvm.JN
set_option linter.unusedVariables false
set_option linter.unusedSimpArgs false
set_option maxRecDepth 20000
namespace Go.Bvm.JN
open Go.Bvm
theorem Texts2_w {W:List Nat} {h:H} {v:V} {xs:List Str} {k:KV} (A:Sl W h v xs) {n:Nat} (K:∀ t:Int,(xs.length:Int)≤t→t≤281474976710656→(t<1048576→∀ s∈xs,s.length≤t)→k (wz t) h=true):run tbl (n+1) Nf_l0_Texts (vl [v]) h k=true:=by
 have hbd:=A.bd
 have hm:maxB=140737488355328:=rfl
 rw [run_succ,tbl_l0_Texts]
 unfold T_l0_Texts l0_Texts_5 l0_Texts_3
 simp -implicitDefEqProofs (disch:=omega) [A.lenL]
 refine loop_w (fun m e h'=>∃ (i:Nat) (t:Int),m=(1048577-i)∧i≤xs.length∧i≤1048576∧e=f8 (wz 0) (wz i) v (wz t) V.u V.u V.u V.u∧h'=h∧(xs.length:Int)≤t∧t≤281474976710656∧(∀ s∈xs.take i,(s.length:Int)≤t)∧(1≤i→i≤xs.length)) ?_ big 1048577 _ _ ⟨0,xs.length,rfl,by omega,by omega,rfl,rfl,Int.le_refl _,by omega,by simp,by omega⟩ (by unfold big;omega)
 rintro m e h1 ⟨i,t,rfl,hi,hi6,rfl,rfl,ht0,ht1,hall,_⟩ K' Kn Kx Kr
 unfold l0_Texts_0
 have stop:(∀ s∈xs,t<1048576→(s.length:Int)≤t)→K' (X.x 0) (f8 (wz 0) (wz i) v (wz t) V.u V.u V.u V.u) h1=true:=by
  intro hs
  refine Kx _ _ _ ?_
  unfold l0_Texts_4
  simp -implicitDefEqProofs (disch:=omega)
  exact K t ht0 ht1 fun q s hm=>hs s hm q
 by_cases hi2:i<xs.length
 ·have hi3:(i:Int)<xs.length:=by omega
  by_cases ht:t<1048576
  ·obtain ⟨ra,L⟩:=at_Str A hi2
   unfold l0_Texts_1 l0_Texts_2
   simp -implicitDefEqProofs (disch:=omega) [A.lenL,hi3,ht,L]
   refine Kn _ _ _ (by omega) ⟨i+1,t+xs[i].length,rfl,by omega,by omega,by simp,rfl,by omega,by omega,fun s hs=>?_,by omega⟩
   rw [List.take_succ_eq_append_getElem hi2] at hs
   rcases List.mem_append.1 hs with q | q
   ·have:=hall s q;omega
   ·simp only [List.mem_cons,List.not_mem_nil,or_false] at q
    rw [q];omega
  ·have:=stop fun s _ q=>absurd q ht
   simp -implicitDefEqProofs (disch:=omega) [A.lenL,hi3,ht]
   exact this
 ·have hi3:¬ (i:Int)<xs.length:=by omega
  have:=stop fun s hs _=>hall s (by rw [List.take_of_length_le (by omega)];exact hs)
  simp -implicitDefEqProofs (disch:=omega) [A.lenL,hi3]
  exact this
theorem JsonsWeight2_w {W:List Nat} {h:H} {v:V} {xs:List api_Json} {k:KV} (A:Sl (α:=JF) W h v xs) {n:Nat} (K:∀ t:Int,(xs.length:Int)≤t→t≤1125899906842624→(t<1048576→∀ x∈xs,(x.Parts.length:Int)≤t∧(x.Keys.length:Int)≤8*t+8)→k (wz t) h=true):run tbl (n+2) Nf_l0_JsonsWeight (vl [v]) h k=true:=by
 have hbd:=A.bd
 have hbd:xs.length≤maxB:=hbd
 have ll:∀ k,Go.Bvm.lenL v k=k (wz (xs.length:Int)):=A.lenL
 have hm:maxB=140737488355328:=rfl
 rw [run_succ,tbl_l0_JsonsWeight]
 unfold T_l0_JsonsWeight l0_JsonsWeight_5 l0_JsonsWeight_3
 simp -implicitDefEqProofs (disch:=omega) [ll]
 refine loop_w (fun m e h'=>∃ (i:Nat) (t:Int),m=(1048577-i)∧i≤xs.length∧i≤1048576∧e=f8 (wz 0) (wz i) v (wz t) V.u V.u V.u V.u∧h'=h∧(xs.length:Int)≤t∧t≤1125899906842624∧∀ x∈xs.take i,(x.Parts.length:Int)≤t∧(x.Keys.length:Int)≤8*t+8) ?_ big 1048577 _ _ ⟨0,xs.length,rfl,by omega,by omega,rfl,rfl,Int.le_refl _,by omega,by simp⟩ (by unfold big;omega)
 rintro m e h1 ⟨i,t,rfl,hi,hi6,rfl,rfl,ht0,ht1,hall⟩ K' Kn Kx Kr
 unfold l0_JsonsWeight_0
 have stop:(t<1048576→∀ x∈xs,(x.Parts.length:Int)≤t∧(x.Keys.length:Int)≤8*t+8)→K' (X.x 0) (f8 (wz 0) (wz i) v (wz t) V.u V.u V.u V.u) h1=true:=by
  intro hs
  refine Kx _ _ _ ?_
  unfold l0_JsonsWeight_4
  simp -implicitDefEqProofs (disch:=omega)
  exact K t ht0 ht1 hs
 by_cases hi2:i<xs.length
 ·have hi3:(i:Int)<xs.length:=by omega
  by_cases ht:t<1048576
  ·obtain ⟨c,E,a1,a2,a3⟩:=A.at (i:=(i:Int)) (Int.natCast_nonneg i) (getE? (show (i:Int).toNat<xs.length from hi2))
   obtain ⟨x,hx⟩ : ∃ x:api_Json,x=xs[i]:=⟨_,rfl⟩
   have E':∃ v1 v2,c=[wz x.Kind,wz x.N,vs x.S,v1,v2]∧inR x.Kind∧inR x.N∧x.S.length≤maxB∧Sl W h1 v1 x.Keys∧Sl W h1 v2 x.Parts:=by rw [hx];exact E
   obtain ⟨v1,v2,rfl,f0,f1,f2,f3,f4⟩:=E'
   have hpb:=f4.bd
   have a1':∀ k,iadV 5 v (wz (i:Int)) k=k (pel v (i:Int) 0):=a1
   have l4:∀ k,ld1 (pel v (i:Int) 4) h1 k=k v2:=fun k=>a2 4 k (by decide)
   have l2:∀ k,ld1 (pel v (i:Int) 2) h1 k=k (vs x.S):=fun k=>a2 2 k (by decide)
   have l3:∀ k,ld1 (pel v (i:Int) 3) h1 k=k v1:=fun k=>a2 3 k (by decide)
   unfold l0_JsonsWeight_1 l0_JsonsWeight_2
   simp -implicitDefEqProofs (disch:=omega) [ll,hi3,ht,a1',l4,l2,l3,f4.lenL]
   have hpb:x.Parts.length≤maxB:=hpb
   refine Texts2_w (n:=n) f3 fun u hu0 hu1 _=>?_
   simp -implicitDefEqProofs (disch:=omega) [l4,l2,Sl.eqV f4,eqV_vs]
   exact Kn _ _ _ (by omega) ⟨i+1,t+x.Parts.length+(x.S.length:Int) / 8+u / 8,rfl,by omega,by omega,by simp,rfl,by omega,by omega,fun y hy=>by
    rw [List.take_succ_eq_append_getElem hi2] at hy
    rcases List.mem_append.1 hy with q | q
    ·have:=hall y q;omega
    ·simp only [List.mem_cons,List.not_mem_nil,or_false] at q
     rw [q,← hx];omega⟩
  ·have:=stop fun q=>absurd q ht
   simp -implicitDefEqProofs (disch:=omega) [ll,hi3,ht]
   exact this
 ·have hi3:¬ (i:Int)<xs.length:=by omega
  have:=stop fun _ x hx=>hall x (by rw [List.take_of_length_le (by omega)];exact hx)
  simp -implicitDefEqProofs (disch:=omega) [ll,hi3]
  exact this
theorem cellsOf2_w {W:List Nat} {h:H} {a b c:V} {S Q:List Str} {k:KV} (A:Sl W h a S) (C:Sl W h c Q) {n:Nat} (K:∀ (h':H) (t u:Int),Ex h h'→0≤t→t≤281474976710656→(Q.length:Int)≤u→u≤281474976710656→(t<1048576→∀ s∈S,s.length≤t)→(u<1048576→∀ s∈Q,s.length≤u)→k (wz (t / 4+u)) h'=true):run tbl (n+2) Nf_l1_cellsOf (vl [.x .agg (vl [a,b,c]) V.nil]) h k=true:=by
 rw [run_succ,tbl_l1_cellsOf]
 unfold T_l1_cellsOf l1_cellsOf_0
 simp -implicitDefEqProofs (disch:=omega)
 refine newA_w rfl (by decide) (by decide) fun h1 n1 B1 x1=>?_
 have E1:Ex h h1:=x1.ex (Nat.le_refl _)
 obtain ⟨L0,L1,L2,LA⟩:=Ask_ld B1
 have A1:=A.fz E1 (Nat.le_refl _) (by decide)
 have C1:=C.fz E1 (Nat.le_refl _) (by decide)
 simp -implicitDefEqProofs (disch:=omega) [L0,L2]
 refine Texts_w (n:=n) A1 fun t t0 t1 t2=>?_
 simp -implicitDefEqProofs (disch:=omega) [L2,Sl.eqV C1]
 refine Texts2_w (n:=n) C1 fun u u0 u1 u2=>?_
 have:=K h1 t u E1 t0 t1 u0 u1 t2 u2
 simp -implicitDefEqProofs (disch:=omega)
 exact this
theorem Heavy2_w {W:List Nat} {h:H} {a b c:V} {S Q:List Str} {L:List (List api_Json)} {k:KV} (A:Sl W h a S) (B:Sl (α:=List JF) W h b L) (C:Sl W h c Q) {n:Nat} (K:∀ (h':H) (r:Bool),Ex h h'→(r=false→(∀ s∈S,s.length≤20000)∧L.length≤3000∧(∀ l∈L,l.length≤3000∧∀ x∈l,x.Keys.length≤100000∧x.Parts.length≤3000)∧Q.length≤3000∧∀ s∈Q,s.length≤3000)→k (.t r) h'=true):run tbl (n+3) Nf_l1_Heavy (vl [.x .agg (vl [a,b,c]) V.nil]) h k=true:=by
 have hbd:=B.bd
 have hbd:L.length≤maxB:=hbd
 have hm:maxB=140737488355328:=rfl
 rw [run_succ,tbl_l1_Heavy]
 unfold T_l1_Heavy l1_Heavy_5
 simp -implicitDefEqProofs (disch:=omega)
 refine newA_w rfl (by decide) (by decide) fun h1 n1 B1 x1=>?_
 have E1:Ex h h1:=x1.ex (Nat.le_refl _)
 obtain ⟨L0,L1,L2,LA⟩:=Ask_ld B1
 have A1:=A.fz E1 (Nat.le_refl _) (by decide)
 have C1:=C.fz E1 (Nat.le_refl _) (by decide)
 have D1:=B.fz E1 (Nat.le_refl _) (by decide)
 have hn1:h1.next=h.next+1:=n1
 have lD1:∀ k,Go.Bvm.lenL b k=k (wz (L.length:Int)):=D1.lenL
 simp -implicitDefEqProofs (disch:=omega) [L1,LA,lD1]
 refine cellsOf2_w (n:=n) A1 C1 fun h2 t u E2 t0 t1 u0 u1 t2 u2=>?_
 have D2:=D1.fz E2 (Nat.le_refl _) (by decide)
 have B2:=B1.fz E2 (by omega) (by decide)
 obtain ⟨M0,M1,M2,MA⟩:=Ask_ld B2
 have E02:Ex h h2:=E1.loc E2 (by omega) (by omega)
 simp -implicitDefEqProofs (disch:=omega) [M1,Sl.eqV D2]
 unfold l1_Heavy_3
 simp -implicitDefEqProofs (disch:=omega)
 refine loop_w (fun m e h'=>∃ (i:Nat) (z:Int),m=(1048577-i)∧i≤L.length∧i≤1048576∧e=f8 (.t false) (wz i) (.p h.next 0 3 0) (wz z) V.u V.u V.u V.u∧h'=h2∧(L.length:Int)+(t / 4+u)≤z∧z≤4503599627370496∧(z<1048576→∀ l∈L.take i,(l.length:Int)≤z∧∀ x∈l,(x.Keys.length:Int)≤8*z+8∧(x.Parts.length:Int)≤z)) ?_ big 1048577 _ _ ⟨0,(L.length:Int)+(t / 4+u),rfl,by omega,by omega,by simp,rfl,Int.le_refl _,by omega,by simp⟩ (by unfold big;omega)
 rintro m e h3 ⟨i,z,rfl,hi,hi6,rfl,rfl,hz0,hz1,hall⟩ K' Kn Kx Kr
 unfold l1_Heavy_0
 have stop:(z<1048576→∀ l∈L,(l.length:Int)≤z∧∀ x∈l,(x.Keys.length:Int)≤8*z+8∧(x.Parts.length:Int)≤z)→K' (X.x 0) (f8 (.t false) (wz i) (.p h.next 0 3 0) (wz z) V.u V.u V.u V.u) h3=true:=by
  intro hs
  refine Kx _ _ _ ?_
  unfold l1_Heavy_4
  have:=K h3 (decide (3000<z)) E02 fun e=>by
   have e':¬ 3000<z:=of_decide_eq_false e
   refine ⟨fun s q=>by have:=t2 (by omega) s q;omega,by omega,fun l hl=>?_,by omega,fun s q=>by have:=u2 (by omega) s q;omega⟩
   obtain ⟨q1,q2⟩:=hs (by omega) l hl
   exact ⟨by omega,fun x hx=>by have:=q2 x hx;omega⟩
  simp -implicitDefEqProofs (disch:=omega)
  exact this
 by_cases hi2:i<L.length
 ·have hi3:(i:Int)<L.length:=by omega
  by_cases hzz:z<1048576
  ·obtain ⟨cl,⟨w,rfl,D3⟩,a1,a2,a3⟩:=D2.at (i:=(i:Int)) (Int.natCast_nonneg i) (getE? (show (i:Int).toNat<L.length from hi2))
   have a1':∀ k,iadV 1 b (wz (i:Int)) k=k (pel b (i:Int) 0):=a1
   have l0:∀ k,ld1 (pel b (i:Int) 0) h3 k=k w:=fun k=>a2 0 k (by decide)
   unfold l1_Heavy_1 l1_Heavy_2
   simp -implicitDefEqProofs (disch:=omega) [M1,lD1,hi3,hzz,a1',l0]
   refine JsonsWeight2_w (n:=n) (xs:=L[i]) D3 fun g g0 g1 g2=>?_
   simp -implicitDefEqProofs (disch:=omega)
   exact Kn _ _ _ (by omega) ⟨i+1,z+g,rfl,by omega,by omega,by simp,rfl,by omega,by omega,fun hz l hl=>by
    rw [List.take_succ_eq_append_getElem hi2] at hl
    rcases List.mem_append.1 hl with q | q
    ·obtain ⟨q1,q2⟩:=hall hzz l q
     exact ⟨by omega,fun x hx=>by have:=q2 x hx;omega⟩
    ·simp only [List.mem_cons,List.not_mem_nil,or_false] at q
     rw [q]
     exact ⟨by omega,fun x hx=>by have:=g2 (by omega) x hx;omega⟩⟩
  ·have:=stop fun q=>absurd q hzz
   simp -implicitDefEqProofs (disch:=omega) [M1,lD1,hi3,hzz]
   exact this
 ·have hi3:¬ (i:Int)<L.length:=by omega
  have:=stop fun q l hl=>hall q l (by rw [List.take_of_length_le (by omega)];exact hl)
  simp -implicitDefEqProofs (disch:=omega) [M1,lD1,hi3]
  exact this
end Go.Bvm.JN
set_option linter.unusedVariables false
set_option linter.unusedSimpArgs false
set_option maxRecDepth 20000
namespace Go.Bvm.JN
open Go.Bvm
theorem flat_setc {n o:Nat} {w:V} (ho:o<n):∀ {cs:List (List V)} (i:Nat) (hi:i<cs.length),(∀ c∈cs,c.length=n)→cs.flatten.set (i*n+o) w=(cs.set i ((cs[i]).set o w)).flatten
 | [],i,hi,_=>by simp at hi
 | c::r,0,hi,h=>by
  have hc:=h c List.mem_cons_self
  simp [List.set_append,hc,ho]
 | c::r,i+1,hi,h=>by
  have hc:=h c List.mem_cons_self
  have ih:=flat_setc (w:=w) ho (cs:=r) i (by simpa using hi) (fun d hd=>h d (List.mem_cons_of_mem _ hd))
  rw [List.set_cons_succ,List.flatten_cons,List.flatten_cons]
  show (c++r.flatten).set _ w=c++(r.set i ((r[i]'(by simpa using hi)).set o w)).flatten
  rw [← ih,List.set_append,if_neg (by rw [hc,Nat.add_mul,Nat.one_mul];omega)]
  congr 2
  rw [hc,Nat.add_mul,Nat.one_mul];omega
theorem _root_.Go.Bvm.RowO.putc {X:List Nat} {c:Nat} {h:H} {v:V} {ty n o:Nat} {cs:List (List V)} (R:RowO X c h v ty n cs) {i:Nat} {w:V} {k:KV} (hi:i<cs.length) (ho:o<n) (hw:oneV w=true)
  (K:∀ h',RowO X c h' v ty n (cs.set i ((cs[i]).set o w))→h'.next=h.next→(∀ j,j∉rids v→hget j h'.tr=hget j h.tr)→k V.u h'=true):st true 1 (pel v (i:Int) o) w h k=true:=by
 obtain ⟨hn,hb,⟨rfl,rfl⟩ | ⟨id,ver,rfl,hci,hid,B⟩⟩:=R
 ·simp at hi
 have hfl:=flat_len hn
 have hle:(i+1)*n≤cs.length*n:=Nat.mul_le_mul_right _ hi
 rw [Nat.add_mul,Nat.one_mul] at hle
 show st true 1 (.p id (0+i*n+o) (0+cs.length*n) ver) _ h k=true
 rw [Nat.zero_add,Nat.zero_add]
 refine st_w B (by omega) (by omega) hw fun h1 n1 B1 x1=>?_
 rw [flat_setc ho i hi hn] at B1
 refine K h1 ⟨set_len (by rw [List.length_set];exact hn _ (List.getElem_mem hi)) hn,by simpa using hb,.inr ⟨id,ver,by simp,hci,⟨by omega,hid.2⟩,B1⟩⟩ n1 fun j hj=>x1.2 j (by simpa using hj)
end Go.Bvm.JN
set_option linter.unusedVariables false
set_option linter.unusedSimpArgs false
set_option maxRecDepth 20000
namespace Go.Bvm.JN
open Go.Bvm
abbrev ksJ:List Nat:=[0,kR Ty_string,kO Ty_string,kR Ty_int,kO Ty_int]
def Cp (c0:Nat) (h:H) (y:V) (l:List api_Json) (a i:Nat):Prop:=∃ (cs:List (List V)) (D:List Nat) (w1 w2:V),RowO [] c0 h y Ty_api_Json 5 cs∧cs.length=i∧(¬ a<i→D=[])∧(∀ d∈D,d<h.next)∧
 (∀ x,l[a]?=some x→a<i→cs[a]?=some [wz x.Kind,wz x.N,vs x.S,w1,w2]∧inR x.Kind∧inR x.N∧x.S.length≤maxB∧SlO [] c0 h w1 x.Keys∧SlO [] c0 h w2 x.Parts∧(∀ d,d∈rids w1→d∈D)∧∀ d,d∈rids w2→d∈D)∧
 ∀ (j:Nat) (c:List V) (x:api_Json),j≠a→cs[j]?=some c→l[j]?=some x→Enc.rep (α:=JC c0) D h c x
theorem rep_x {c c0:Nat} {h:H} {cs:List V} {x:api_Json} {D:List Nat} (r:Enc.rep (α:=JC c) [] h cs x) (hc:c0≤c) (hD:∀ d∈D,d<c):Enc.rep (α:=JC c0) D h cs x:=by
 obtain ⟨v1,v2,e,f0,f1,f2,⟨a1,R1,A1⟩,⟨a2,R2,A2⟩⟩:=r
 have up:∀ {v:V} {ty n:Nat} {cs:List (List V)},RowO [] c h v ty n cs→RowO D c0 h v ty n cs:=fun R=>by
  obtain ⟨hn,hl,q | ⟨id,ver,e,hci,hid,B⟩⟩:=R
  ·exact ⟨hn,hl,.inl q⟩
  ·exact ⟨hn,hl,.inr ⟨id,ver,e,by omega,⟨hid.1,fun k=>by have:=hD id k;omega⟩,B⟩⟩
 exact ⟨v1,v2,e,f0,f1,f2,⟨a1,up R1,A1.1,fun i c x e1 e2=>A1.2 i c x e1 e2⟩,⟨a2,up R2,A2.1,fun i c x e1 e2=>A2.2 i c x e1 e2⟩⟩
theorem CopyJsonsD_w {Z:List Nat} {h:H} {v:V} {l:List api_Json} (A:Sl (α:=JF) Z h v l) (hl:l.length≤1000000) (hB:∀ x∈l,x.Keys.length≤1000000∧x.Parts.length≤1000000) (a:Nat) {n:Nat} {k:KV} (K:∀ h' w,Cp h.next h' w l a l.length→Ex h h'→k w h'=true):run tbl (n+3) Nf_z_CopyJsons (vl [v]) h k=true:=by
 rw [run_succ,tbl_z_CopyJsons]
 unfold T_z_CopyJsons z_CopyJsons_5 z_CopyJsons_3
 simp -implicitDefEqProofs (disch:=omega)
 refine loop_w (fun m e h'=>∃ (i:Nat) (w:V),m=l.length-i∧i≤l.length∧e=f8 slnil (wz i) v w V.u V.u V.u V.u∧Cp h.next h' w l a i∧Ex h h') ?_ big l.length _ _ ⟨0,slnil,rfl,by omega,rfl,⟨[],[],V.u,V.u,.nil _ _ _ _ _,rfl,fun _=>rfl,fun d hd=>by simp at hd,fun x hx h0=>by omega,fun j c x hj e=>by simp at e⟩,Fz.refl _ _ _ _⟩ (by unfold big;omega)
 rintro m e h1 ⟨i,w,rfl,hi,rfl,⟨cs0,D,u1,u2,R,hcl,hD0,hDn,hnode,hoth⟩,E1⟩ K' Kn Kx Kr
 have A1:=A.fz E1 (Nat.le_refl _) (by simp)
 have ll:∀ k,Go.Bvm.lenL v k=k (wz (l.length:Int)):=A1.lenL
 unfold z_CopyJsons_0
 by_cases hi2:i<l.length
 ·have hi3:(i:Int)<l.length:=by omega
  have hb:=hB _ (List.getElem_mem hi2)
  obtain ⟨cs,E,a1,a2,a3⟩:=A1.at (i:=(i:Int)) (Int.natCast_nonneg i) (getE? (show (i:Int).toNat<l.length from hi2))
  have a1':∀ k,iadV 5 v (wz (i:Int)) k=k (pel v (i:Int) 0):=a1
  have E':∃ w1 w2,cs=[wz l[i].Kind,wz l[i].N,vs l[i].S,w1,w2]∧inR l[i].Kind∧inR l[i].N∧l[i].S.length≤maxB∧Sl Z h1 w1 l[i].Keys∧Sl Z h1 w2 l[i].Parts:=E
  obtain ⟨w1,w2,rfl,f0,f1,f2,f3,f4⟩:=E'
  have a3':∀ k,lda 5 (pel v (i:Int) 0) h1 k=k (.x .agg (vl [wz l[i].Kind,wz l[i].N,vs l[i].S,w1,w2]) V.nil):=fun k=>a3 0 5 k (by decide)
  unfold z_CopyJsons_1 z_CopyJsons_2
  simp -implicitDefEqProofs (disch:=omega) [ll,hi3,a1',a3']
  refine CopyJson_w (n:=n) f0 f1 f2 f3 f4 hb.1 hb.2 fun h2 ds Dr E2=>?_
  have hds:ds.length=5:=Enc.len Dr
  have n2:=E2.nx
  have E12:=E1.loc E2 E1.nx E1.nx
  have hpt:∀ (l:List V) (k:V→Bool),l.length=5→part 0 false 5 (.x .agg (vl ds) V.nil) (vl l) k=k (vl ds):=fun l k hl=>part_all ds l _ k hds hl
  rw [hpt _ _ rfl]
  have R2:RowO [] h.next h2 w Ty_api_Json 5 cs0:=R.gx n2 fun id hid _ _=>E2.lo id hid
  refine R2.app1 hds (by decide) rfl (by decide) (by rw [hcl];omega) E12.nx (by simp) fun h3 w3 R3 g _=>?_
  have F3:Fz h.next h2.next [kR Ty_api_Json] h2 h3:=g.fz R2 E12.nx
  have old:∀ (D:List Nat) (c:List V) (x:api_Json),Enc.rep (α:=JC h.next) D h1 c x→Enc.rep (α:=JC h.next) D h3 c x:=fun D c x r=>Enc.fz (α:=JC h.next) (Enc.fz (α:=JC h.next) r E2 (Nat.le_refl _) (fun k _ q=>by simp at q)) F3 (Nat.le_refl _) (show ∀ k,k∈ksJ→k∉[kR Ty_api_Json] by decide)
  have Dr3:Enc.rep (α:=JC h1.next) [] h3 ds l[i]:=Enc.fz (α:=JC h1.next) Dr F3 (Nat.le_refl _) (show ∀ k,k∈ksJ→k∉[kR Ty_api_Json] by decide)
  obtain ⟨y1,y2,hdse,k0,k1,k2,k3,k4⟩:=Dr3
  have Dr3:Enc.rep (α:=JC h1.next) [] h3 ds l[i]:=⟨y1,y2,hdse,k0,k1,k2,k3,k4⟩
  have n3:=F3.nx
  have next:Cp h.next h3 w3 l a (i+1):=by
   by_cases hai:a=i
   ·subst hai
    have hD:=hD0 (by omega)
    subst hD
    refine ⟨cs0++[ds],rids y1++rids y2,y1,y2,R3,by simp [hcl],fun q=>by omega,fun d hd=>?_,fun x hx _=>?_,fun j c x hj e1 e2=>?_⟩
    ·rcases List.mem_append.1 hd with q | q
     ·exact (k3.rids q).2.1
     ·exact (k4.rids q).2.1
    ·rw [List.getElem?_eq_getElem hi2] at hx
     cases hx
     refine ⟨by rw [List.getElem?_append_right (by omega),hcl];simp [hdse],k0,k1,k2,k3.mono E1.nx,k4.mono E1.nx,fun d q=>List.mem_append_left _ q,fun d q=>List.mem_append_right _ q⟩
    ·by_cases hj2:j<a
     ·rw [List.getElem?_append_left (by omega)] at e1
      have r:=hoth j c x hj e1 e2
      exact old _ c x (Enc.xm (α:=JC h.next) r fun d hd _=>by
       rcases List.mem_append.1 hd with q | q
       ·exact (k3.rids q).1
       ·exact (k4.rids q).1)
     ·have:j<(cs0++[ds]).length:=(List.getElem?_eq_some_iff.1 e1).1
      simp [hcl] at this
      omega
   ·refine ⟨cs0++[ds],D,u1,u2,R3,by simp [hcl],fun q=>hD0 (by omega),fun d hd=>by have:=hDn d hd;omega,fun x hx hai2=>?_,fun j c x hj e1 e2=>?_⟩
    ·obtain ⟨q0,q1,q2,q3,q4,q5,q6,q7⟩:=hnode x hx (by omega)
     refine ⟨by rw [List.getElem?_append_left (by omega)];exact q0,q1,q2,q3,(q4.fz E2 (Nat.le_refl _) (by simp)).fz F3 (Nat.le_refl _) (by decide),(q5.fz E2 (Nat.le_refl _) (by simp)).fz F3 (Nat.le_refl _) (by decide),q6,q7⟩
    ·by_cases hj2:j<i
     ·rw [List.getElem?_append_left (by omega)] at e1
      exact old D c x (hoth j c x hj e1 e2)
     ·have hlt:j<(cs0++[ds]).length:=(List.getElem?_eq_some_iff.1 e1).1
      simp [hcl] at hlt
      have:j=i:=by omega
      subst this
      rw [List.getElem?_append_right (by omega),hcl] at e1
      simp at e1
      subst e1
      rw [List.getElem?_eq_getElem hi2] at e2
      cases e2
      exact rep_x Dr3 E1.nx fun d hd=>hDn d hd
  refine Kn _ _ _ (by omega) ⟨i+1,w3,rfl,by omega,by simp,next,exC E12 F3 (Nat.le_refl _)⟩
 ·have hi3:¬ (i:Int)<l.length:=by omega
  simp -implicitDefEqProofs (disch:=omega) [ll,hi3]
  refine Kx _ _ _ ?_
  unfold z_CopyJsons_4
  simp -implicitDefEqProofs (disch:=omega)
  exact K h1 w (by rw [show l.length=i by omega];exact ⟨cs0,D,u1,u2,R,hcl,hD0,hDn,hnode,hoth⟩) E1
end Go.Bvm.JN
set_option linter.unusedVariables false
set_option linter.unusedSimpArgs false
set_option maxRecDepth 20000
namespace Go.Bvm.JN
open Go.Bvm
theorem fin_put {c0:Nat} {h:H} {y:V} {l:List api_Json} {a o:Nat} {w:V} {cs:List (List V)} {ca:List V} {D:List Nat} {x':api_Json} {k:KV} (R:RowO [] c0 h y Ty_api_Json 5 cs) (hcl:cs.length=l.length) (ha:a<l.length) (hca:cs[a]?=some ca) (ho:o<5) (hw:oneV w=true)
  (hoth:∀ (j:Nat) (c:List V) (x:api_Json),j≠a→cs[j]?=some c→l[j]?=some x→Enc.rep (α:=JC c0) D h c x) (new:Enc.rep (α:=JF) [] h (ca.set o w) x')
  (K:∀ h',Sl (α:=JF) [] h' y (l.set a x')→h'.next=h.next→(∀ j,j<c0→hget j h'.tr=hget j h.tr)→k V.u h'=true):st true 1 (pel y (a:Int) o) w h k=true:=by
 have hal:a<cs.length:=by omega
 have hca2:cs[a]=ca:=by rw [List.getElem?_eq_getElem hal] at hca;exact Option.some.inj hca
 refine R.putc (i:=a) (o:=o) hal ho hw fun h1 R1 n1 F1=>?_
 rw [hca2] at R1
 have hids:∀ j,j∈rids y→c0≤j∧kd (hget j h.tr)=kR Ty_api_Json:=fun j hj=>⟨(R.rids hj).1,(R.rids hj).2.2.2⟩
 have key:∀ (c:List V) (x:api_Json),Enc.rep (α:=JF) [] h c x→Enc.rep (α:=JF) [] h1 c x:=fun c x r=>Enc.gx (α:=JF) r (by omega) fun id hid _ hk=>F1 id fun q=>by
  have:=(hids id q).2
  rw [this] at hk
  exact absurd hk (show kR Ty_api_Json∉ksJ by decide)
 have weak:∀ (c:List V) (x:api_Json),Enc.rep (α:=JC c0) D h c x→Enc.rep (α:=JF) [] h c x:=fun c x r=>Enc.xm (α:=JF) (rep_jf r) fun i hi=>by simp at hi
 refine K h1 ⟨_,R1.row,by show (cs.set a _).length=(l.set a x':List api_Json).length;rw [List.length_set,List.length_set];exact hcl,fun i c x e1 e2=>?_⟩ n1 fun j hj=>F1 j fun q=>by have:=(hids j q).1;omega
 have e2:(l.set a x')[i]?=some x:=e2
 by_cases e:i=a
 ·subst e
  rw [List.getElem?_set_self (by omega)] at e1 e2
  cases e1
  cases e2
  exact key _ _ new
 ·rw [List.getElem?_set_ne (Ne.symm e)] at e1 e2
  exact key _ _ (weak _ _ (hoth i c x e e1 e2))
theorem mut_w {c0:Nat} {h:H} {y:V} {l:List api_Json} {a kk:Nat} {e:L8} {K:KX} {n:Nat} (C:Cp c0 h y l a l.length) (ha:a<l.length) (hM:P.OKM l[a]) (hc:c0≤h.next) (he:e.c0.c5=wz kk) (hk5:kk<5)
  (Kf:∀ h' x',Sl (α:=JF) [] h' y (l.set a x')→(x'.Keys.length≤4001∧x'.Parts.length≤4001)→h.next≤h'.next→(∀ j,j<c0→hget j h'.tr=hget j h.tr)→K X.n e h'=true):l1_values_7 (run tbl n) big y (wz a) e h K=true:=by
 obtain ⟨cs,D,w1,w2,R,hcl,hD0,hDn,hnode,hoth⟩:=C
 have hx:=List.getElem?_eq_getElem ha
 obtain ⟨hca,f0,f1,f2,f3,f4,hr1,hr2⟩:=hnode _ hx ha
 obtain ⟨m1,m2,m3,m4,m5,m6,m7⟩:=hM
 have hal:a<cs.length:=by omega
 have AT:=R.row.at (i:=(a:Int)) (c:=[wz l[a].Kind,wz l[a].N,vs l[a].S,w1,w2]) (Int.natCast_nonneg a) (by simpa using hca)
 have b1:∀ k,iadV 5 y (wz (a:Int)) k=k (pel y (a:Int) 0):=AT.2.1
 have b2:∀ o k,o<5→ld1 (pel y (a:Int) o) h k=k (nth [wz l[a].Kind,wz l[a].N,vs l[a].S,w1,w2] o):=AT.2.2.1
 generalize hxx:l[a]=x at *
 unfold l1_values_7
 have h01234:kk=0∨kk=1∨kk=2∨kk=3∨kk=4:=by omega
 rcases h01234 with rfl | rfl | rfl | rfl | rfl
 ·have he:e.c0.c5=wz 0:=he
  unfold l1_values_6
  simp -implicitDefEqProofs (disch:=omega) [he,b1,b2]
  have q:inR ((x.Kind+1) % 8):=⟨by omega,by omega⟩
  exact fin_put (o:=0) (k:=fun _ h'=>K X.n e h') R hcl ha hca (by decide) rfl hoth (x':=⟨(x.Kind+1) % 8,x.N,x.S,x.Keys,x.Parts⟩) ⟨w1,w2,rfl,q,f1,f2,f3.sl,f4.sl⟩ fun h' S n1 lo=>Kf h' _ S ⟨by show x.Keys.length≤4001;omega,by show x.Parts.length≤4001;omega⟩ (by omega) lo
 ·have he:e.c0.c5=wz 1:=he
  unfold l1_values_6 l1_values_5
  simp -implicitDefEqProofs (disch:=omega) [he,b1,b2]
  have q:inR (x.N+1):=⟨by omega,by omega⟩
  exact fin_put (o:=1) (k:=fun _ h'=>K X.n e h') R hcl ha hca (by decide) rfl hoth (x':=⟨x.Kind,x.N+1,x.S,x.Keys,x.Parts⟩) ⟨w1,w2,rfl,f0,q,f2,f3.sl,f4.sl⟩ fun h' S n1 lo=>Kf h' _ S ⟨by show x.Keys.length≤4001;omega,by show x.Parts.length≤4001;omega⟩ (by omega) lo
 ·have he:e.c0.c5=wz 2:=he
  unfold l1_values_6 l1_values_5
  simp -implicitDefEqProofs (disch:=omega) [he,b1,b2]
  rw [catV_vs _ _ (by show List.length x.S+1≤_;omega)]
  have q:(x.S++[1]).length≤maxB:=by have:maxB=140737488355328:=rfl;rw [List.length_append];show List.length x.S+1≤_;omega
  exact fin_put (o:=2) (k:=fun _ h'=>K X.n e h') R hcl ha hca (by decide) rfl hoth (x':=⟨x.Kind,x.N,x.S++[1],x.Keys,x.Parts⟩) ⟨w1,w2,rfl,f0,f1,q,f3.sl,f4.sl⟩ fun h' S n1 lo=>Kf h' _ S ⟨by show x.Keys.length≤4001;omega,by show x.Parts.length≤4001;omega⟩ (by omega) lo
 ·have he:e.c0.c5=wz 3:=he
  have hXD:∀ j,j∈D→j<h.next:=hDn
  unfold l1_values_6 l1_values_5
  unfold l1_values_4
  simp -implicitDefEqProofs (disch:=omega) [he,b1,b2]
  refine SlO.app1 (α:=List UInt8) f3 (e:=[vs [97]]) (x:=[97]) ⟨rfl,by decide⟩ (by decide) rfl (by decide) (by show (x.Keys.length+1)*1≤_;omega) hc (by simp) (by decide) fun h1 w g1 gr rw_ F1=>?_
  have R1:RowO [] c0 h1 y Ty_api_Json 5 cs:=R.gx F1.nx fun id a1 _ k1=>F1.hi id a1 (by rw [k1];decide)
  obtain ⟨_,c1,c2,c3⟩:=R1.row.at (i:=(a:Int)) (c:=[wz x.Kind,wz x.N,vs x.S,w1,w2]) (Int.natCast_nonneg a) (by simpa using hca)
  have g2:Sl [] h1 w2 x.Parts:=f4.sl.fz F1 (Nat.le_refl _) (by decide)
  have n1:=F1.nx
  have hoth1:∀ (j:Nat) (c:List V) (x:api_Json),j≠a→cs[j]?=some c→l[j]?=some x→Enc.rep (α:=JC c0) D h1 c x:=fun j c x hj e1 e2=>Enc.gx (α:=JC c0) (hoth j c x hj e1 e2) F1.nx fun id a1 a2 _=>gr.2 id a1 fun q=>a2 (hr1 id q)
  have q:(x.Keys++[[97]]).length≤4001:=by rw [List.length_append];show x.Keys.length+1≤_;omega
  exact fin_put (o:=3) (k:=fun _ h'=>K X.n e h') R1 hcl ha hca (by decide) (Sl.one g1.sl) hoth1 (x':=⟨x.Kind,x.N,x.S,x.Keys++[[97]],x.Parts⟩) ⟨w,w2,rfl,f0,f1,f2,g1.sl,g2⟩ fun h' S n2 lo=>Kf h' _ S ⟨q,by show x.Parts.length≤4001;omega⟩ (by omega) fun j hj=>(lo j hj).trans (F1.lo j hj)
 ·have he:e.c0.c5=wz 4:=he
  have hXD:∀ j,j∈D→j<h.next:=hDn
  unfold l1_values_6 l1_values_5
  unfold l1_values_4
  simp -implicitDefEqProofs (disch:=omega) [he,b1,b2]
  refine SlO.app1 (α:=Int) f4 (e:=[wz 0]) (x:=0) ⟨rfl,by decide⟩ (by decide) rfl (by decide) (by show (x.Parts.length+1)*1≤_;omega) hc (by simp) (by decide) fun h1 w g1 gr rw_ F1=>?_
  have R1:RowO [] c0 h1 y Ty_api_Json 5 cs:=R.gx F1.nx fun id a1 _ k1=>F1.hi id a1 (by rw [k1];decide)
  obtain ⟨_,c1,c2,c3⟩:=R1.row.at (i:=(a:Int)) (c:=[wz x.Kind,wz x.N,vs x.S,w1,w2]) (Int.natCast_nonneg a) (by simpa using hca)
  have g2:Sl [] h1 w1 x.Keys:=f3.sl.fz F1 (Nat.le_refl _) (by decide)
  have n1:=F1.nx
  have hoth1:∀ (j:Nat) (c:List V) (x:api_Json),j≠a→cs[j]?=some c→l[j]?=some x→Enc.rep (α:=JC c0) D h1 c x:=fun j c x hj e1 e2=>Enc.gx (α:=JC c0) (hoth j c x hj e1 e2) F1.nx fun id a1 a2 _=>gr.2 id a1 fun q=>a2 (hr2 id q)
  have q:(x.Parts++[0]).length≤4001:=by rw [List.length_append];show x.Parts.length+1≤_;omega
  exact fin_put (o:=4) (k:=fun _ h'=>K X.n e h') R1 hcl ha hca (by decide) (Sl.one g1.sl) hoth1 (x':=⟨x.Kind,x.N,x.S,x.Keys,x.Parts++[0]⟩) ⟨w1,w,rfl,f0,f1,f2,g2,g1.sl⟩ fun h' S n2 lo=>Kf h' _ S ⟨by show x.Keys.length≤4001;omega,q⟩ (by omega) fun j hj=>(lo j hj).trans (F1.lo j hj)
end Go.Bvm.JN
set_option linter.unusedVariables false
set_option linter.unusedSimpArgs false
set_option maxRecDepth 20000
namespace Go.Bvm
theorem app_cut_w {h:H} {esz elem sid soff n sver sfrz sel id len ver:Nat} {ex sex sown:Bool} {l m:List V} {k:KV} (bs':Bk h sid sver sfrz sel sex sown l) (b:Bk h id ver 0 elem ex true m) (he:1≤esz) (hn:1≤n) (hl:soff+n*esz≤l.length) (hm:len*esz<m.length) (hle:len*esz+n*esz≤17179869184)
  (K:∀ h',h'.next=h.next+1→Bk h' h.next 0 0 elem false true (m.take (len*esz)++(l.drop soff).take (n*esz))→(∀ i,i≠id→i≠h.next→hget i h'.tr=hget i h.tr)→k (.sl h.next 0 (len+n) 0 esz) h'=true):app esz elem (.sl id 0 len ver esz) (.sl sid soff n sver esz) h k=true:=by
 obtain ⟨c,s2,s3,s4⟩:=bs'
 obtain ⟨d,m2,m3,m4⟩:=b
 have hf:=acap_fresh (len*esz+n*esz) hle
 have hlen:(m.take (len*esz)++(l.drop soff).take (n*esz)).length=len*esz+n*esz:=by simp;omega
 obtain ⟨q1,q2⟩:=hset_bk (h:=⟨h.next,hset id .nb h.tr⟩) (id:=h.next) (ver:=0) (frz:=0) (elem:=elem) (ex:=false) (own:=true) (l:=m.take (len*esz)++(l.drop soff).take (n*esz)) (c:=acopy c (n*esz) soff (len*esz) (acopy d (len*esz) 0 0 (fresh (len*esz+n*esz)))) (n:=len*esz+n*esz) hlen.symm (by rw [acap_acopy,acap_acopy,hlen];exact hf) (fun j hj=>by
  rw [hlen] at hj
  rw [aget_acopy c _ _ _ _ _ (by rw [acap_acopy];omega) (by rw [acap_acopy];omega)]
  by_cases hjm:j<len*esz
  ·rw [if_neg (by omega),aget_acopy d _ _ _ _ _ (by omega) (by omega),if_pos (by omega),Nat.zero_add,Nat.sub_zero,m4 j (by omega),List.getElem_append_left (by simp;omega)]
   simp
  ·rw [if_pos (by omega),s4 _ (by omega),List.getElem_append_right (by simp;omega)]
   have e:min (len*esz) m.length=len*esz:=Nat.min_eq_left (by omega)
   simp [e]) (h.next+1) (Nat.le_succ _)
 have hb0:Nat.beq n 0=false:=by rw [beq_dec];simp;omega
 show both (Nat.ble 1 esz) (both (Nat.beq esz esz) (onBk (hget sid h.tr) _))=_
 rw [s2]
 show both (Nat.ble 1 esz) (both (Nat.beq esz esz) (both (Nat.beq sver sver) (bs (Nat.beq n 0) _ (both (Nat.beq esz esz) (onBk (hget id h.tr) _)))))=_
 rw [hb0,bs_false,m2]
 show both (Nat.ble 1 esz) (both (Nat.beq esz esz) (both (Nat.beq sver sver) (both (Nat.beq esz esz) (both true (both (Nat.beq ver ver) (both (both (Nat.beq elem elem) (Nat.ble 0 (0+len*esz))) (bs (both (Nat.beq 0 0) (Nat.beq (len*esz) m.length)) _ (both (Nat.ble (len*esz+n*esz) 17179869184) (both (Nat.ble 0 (h.next+1)) (k _ _))))))))))=_
 have e:Nat.beq (len*esz) m.length=false:=by rw [beq_dec];simp;omega
 rw [ble_dec 1 esz,bothd he,beq_dec esz esz,bothd rfl,beq_dec sver sver,bothd rfl,bothd rfl,both_t,beq_dec ver ver,bothd rfl,beq_dec elem elem,bothd rfl,ble_dec 0,bothd (Nat.zero_le _),e]
 show both (Nat.ble (len*esz+n*esz) 17179869184) (both (Nat.ble 0 (h.next+1)) _)=_
 rw [ble_dec,bothd hle,ble_dec,bothd (Nat.zero_le _)]
 refine K _ rfl q1 fun i hi hj=>?_
 have:=q2.2 i hj
 rw [this]
 show hget i (hset id _ h.tr)=_
 rw [hget_hset _ _ _ _ (Nat.zero_le _) (Nat.zero_le _),if_neg hi]
theorem app_zero {h:H} {esz elem sid soff sver sfrz sel:Nat} {sex sown:Bool} {l:List V} {k:KV} {x:V} (b:Bk h sid sver sfrz sel sex sown l) (he:1≤esz) (hx:∃ a b c d e,x=.sl a b c d e):app esz elem x (.sl sid soff 0 sver esz) h k=k x h:=by
 obtain ⟨c,s2,s3,s4⟩:=b
 obtain ⟨x1,x2,x3,x4,x5,rfl⟩:=hx
 show both (Nat.ble 1 esz) (both (Nat.beq esz esz) (onBk (hget sid h.tr) _))=_
 rw [s2]
 show both (Nat.ble 1 esz) (both (Nat.beq esz esz) (both (Nat.beq sver sver) (k _ _)))=_
 rw [ble_dec,bothd he,beq_dec,bothd rfl,beq_dec,bothd rfl]
namespace JN
def RW (c:Nat) (h:H) (v:V) (ls:List (List JF)):Prop:=∃ (id ver:Nat) (ex:Bool) (m:List V),v=.sl id 0 ls.length ver 1∧c≤id∧id<h.next∧Bk h id ver 0 Ty_Sl_api_Json ex true m∧ls.length≤m.length∧m.length≤1000000∧∀ (i:Nat) (x:List JF),ls[i]?=some x→∃ w,m[i]?=some w∧oneV w=true∧Sl (α:=JF) [] h w x
theorem RW.ex {c:Nat} {h h':H} {v:V} {ls:List (List JF)} (R:RW c h v ls) (E:Ex h h'):RW c h' v ls:=by
 obtain ⟨id,ver,ex,m,e,h1,h2,B,h3,h4,h5⟩:=R
 have:=E.nx
 exact ⟨id,ver,ex,m,e,h1,by omega,B.eq (E.lo id h2),h3,h4,fun i x q=>by obtain ⟨w,q1,q2,q3⟩:=h5 i x q;exact ⟨w,q1,q2,q3.fz E (Nat.le_refl _) (by simp)⟩⟩
theorem RW.len {c:Nat} {h:H} {v:V} {ls:List (List JF)} (R:RW c h v ls) (k:V→Bool):lenL v k=k (wz (ls.length:Int)):=by
 obtain ⟨id,ver,ex,m,rfl,h1,h2,B,h3,h4,h5⟩:=R
 exact lenL_sl _ _ _ _ _ (by omega) k
theorem RW.at {c:Nat} {h:H} {v:V} {ls:List (List JF)} (R:RW c h v ls) {i:Nat} (hi:i<ls.length):∃ w,(∀ k,iadV 1 v (wz (i:Int)) k=k (pel v (i:Int) 0))∧(∀ k,ld1 (pel v (i:Int) 0) h k=k w)∧Sl (α:=JF) [] h w ls[i]:=by
 obtain ⟨id,ver,ex,m,rfl,h1,h2,B,h3,h4,h5⟩:=R
 obtain ⟨w,q1,q2,q3⟩:=h5 i _ (List.getElem?_eq_getElem hi)
 refine ⟨w,fun k=>iadV_z 1 id 0 ls.length ver i hi k,fun k=>?_,q3⟩
 have hl:i<m.length:=by omega
 show ld1 (.p id (0+i*1+0) (0+ls.length*1) ver) h k=_
 rw [B.ld rfl (by omega) (by omega)]
 congr 1
 rw [nth_get (by omega)]
 rw [List.getElem?_eq_getElem hl] at q1
 have:=Option.some.inj q1
 rw [← this]
 congr 1
 omega
theorem jf_put {h h':H} {w:V} {x:List JF} {id j:Nat} {m:List V} {ver:Nat} {ex:Bool} (S:Sl (α:=JF) [] h w x) (B:Bk h id ver 0 Ty_Sl_api_Json ex true m) (n1:h.next≤h'.next) (F:∀ i,i≠id→i≠j→hget i h'.tr=hget i h.tr) (hj:h.next≤j):Sl (α:=JF) [] h' w x:=by
 refine S.gx n1 fun i hi _ hk=>F i (fun e=>?_) (by omega)
 subst e
 rw [B.kd] at hk
 cases ex
 ·exact absurd hk (by decide)
 ·exact absurd hk (by decide)
theorem ssli_sl (esz id off len ver i:Nat) (hi:i≤len) (hl:len≤maxB) (k:V→Bool):ssli esz none (some (wz i)) (.sl id off len ver esz) k=k (.sl id off i ver esz):=by
 show both (Nat.beq esz esz) (bnd (some (wz i)) len fun b=>both (Nat.ble b len) (both (Nat.ble 0 b) (k (.sl id (off+0*esz) (b-0) ver esz))))=_
 rw [beq_dec,bothd rfl,bnd_wz i _ (by omega),ble_dec,bothd (by omega),ble_dec,bothd (Nat.zero_le _),Nat.zero_mul,Nat.add_zero,Nat.sub_zero]
theorem RW.cut {c:Nat} {h:H} {v:V} {ls:List (List JF)} (R:RW c h v ls) {i:Nat} (hi:i≤ls.length) {k:V→Bool} (K:∀ w,RW c h w (ls.take i)→k w=true):ssli 1 none (some (wz i)) v k=true:=by
 obtain ⟨id,ver,ex,m,rfl,h1,h2,B,h3,h4,h5⟩:=R
 have hti:(ls.take i).length=i:=by simp;omega
 have hmB:maxB=140737488355328:=rfl
 rw [ssli_sl 1 id 0 ls.length ver i hi (by omega)]
 refine K _ ⟨id,ver,ex,m,by rw [hti],h1,h2,B,by rw [hti];omega,h4,fun j x q=>?_⟩
 rw [List.getElem?_take] at q
 split at q
 ·exact h5 j x q
 ·simp at q
theorem RW.app {c:Nat} {h:H} {v:V} {ls:List (List JF)} (R:RW c h v ls) {x:List JF} {w:V} (S:Sl (α:=JF) [] h w x) (hl:ls.length≤4000) {k:KV} (hc:c≤h.next)
  (K:∀ h' v',RW c h' v' (ls++[x])→Fz c h.next [kR Ty_Sl_api_Json,kO Ty_Sl_api_Json] h h'→k v' h'=true):bslA h.next 1 1 Ty_Sl_api_Json (vl [w]) ⟨h.next+1,h.tr⟩ (fun v' h1=>Go.Bvm.app 1 Ty_Sl_api_Json v v' h1 k)=true:=by
 obtain ⟨id,ver,ex,m,rfl,h1,h2,B,h3,h4,h5⟩:=R
 refine bslA_w rfl (show 1≤4096 by decide) fun g1 n1 b1 o1=>?_
 have n1':g1.next=h.next+1:=n1
 have B1:Bk g1 id ver 0 Ty_Sl_api_Json ex true m:=B.only (h':=g1) (id:=h.next) ⟨by omega,o1.2⟩ (by omega)
 have low:∀ i,i<h.next→hget i g1.tr=hget i h.tr:=fun i hi=>o1.2 i (by omega)
 have up1:∀ {w x},Sl (α:=JF) [] h w x→Sl (α:=JF) [] g1 w x:=fun s=>s.gx (by omega) fun i hi _ _=>low i hi
 have S1:=up1 S
 have nid:∀ i,kd (hget i h.tr)∉[kR Ty_Sl_api_Json,kO Ty_Sl_api_Json]→i≠id:=fun i hk e=>by
  subst e
  rw [B.kd] at hk
  cases ex
  ·exact hk (by decide)
  ·exact hk (by decide)
 by_cases hcut:ls.length*1<m.length
 ·refine app_cut_w (n:=1) b1 B1 (by decide) (by decide) (show 0+1*1≤1 by decide) hcut (by omega) fun g2 n2 b2 o2=>?_
  refine K g2 _ ⟨g1.next,0,false,_,by simp,by omega,by omega,b2,by simp;omega,by simp;omega,fun i y q=>?_⟩ ⟨by omega,fun i hi=>?_,fun i hi hk=>?_⟩
  ·by_cases e:i<ls.length
   ·rw [List.getElem?_append_left e] at q
    obtain ⟨u,q1,q2,q3⟩:=h5 i y q
    refine ⟨u,?_,q2,jf_put (up1 q3) B1 (by omega) o2 (Nat.le_refl _)⟩
    rw [List.getElem?_append_left (by simp;omega),List.getElem?_take,if_pos (by omega)]
    exact q1
   ·have e2:i=ls.length:=by
     have:=(List.getElem?_eq_some_iff.1 q).1
     simp at this
     omega
    subst e2
    simp at q
    subst q
    exact ⟨w,by rw [List.getElem?_append_right (by simp;omega),List.length_take,Nat.min_eq_left (by omega),Nat.mul_one ls.length,Nat.sub_self];rfl,S.one,jf_put S1 B1 (by omega) o2 (Nat.le_refl _)⟩
  ·rw [o2 i (by omega) (by omega),low i (by omega)]
  ·rw [o2 i (nid i hk) (by omega),low i (by omega)]
 ·have hml:m.length=ls.length*1:=by omega
  refine app_row_w (n:=1) b1 B1 (by decide) (by decide) (show 0+1*1≤1 by decide) hml (by omega) fun g2 n2 b2 o2=>?_
  have o2':∀ i,i≠id→i≠g1.next→hget i g2.tr=hget i g1.tr:=fun i a _=>o2.2 i a
  refine K g2 _ ⟨id,ver+1,false,_,by simp,by omega,by omega,b2,by simp;omega,by simp;omega,fun i y q=>?_⟩ ⟨by omega,fun i hi=>?_,fun i hi hk=>?_⟩
  ·by_cases e:i<ls.length
   ·rw [List.getElem?_append_left e] at q
    obtain ⟨u,q1,q2,q3⟩:=h5 i y q
    refine ⟨u,?_,q2,jf_put (up1 q3) B1 (by omega) o2' (Nat.le_refl _)⟩
    rw [List.getElem?_append_left (by omega)]
    exact q1
   ·have e2:i=ls.length:=by
     have:=(List.getElem?_eq_some_iff.1 q).1
     simp at this
     omega
    subst e2
    simp at q
    subst q
    exact ⟨w,by rw [List.getElem?_append_right (by omega)];simp [hml],S.one,jf_put S1 B1 (by omega) o2' (Nat.le_refl _)⟩
  ·rw [o2.2 i (by omega),low i (by omega)]
  ·rw [o2.2 i (nid i hk),low i (by omega)]
theorem RW.start {h:H} {b:V} {L:List (List JF)} (A:Sl (α:=List JF) [] h b L) (hL:L.length≤4000) {h1:H} (n1:h1.next=h.next+1) (B1:Bk h1 h.next 0 0 Ty_Sl_api_Json true true [slnil]) (x1:Only h h1 h.next) {k:KV}
  (K:∀ h' v,RW h.next h' v ([]::L)→(∀ i,i<h.next→hget i h'.tr=hget i h.tr)→h.next≤h'.next→k v h'=true):Go.Bvm.app 1 Ty_Sl_api_Json (.sl h.next 0 1 0 1) b h1 k=true:=by
 have A1:Sl (α:=List JF) [] h1 b L:=A.gx (by omega) fun i hi _ _=>x1.2 i (by omega)
 have low:∀ i,i<h.next→hget i h1.tr=hget i h.tr:=fun i hi=>x1.2 i (by omega)
 have nil0:∀ g:H,∃ w,some slnil=some w∧oneV w=true∧Sl (α:=JF) [] g w []:=fun g=>⟨slnil,rfl,rfl,.nil _ _⟩
 obtain ⟨cs,⟨hcn,hcl,q⟩,hlen,hel⟩:=A1
 have hcn:∀ c∈cs,c.length=1:=hcn
 have base:L=[]→k (.sl h.next 0 1 0 1) h1=true:=fun e=>by
  subst e
  refine K h1 _ ⟨h.next,0,true,_,rfl,by omega,by omega,B1,by decide,by decide,fun i x q=>?_⟩ low (by omega)
  have:i=0:=by
   have:=(List.getElem?_eq_some_iff.1 q).1
   simp at this
   omega
  subst this
  simp at q
  subst q
  exact nil0 h1
 rcases q with ⟨rfl,rfl⟩ | ⟨id,off,ver,frz,ex,own,l,rfl,hid,B,hle,hfl⟩
 ·have hL0:L=[]:=by cases L with | nil=>rfl | cons a b=>simp at hlen
  rw [app_no _ _ _ _ _ (by decide) (.inr ⟨_,_,_,_,_,rfl⟩)]
  exact base hL0
 ·have hcs:cs.length=L.length:=hlen
  by_cases h0:cs.length=0
  ·have hL0:L=[]:=List.length_eq_zero_iff.1 (by omega)
   rw [h0]
   obtain ⟨ty,B'⟩:=B
   exact (app_zero (esz:=1) B'.1 (by decide) ⟨_,_,_,_,_,rfl⟩).trans (base hL0)
  ·obtain ⟨ty,B',_⟩:=B
   have hle':off+cs.length*1≤l.length:=hle
   refine app_row_w (n:=cs.length) B' B1 (by decide) (by omega) hle' rfl (show 1+cs.length*1≤17179869184 by omega) fun g2 n2 b2 o2=>?_
   have hfl':(l.drop off).take (cs.length*1)=cs.flatten:=hfl
   rw [hfl'] at b2
   have hflen:cs.flatten.length=cs.length*1:=flat_len hcn
   refine K g2 _ ⟨h.next,0+1,false,_,by rw [List.length_cons,hcs,Nat.add_comm],by omega,by omega,b2,by simp [hflen];omega,by simp [hflen];omega,fun i x q=>?_⟩ (fun i hi=>by rw [o2.2 i (by omega),low i hi]) (by omega)
   cases i with
   | zero=>
    simp at q
    subst q
    exact nil0 g2
   | succ i=>
    have q:L[i]?=some x:=by simpa using q
    have hi:i<cs.length:=by
     have:=(List.getElem?_eq_some_iff.1 q).1
     omega
    obtain ⟨w,e,S⟩:=hel i _ x (List.getElem?_eq_getElem hi) q
    have e1:cs[i]?=some [w]:=by rw [List.getElem?_eq_getElem hi,e]
    have e2:(cs.flatten.drop (i*1)).take 1=[w]:=flat_at i hcn e1
    refine ⟨w,?_,S.one,jf_put S B1 (by omega) (fun j a _=>o2.2 j a) (Nat.le_refl _)⟩
    have e3:((cs.flatten.drop (i*1)).take 1)[0]?=some w:=by rw [e2];rfl
    rw [List.singleton_append,List.getElem?_cons_succ]
    simpa [List.getElem?_take] using e3
end JN
end Go.Bvm
set_option linter.unusedVariables false
set_option linter.unusedSimpArgs false
set_option maxRecDepth 20000
namespace Go.Bvm.JN
open Go.Bvm
abbrev NdOk (l:List JF):Prop:=∀ x:api_Json,x∈(l:List api_Json)→x.Keys.length≤1000000∧x.Parts.length≤4096
def LsOk (ls:List (List JF)):Prop:=∀ l∈ls,l.length≤1000000∧NdOk l
theorem LsOk.app {ls:List (List JF)} {l:List JF} (h:LsOk ls) (a:l.length≤1000000) (b:NdOk l):LsOk (ls++[l]):=fun y hy=>by
 rcases List.mem_append.1 hy with q | q
 ·exact h y q
 ·simp only [List.mem_cons,List.not_mem_nil,or_false] at q
  rw [q];exact ⟨a,b⟩
structure VA (c:Nat) (h0 h:H) (v:V) (ls:List (List JF)):Prop where
 row:RW c h v ls
 ok:LsOk ls
 lo:∀ i,i<c→hget i h.tr=hget i h0.tr
 nx:c≤h.next
theorem VA.ex {c:Nat} {h0 h h':H} {v:V} {ls:List (List JF)} (a:VA c h0 h v ls) (E:Ex h h'):VA c h0 h' v ls:=⟨a.row.ex E,a.ok,fun i hi=>(E.lo i (by have:=a.nx;omega)).trans (a.lo i hi),by have:=a.nx;have:=E.nx;omega⟩
theorem app_one {c:Nat} {h0 h:H} {v w:V} {ls:List (List JF)} {x:List JF} (a:VA c h0 h v ls) (S:Sl (α:=JF) [] h w x) (hx:x.length≤1000000) (nx:NdOk x) (hl:ls.length≤4000) {k:KV}
  (K:∀ h' v',VA c h0 h' v' (ls++[x])→(∀ {Z:List Nat} {u:V} {y:List JF},Sl (α:=JF) Z h u y→Sl (α:=JF) Z h' u y)→h.next≤h'.next→k v' h'=true) :
  resv 1 h (fun i65 h66=>part 0 true 1 w (vl [V.x .slnil V.nil V.nil]) fun v67=>bslA i65 1 1 Ty_Sl_api_Json v67 h66 fun v68 h69=>app 1 Ty_Sl_api_Json v v68 h69 k)=true:=by
 simp -implicitDefEqProofs (disch:=omega)
 rw [part_one 0 w _ S.one (by simp)]
 refine RW.app a.row S hl a.nx fun h' v' R F=>K h' v' ⟨R,a.ok.app hx nx,fun i hi=>(F.lo i hi).trans (a.lo i hi),by have:=a.nx;have:=F.nx;omega⟩ (fun s=>s.fz F (Nat.le_refl _) (by decide)) F.nx
theorem turned_w {c:Nat} {h0 h h1:H} {v b:V} {ls:List (List JF)} {x:List api_Json} {S Q:List Str} {p i kk:Nat} {x4 x6:V} {n:Nat} {K:KX} (a:VA c h0 h v ls) (hk:kk<5) (hl:ls.length≤3900) (sx:Sl (α:=JF) [] h x4 x) (hx0:x≠[]) (hx:∀ y∈x,P.OKM y) (hxl:x.length≤1000000) {q q0:V} (B:Bk h p 0 0 Ty_amanuensislaw1_Ask true true [q0,b,q]) (hp:p<h.next) (C:Sl [] h q Q) (hQ:Q.length≤3000)
  (Kf:∀ h' v' x6' l,VA c h0 h' v' (ls++[l])→Sl (α:=JF) [] h' x4 x→K X.n (f8 slnil (wz i) (.p p 0 3 0) v' x4 (wz kk) x6' V.u) h'=true):l1_values_9 (run tbl (n+3)) big (f8 slnil (wz i) (.p p 0 3 0) v x4 (wz kk) x6 V.u) h K=true:=by
 have hlen:0<x.length:=by cases x with | nil=>exact absurd rfl hx0 | cons a b=>simp
 unfold l1_values_9
 simp -implicitDefEqProofs (disch:=omega)
 refine CopyJsonsD_w (n:=n) sx hxl (fun y hy=>by obtain ⟨m1,m2,_⟩:=hx y hy;omega) ((kk*x.length / 5+Q.length) % x.length) fun h2 w cp E=>?_
 have lw:∀ k,Go.Bvm.lenL w k=k (wz (x.length:Int)):=by
  obtain ⟨cs,D,w1,w2,R,hcl,_⟩:=cp
  intro k
  rw [R.row.lenL,hcl]
 obtain ⟨_,_,l2',_⟩:=Ask_ld (B.fz E hp (by decide))
 have C2:=C.fz E (Nat.le_refl _) (by simp)
 have hb:(kk:Int)*(x.length:Int)≤5*1000000:=by
  have:kk*x.length≤5*1000000:=Nat.mul_le_mul (by omega) hxl
  have e:(kk:Int)*(x.length:Int)=((kk*x.length:Nat):Int):=by simp
  omega
 have hb0:0≤(kk:Int)*(x.length:Int):=Int.mul_nonneg (by omega) (by omega)
 have hd:(kk:Int)*(x.length:Int) / 5+(Q.length:Int)=((kk*x.length / 5+Q.length:Nat):Int):=by simp
 have hmod:((kk*x.length / 5+Q.length:Nat):Int) % (x.length:Int)=(((kk*x.length / 5+Q.length) % x.length:Nat):Int):=by simp
 have hlt:(kk*x.length / 5+Q.length) % x.length<x.length:=Nat.mod_lt _ hlen
 simp -implicitDefEqProofs (disch:=omega) [lw,l2',C2.lenL]
 rw [Within_eq ⟨by omega,by omega⟩ ⟨by omega,by omega⟩,hd,hmod]
 generalize hat:(kk*x.length / 5+Q.length) % x.length=at_ at *
 refine mut_w (n:=n+3) cp hlt (hx _ (List.getElem_mem hlt)) E.nx rfl hk fun h3 x' S3 b3 n3 lo3=>?_
 show l1_values_8 _ _ _ _ _=true
 unfold l1_values_8
 have E3:Ex h h3:=⟨Nat.le_trans E.nx n3,fun i hi=>(lo3 i hi).trans (E.lo i hi),fun i hi _=>(lo3 i hi).trans (E.lo i hi)⟩
 have sx3:=sx.fz E3 (Nat.le_refl _) (by simp)
 have hl3:((x.set at_ x':List api_Json)).length≤1000000:=by rw [List.length_set];exact hxl
 have ok3:NdOk (x.set at_ x':List api_Json):=fun y hy=>by
  rcases List.mem_or_eq_of_mem_set hy with z | rfl
  ·obtain ⟨m1,m2,_⟩:=hx y z
   exact ⟨by omega,by omega⟩
  ·exact ⟨by omega,by omega⟩
 refine app_one (v:=v) (w:=w) (a.ex E3) S3 hl3 ok3 (by omega) fun h4 v4 a4 keep n4=>?_
 simp -implicitDefEqProofs (disch:=omega)
 exact Kf h4 v4 w _ a4 (keep sx3)
end Go.Bvm.JN
set_option linter.unusedVariables false
set_option linter.unusedSimpArgs false
set_option maxRecDepth 20000
namespace Go.Bvm.JN
open Go.Bvm
theorem VA.E {h0 h:H} {v:V} {ls:List (List JF)} (a:VA h0.next h0 h v ls):Ex h0 h:=⟨a.nx,a.lo,fun i hi _=>a.lo i hi⟩
theorem inner_w {h0 h:H} {v b:V} {ls:List (List JF)} {x:List api_Json} {Q:List Str} {p i:Nat} {x4 x5 x6:V} {n:Nat} {K:KX} (a:VA h0.next h0 h v ls) (hl:ls.length≤3800) (sx:Sl (α:=JF) [] h x4 x) (hx0:x≠[]) (hx:∀ y∈x,P.OKM y) (hxl:x.length≤1000000) {q q0:V} (B:Bk h0 p 0 0 Ty_amanuensislaw1_Ask true true [q0,b,q]) (hp:p<h0.next) (C:Sl [] h0 q Q) (hQ:Q.length≤3000)
  (Kf:∀ h' v' x5' x6' ls',VA h0.next h0 h' v' ls'→ls'.length≤ls.length+6→K X.n (f8 slnil (wz i) (.p p 0 3 0) v' x4 x5' x6' V.u) h'=true):l1_values_11 (run tbl (n+3)) big (f8 slnil (wz i) (.p p 0 3 0) v x4 x5 x6 V.u) h K=true:=by
 unfold l1_values_11
 refine app_one (v:=v) (w:=x4) a sx hxl (fun y hy=>by obtain ⟨m1,m2,_⟩:=hx y hy;omega) (by omega) fun h1 v1 a1 keep n1=>?_
 have sx1:=keep sx
 simp -implicitDefEqProofs (disch:=omega)
 refine loop_w (fun m e h'=>∃ (kk:Nat) (v' y6:V) (ls':List (List JF)),m=5-kk∧kk≤5∧e=f8 slnil (wz i) (.p p 0 3 0) v' x4 (wz kk) y6 V.u∧VA h0.next h0 h' v' ls'∧ls'.length=ls.length+1+kk∧Sl (α:=JF) [] h' x4 x) ?_ big 5 _ _ ⟨0,v1,x6,_,rfl,by decide,rfl,a1,by rw [List.length_append];rfl,sx1⟩ (by unfold big;omega)
 rintro m e h2 ⟨kk,v',y6,ls',rfl,hk5,rfl,a2,hls,sx2⟩ K' Kn Kx Kr
 unfold l1_values_3
 by_cases hk:kk<5
 ·have hk3:(kk:Int)<5:=by omega
  have E2:=a2.E
  simp -implicitDefEqProofs (disch:=omega) [hk3]
  refine turned_w (h1:=h2) (S:=[]) (n:=n) a2 hk (by omega) sx2 hx0 hx hxl (B.fz E2 hp (by decide)) (Nat.lt_of_lt_of_le hp a2.nx) (C.fz E2 (Nat.le_refl _) (by simp)) hQ fun h3 v3 y3 l a3 sx3=>?_
  simp -implicitDefEqProofs (disch:=omega)
  unfold l1_values_10
  simp -implicitDefEqProofs (disch:=omega)
  exact Kn _ _ _ (by omega) ⟨kk+1,v3,y3,_,rfl,by omega,by simp,a3,by rw [List.length_append];show ls'.length+1=_;omega,sx3⟩
 ·have hk3:¬ (kk:Int)<5:=by omega
  simp -implicitDefEqProofs (disch:=omega) [hk3]
  refine Kx _ _ _ ?_
  simp -implicitDefEqProofs (disch:=omega)
  exact Kf _ _ _ _ _ a2 (by omega)
theorem outer_w {h0 h:H} {v b a q:V} {ls:List (List JF)} {S Q:List Str} {p:Nat} {n:Nat} {K:KX} (a0:VA h0.next h0 h v ls) (hl:ls.length≤3001) (B:Bk h0 p 0 0 Ty_amanuensislaw1_Ask true true [a,b,q]) (hp:p<h0.next) (A:Sl [] h0 a S) (C:Sl [] h0 q Q) (hS:∀ s∈S,s.length≤20000) (hQ:Q.length≤3000)
  (Kf:∀ e h' v' ls',e.c0.c3=v'→VA h0.next h0 h' v' ls'→ls'.length≤3900→K X.n e h'=true):l1_values_14 (run tbl (n+25)) big (f8 slnil V.u (.p p 0 3 0) v V.u V.u V.u V.u) h K=true:=by
 have hm:maxB=140737488355328:=rfl
 unfold l1_values_14
 simp -implicitDefEqProofs (disch:=omega)
 refine loop_w (fun m e h'=>∃ (i:Nat) (v' y4 y5 y6:V) (ls':List (List JF)),m=6-i∧i≤6∧e=f8 slnil (wz i) (.p p 0 3 0) v' y4 y5 y6 V.u∧VA h0.next h0 h' v' ls'∧ls'.length≤3001+6*i) ?_ big 6 _ _ ⟨0,v,V.u,V.u,V.u,ls,rfl,by decide,rfl,a0,by omega⟩ (by unfold big;omega)
 rintro m e h1 ⟨i,v',y4,y5,y6,ls',rfl,hi6,rfl,a1,hls⟩ K' Kn Kx Kr
 have E1:=a1.E
 have A1:=A.fz E1 (Nat.le_refl _) (by simp)
 obtain ⟨L0,L1,L2,LA⟩:=Ask_ld (B.fz E1 hp (by decide))
 have lA:∀ k,Go.Bvm.lenL a k=k (wz (S.length:Int)):=A1.lenL
 have stop:K' (X.x 0) (f8 slnil (wz i) (.p p 0 3 0) v' y4 y5 y6 V.u) h1=true:=by
  refine Kx _ _ _ ?_
  simp -implicitDefEqProofs (disch:=omega)
  exact Kf _ _ _ _ rfl a1 (by omega)
 unfold l1_values_1
 by_cases hi:i<S.length
 ·have hi3:(i:Int)<S.length:=by omega
  by_cases h6:i<6
  ·have h63:(i:Int)<6:=by omega
   have next:∀ e h' v' y4 y5 y6 ls',e=f8 slnil (wz i) (.p p 0 3 0) v' y4 y5 y6 V.u→VA h0.next h0 h' v' ls'→ls'.length≤3001+6*(i+1)→l1_values_13 (run tbl (n+25)) big e h' K'=true:=by
    intro e h' v' y4 y5 y6 ls' he a h
    subst he
    unfold l1_values_13
    simp -implicitDefEqProofs (disch:=omega)
    exact Kn _ _ _ (by omega) ⟨i+1,v',y4,y5,y6,ls',rfl,by omega,by simp,a,h⟩
   obtain ⟨f0,a1',a2'⟩:=at_Str A1 hi
   unfold l1_values_12
   simp -implicitDefEqProofs (disch:=omega) [L0,lA,hi3,h63,a1',a2']
   have hsz:=hS _ (List.getElem_mem hi)
   refine rRead_w (n:=n) f0 fun h2 x4 sx b1 b2 E2=>?_
   obtain ⟨ok,ne⟩:=P.Read_okm S[i]
   have okl:=(P.Read_ok S[i]).2
   unfold l1_values_2
   by_cases he:(P.Read S[i]).2.2=0
   ·simp -implicitDefEqProofs (disch:=omega) [he]
    refine inner_w (n:=n+22) (a1.ex E2) (by omega) (Sl_j1 sx.sl) (ne he) ok okl B hp C hQ fun h3 v3 x5 x6 ls3 a3 hl3=>?_
    simp -implicitDefEqProofs (disch:=omega)
    exact next _ _ _ _ _ _ _ rfl a3 (by omega)
   ·simp -implicitDefEqProofs (disch:=omega) [he]
    exact next _ _ _ _ _ _ _ rfl (a1.ex E2) (by omega)
  ·have h63:¬ (i:Int)<6:=by omega
   simp -implicitDefEqProofs (disch:=omega) [L0,lA,hi3,h63]
   exact stop
 ·have hi3:¬ (i:Int)<S.length:=by omega
  simp -implicitDefEqProofs (disch:=omega) [L0,lA,hi3]
  exact stop
theorem values_w {h:H} {a b c:V} {S Q:List Str} {L:List (List JF)} (A:Sl [] h a S) (B:Sl [] h b L) (C:Sl [] h c Q) (hS:∀ s∈S,s.length≤20000) (hL:L.length≤3000) (hLL:LsOk L) (hQ:Q.length≤3000) {n:Nat} {k:KV}
  (K:∀ h' v ls,RW h.next h' v ls→LsOk ls→ls.length≤4000→Ex h h'→k v h'=true):run tbl (n+26) Nf_l1_values (vl [.x .agg (vl [a,b,c]) V.nil]) h k=true:=by
 rw [run_succ,tbl_l1_values]
 unfold T_l1_values l1_values_16
 simp -implicitDefEqProofs (disch:=omega)
 refine newA_w rfl (by decide) (by decide) fun h1 n1 B1 x1=>?_
 have hn1:h1.next=h.next+1:=n1
 have E1:Ex h h1:=x1.ex (Nat.le_refl _)
 obtain ⟨L0,L1,L2,LA⟩:=Ask_ld B1
 have A1:=A.fz E1 (Nat.le_refl _) (by decide)
 have C1:=C.fz E1 (Nat.le_refl _) (by decide)
 have D1:=B.fz E1 (Nat.le_refl _) (by decide)
 simp -implicitDefEqProofs (disch:=omega)
 rw [part_one 0 slnil [slnil] rfl (show 0<1 by decide)]
 refine bslA_w rfl (show 1≤4096 by decide) fun h2 n2 B2 x2=>?_
 have n2':h2.next=h1.next+1:=n2
 have B1':=B1.only (h':=h2) (id:=h1.next) ⟨by omega,x2.2⟩ (by omega)
 obtain ⟨_,L1',_,_⟩:=Ask_ld B1'
 simp -implicitDefEqProofs (disch:=omega) [L1']
 refine RW.start D1 (by omega) n2' B2 ⟨by omega,x2.2⟩ fun h3 v R lo3 n3=>?_
 have okl:LsOk ([]::L):=fun l hl=>by
  rcases List.mem_cons.1 hl with rfl | q
  ·exact ⟨Nat.zero_le _,fun y hy=>absurd hy List.not_mem_nil⟩
  ·exact hLL l q
 have a3:VA h1.next h1 h3 v ([]::L):=⟨R,okl,lo3,n3⟩
 have hlen:(([]:List JF)::L).length=L.length+1:=rfl
 unfold l1_values_0
 have lv:∀ k,Go.Bvm.lenL v k=k (wz ((L.length+1:Nat):Int)):=fun k=>R.len k
 by_cases h7:7<L.length+1
 ·have h7':(7:Int)<(L.length:Int)+1:=by omega
  simp -implicitDefEqProofs (disch:=omega) [lv,h7']
  refine R.cut (i:=7) (by rw [List.length_cons];omega) fun v4 R4=>?_
  have hln:(List.take 7 ([]::L)).length≤3001:=by rw [List.length_take];exact Nat.le_trans (Nat.min_le_left _ _) (by decide)
  refine outer_w (n:=n) ⟨R4,fun l hl=>okl l (List.mem_of_mem_take hl),lo3,n3⟩ hln B1 (by omega) A1 C1 hS hQ fun e h5 v5 ls5 he a5 hl5=>?_
  show l1_values_15 _ _ _ _ _=true
  unfold l1_values_15
  simp -implicitDefEqProofs (disch:=omega) [he]
  have E5:=a5.E
  obtain ⟨r1,r2,r3,r4,r5,r6⟩:=a5.row
  exact K h5 v5 ls5 ⟨r1,r2,r3,r4,r5,by have:=r6.1;omega,r6.2⟩ a5.ok (by omega) (E1.loc E5 (by omega) (by omega))
 ·have h7':¬ (7:Int)<(L.length:Int)+1:=by omega
  simp -implicitDefEqProofs (disch:=omega) [lv,h7']
  refine outer_w (n:=n) a3 (by omega) B1 (by omega) A1 C1 hS hQ fun e h5 v5 ls5 he a5 hl5=>?_
  show l1_values_15 _ _ _ _ _=true
  unfold l1_values_15
  simp -implicitDefEqProofs (disch:=omega) [he]
  have E5:=a5.E
  obtain ⟨r1,r2,r3,r4,r5,r6⟩:=a5.row
  exact K h5 v5 ls5 ⟨r1,r2,r3,r4,r5,by have:=r6.1;omega,r6.2⟩ a5.ok (by omega) (E1.loc E5 (by omega) (by omega))
end Go.Bvm.JN
set_option linter.unusedVariables false
set_option linter.unusedSimpArgs false
set_option maxRecDepth 20000
namespace Go.Bvm.JN
open Go.Bvm
theorem EqJson_f {A B:List Nat} {h:H} {ca cb:List V} {x:api_Json} {k:KV} (E:Enc.rep (α:=JF) A h ca x) (F:Enc.rep (α:=JF) B h cb x) (hk:x.Keys.length≤1000000) (hp:x.Parts.length≤1000000) {n:Nat} (K:∀ h',Ex h h'→k (.t true) h'=true):run tbl (n+2) Nf_z_EqJson (vl [.x .agg (vl ca) V.nil,.x .agg (vl cb) V.nil]) h k=true:=by
 have la:ca.length=5:=Enc.len (α:=JF) E
 have lb:cb.length=5:=Enc.len (α:=JF) F
 rw [run_succ,tbl_z_EqJson]
 unfold T_z_EqJson z_EqJson_2
 simp -implicitDefEqProofs (disch:=omega)
 refine newA_w la (by decide) (by decide) fun h1 n1 B1 x1=>?_
 have E1:Ex h h1:=x1.ex (Nat.le_refl _)
 have hn1:h1.next=h.next+1:=n1
 refine newA_w lb (by decide) (by decide) fun h2 n2 B2 x2=>?_
 have E2:Ex h1 h2:=x2.ex (Nat.le_refl _)
 have hn2:h2.next=h1.next+1:=n2
 have E02:Ex h h2:=E1.loc E2 (by omega) (by omega)
 have B12:=B1.fz E2 (by omega) (by decide)
 have Ea:=Enc.fz (α:=JF) E E02 (Nat.le_refl _) (by decide)
 have Eb:=Enc.fz (α:=JF) F E02 (Nat.le_refl _) (by decide)
 obtain ⟨v1,v2,rfl,f0,f1,f2,f3,f4⟩:=Ea
 obtain ⟨w1,w2,rfl,g0,g1,g2,g3,g4⟩:=Eb
 have La:=fun {o m}=>B12.ld (n:=5) rfl (off:=o) (lim:=m)
 have Lb:=fun {o m}=>B2.ld (n:=5) rfl (off:=o) (lim:=m)
 unfold z_EqJson_1 z_EqJson_0
 have e1:∀ k:KV,k (.t true) h2=true→run tbl (n+1) Nf_z_EqStrings (vl [v1,w1]) h2 k=true:=fun k hk2=>EqStrings_w f3 g3 (by unfold big;omega) (by simpa using hk2)
 have e2:∀ k:KV,k (.t true) h2=true→run tbl (n+1) Nf_z_EqNumbers (vl [v2,w2]) h2 k=true:=fun k hk2=>EqNumbers_w f4 g4 (by unfold big;omega) (by simpa using hk2)
 have:=K h2 E02
 simp -implicitDefEqProofs (disch:=omega) [La,Lb]
 refine e1 _ ?_
 simp -implicitDefEqProofs (disch:=omega) [La,Lb]
 refine e2 _ ?_
 exact this
theorem EqJsons_f {A B:List Nat} {h:H} {va vb:V} {xs:List api_Json} {k:KV} (S:Sl (α:=JF) A h va xs) (T:Sl (α:=JF) B h vb xs) (hl:xs.length≤1000000) (hk:∀ x∈xs,x.Keys.length≤1000000∧x.Parts.length≤1000000) {n:Nat} (K:∀ h',Ex h h'→k (.t true) h'=true):run tbl (n+3) Nf_z_EqJsons (vl [va,vb]) h k=true:=by
 rw [run_succ,tbl_z_EqJsons]
 unfold T_z_EqJsons z_EqJsons_6 z_EqJsons_0 z_EqJsons_4 z_EqJsons_5
 have lS:∀ k,Go.Bvm.lenL va k=k (wz (xs.length:Int)):=S.lenL
 have lT:∀ k,Go.Bvm.lenL vb k=k (wz (xs.length:Int)):=T.lenL
 simp -implicitDefEqProofs (disch:=omega) [lS,lT]
 refine loop_w (fun m e h'=>∃ i:Nat,m=xs.length-i∧i≤xs.length∧e=f8 (V.t false) (wz i) va vb V.u V.u V.u V.u∧Ex h h') ?_ big xs.length _ _ ⟨0,by simp,by omega,rfl,Fz.refl _ _ _ _⟩ (by unfold big;omega)
 rintro m e h1 ⟨i,rfl,hi,rfl,E1⟩ K' Kn Kx Kr
 have S1:=S.fz E1 (Nat.le_refl _) (by decide)
 have T1:=T.fz E1 (Nat.le_refl _) (by decide)
 unfold z_EqJsons_1
 by_cases hi2:i<xs.length
 ·have hi3:(i:Int)<xs.length:=by omega
  obtain ⟨ca,Ea,a1,a2,a3⟩:=S1.at (i:=(i:Int)) (Int.natCast_nonneg i) (getE? (show (i:Int).toNat<xs.length from hi2))
  obtain ⟨cb,Eb,b1,b2,b3⟩:=T1.at (i:=(i:Int)) (Int.natCast_nonneg i) (getE? (show (i:Int).toNat<xs.length from hi2))
  have lca:ca.length=5:=Enc.len (α:=JF) Ea
  have lcb:cb.length=5:=Enc.len (α:=JF) Eb
  have a1':∀ k,iadV 5 va (wz (i:Int)) k=k (pel va (i:Int) 0):=a1
  have b1':∀ k,iadV 5 vb (wz (i:Int)) k=k (pel vb (i:Int) 0):=b1
  have a3':∀ k,lda 5 (pel va (i:Int) 0) h1 k=k (.x .agg (vl ca) V.nil):=fun k=>by
   have:=a3 0 5 k (by decide)
   rw [List.drop_zero,List.take_of_length_le (by omega)] at this
   exact this
  have b3':∀ k,lda 5 (pel vb (i:Int) 0) h1 k=k (.x .agg (vl cb) V.nil):=fun k=>by
   have:=b3 0 5 k (by decide)
   rw [List.drop_zero,List.take_of_length_le (by omega)] at this
   exact this
  have hb:=hk _ (List.getElem_mem hi2)
  unfold z_EqJsons_2 z_EqJsons_3
  simp -implicitDefEqProofs (disch:=omega) [lS,hi3,a1',b1',a3',b3']
  refine EqJson_f (n:=n) Ea Eb hb.1 hb.2 fun h2 E2=>?_
  simp -implicitDefEqProofs (disch:=omega)
  exact Kn _ _ _ (by omega) ⟨i+1,rfl,by omega,by simp,E1.loc E2 E1.nx E1.nx⟩
 ·have hi3:¬ (i:Int)<xs.length:=by omega
  have:=K h1 E1
  simp -implicitDefEqProofs (disch:=omega) [lS,hi3]
  refine Kx _ _ _ ?_
  simp -implicitDefEqProofs (disch:=omega)
  exact this
theorem sl8_eq (v:V) (e:L8) (k:L8→Bool):sl8 v e k=k ⟨e.c0,⟨v,e.c1.c1,e.c1.c2,e.c1.c3,e.c1.c4,e.c1.c5,e.c1.c6,e.c1.c7⟩,e.c2,e.c3,e.c4,e.c5,e.c6,e.c7⟩:=(Eq.refl _).trans rfl
theorem sl10_eq (v:V) (e:L8) (k:L8→Bool):sl10 v e k=k ⟨e.c0,⟨e.c1.c0,e.c1.c1,v,e.c1.c3,e.c1.c4,e.c1.c5,e.c1.c6,e.c1.c7⟩,e.c2,e.c3,e.c4,e.c5,e.c6,e.c7⟩:=(Eq.refl _).trans rfl
theorem sl11_eq (v:V) (e:L8) (k:L8→Bool):sl11 v e k=k ⟨e.c0,⟨e.c1.c0,e.c1.c1,e.c1.c2,v,e.c1.c4,e.c1.c5,e.c1.c6,e.c1.c7⟩,e.c2,e.c3,e.c4,e.c5,e.c6,e.c7⟩:=(Eq.refl _).trans rfl
theorem sl12_eq (v:V) (e:L8) (k:L8→Bool):sl12 v e k=k ⟨e.c0,⟨e.c1.c0,e.c1.c1,e.c1.c2,e.c1.c3,v,e.c1.c5,e.c1.c6,e.c1.c7⟩,e.c2,e.c3,e.c4,e.c5,e.c6,e.c7⟩:=(Eq.refl _).trans rfl
theorem sl13_eq (v:V) (e:L8) (k:L8→Bool):sl13 v e k=k ⟨e.c0,⟨e.c1.c0,e.c1.c1,e.c1.c2,e.c1.c3,e.c1.c4,v,e.c1.c6,e.c1.c7⟩,e.c2,e.c3,e.c4,e.c5,e.c6,e.c7⟩:=(Eq.refl _).trans rfl
theorem sl14_eq (v:V) (e:L8) (k:L8→Bool):sl14 v e k=k ⟨e.c0,⟨e.c1.c0,e.c1.c1,e.c1.c2,e.c1.c3,e.c1.c4,e.c1.c5,v,e.c1.c7⟩,e.c2,e.c3,e.c4,e.c5,e.c6,e.c7⟩:=(Eq.refl _).trans rfl
theorem sl15_eq (v:V) (e:L8) (k:L8→Bool):sl15 v e k=k ⟨e.c0,⟨e.c1.c0,e.c1.c1,e.c1.c2,e.c1.c3,e.c1.c4,e.c1.c5,e.c1.c6,v⟩,e.c2,e.c3,e.c4,e.c5,e.c6,e.c7⟩:=(Eq.refl _).trans rfl
theorem num_eq {z:Int} {h:H} {n:Nat} {k:KV}:run tbl (n+1) Nf_l1_num (vl [wz z]) h k=k (wz z) h:=by
 rw [run_succ,tbl_l1_num]
 unfold T_l1_num l1_num_0
 simp -implicitDefEqProofs (disch:=omega)
theorem app_res {c id:Nat} {h:H} {r:V} {l:List Str} {s:Str} {k:KV} (S:SlO [] c h r l) (hid:id<c) (hc:c≤h.next) (hl:l.length≤1000000) (hs:s.length≤maxB)
  (K:∀ h' w,Sl [] h' w (l++[s])→h.next≤h'.next→(∀ j,j<id→hget j h'.tr=hget j h.tr)→k w h'=true):bslA id 1 1 Ty_string (vl [vs s]) h (fun v h1=>app 1 Ty_string r v h1 k)=true:=by
 have hmB:maxB=140737488355328:=rfl
 obtain ⟨cs,⟨hcn,hcl,q⟩,hlen,hel⟩:=S
 have hcn:∀ c∈cs,c.length=1:=hcn
 have hlen:cs.length=l.length:=hlen
 have hcn':∀ d∈cs++[[vs s]],d.length=1:=fun d hd=>by
  simp only [List.mem_append,List.mem_cons,List.not_mem_nil,or_false] at hd
  rcases hd with z | rfl
  ·exact hcn d z
  ·rfl
 have hall:∀ g:H,All [] g (cs++[[vs s]]) (l++[s]):=fun g=>All.snoc ⟨hlen,fun i c x e1 e2=>hel i c x e1 e2⟩ ⟨rfl,hs⟩
 refine bslA_w rfl (show 1≤4096 by decide) fun h1 n1 b1 o1=>?_
 rcases q with ⟨rfl,rfl⟩ | ⟨id2,ver,rfl,hci,hid2,B⟩
 ·refine app_nil_w (n:=1) b1 (by decide) (by decide) (show 0+1*1≤1 by decide) (by decide) fun h2 n2 b2 o2=>K h2 _ ⟨_,⟨hcn',by simp;omega,.inr ⟨h1.next,0,0,0,false,true,_,rfl,⟨by omega,by simp⟩,b2.f,by simp;decide,by simp;rfl⟩⟩,hall h2⟩ (by omega) fun j hj=>?_
  rw [o2.2 j (by omega),o1.2 j (by omega)]
 ·have B1:=B.only (h':=h1) (id:=id) o1 (by omega)
  have hfl:cs.flatten.length=cs.length*1:=flat_len hcn
  refine app_row_w (n:=1) b1 B1 (by decide) (by decide) (show 0+1*1≤1 by decide) hfl (by omega) fun h2 n2 b2 o2=>K h2 _ ⟨_,⟨hcn',by simp;omega,.inr ⟨id2,0,ver+1,0,false,true,_,by simp;rfl,⟨by omega,by simp⟩,b2.f,?_,?_⟩⟩,hall h2⟩ (by omega) fun j hj=>?_
  ·show 0+(cs++[[vs s]]).length*1≤(cs.flatten++[vs s]).length
   rw [List.length_append,List.length_append,hfl];show 0+(cs.length+1)*1≤cs.length*1+1;omega
  ·show ((cs.flatten++[vs s]).drop 0).take ((cs++[[vs s]]).length*1)=(cs++[[vs s]]).flatten
   rw [List.drop_zero,List.take_of_length_le (by rw [List.length_append,List.length_append,hfl];show cs.length*1+1≤(cs.length+1)*1;omega),List.flatten_append]
   rfl
  ·rw [o2.2 j (by omega),o1.2 j (by omega)]
structure WF (h:H) (p:Nat) (a b q:V) (Q:List Str):Prop where
 pin:Pin h
 pg:Pg<h.next
 e1:ErrAt h 1
 e2:ErrAt h 2
 g1:2<h.next
 C:Sl [] h q Q
 B:Bk h p 0 0 Ty_amanuensislaw1_Ask true true [a,b,q]
 hp:p<h.next
theorem ErrAt.ex {h h':H} {g:Nat} (e:ErrAt h g) (E:Ex h h') (hg:g<h.next):ErrAt h' g:=by
 obtain ⟨c,size,frz,elem,ex,t,a,b,e1,e2⟩:=e
 exact ⟨c,size,frz,elem,ex,t,a,b,(E.lo g hg).trans e1,e2⟩
theorem WF.ex {h h':H} {p:Nat} {a b q:V} {Q:List Str} (w:WF h p a b q Q) (E:Ex h h'):WF h' p a b q Q:=
 ⟨(E.lo _ w.pg).trans w.pin,Nat.lt_of_lt_of_le w.pg E.nx,w.e1.ex E (Nat.lt_trans (by decide) w.g1),w.e2.ex E w.g1,Nat.lt_of_lt_of_le w.g1 E.nx,w.C.fz E (Nat.le_refl _) (by simp),w.B.fz E w.hp (by decide),Nat.lt_of_lt_of_le w.hp E.nx⟩
theorem Wakes_w {n:Nat} {h:H} {k:KV} (p:Pin h) (K:k (.t true) h=true):run tbl (n+1) Nf_l1_wakes V.nil h k=true:=by
 rw [run_succ,tbl_l1_wakes]
 show onPin (hget Pg h.tr) _=true
 rw [show hget Pg h.tr=.pin 0 0 0 from p]
 exact K
theorem Sl_inR {h:H} {v:V} {l:List api_Json} (S:Sl (α:=JF) [] h v l):∀ x∈l,inR x.N:=fun x hx=>by
 obtain ⟨i,hi,rfl⟩:=List.mem_iff_getElem.1 hx
 obtain ⟨cs,E,_⟩:=S.at (i:=(i:Int)) (Int.natCast_nonneg i) (getE? (show (i:Int).toNat<l.length from hi))
 obtain ⟨_,_,_,_,f1,_⟩:=E
 exact f1
end Go.Bvm.JN
set_option linter.unusedVariables false
set_option linter.unusedSimpArgs false
set_option maxRecDepth 20000
namespace Go.Bvm.JN
open Go.Bvm
noncomputable abbrev fW (p i:Nat) (v y:V) (bad:Int) (want:Str) (k1 k2 k3 k4 k5 k6:V):L8:=⟨⟨.t false,.p p 0 3 0,wz i,v,y,wz bad,wz bad,vs want⟩,⟨vs want,k1,k2,k3,k4,k5,k6,V.u⟩,n8 V.u,n8 V.u,n8 V.u,n8 V.u,n8 V.u,n8 V.u⟩
abbrev badOf (l:List api_Json):Int:=if P.May l=true then 0 else 1
def wantOf (l:List api_Json):Str:=if P.May l=true then P.Text l else []
structure RD (h:H) (p:Nat) (a b q:V) (Q:List Str) (c:Nat) (v y:V) (ls:List (List JF)) (i:Nat) (l:List api_Json):Prop where
 wf:WF h p a b q Q
 row:RW c h v ls
 hi:i<ls.length
 hl:ls[i]=l
 cp:Sl (α:=JF) [] h y l
 len:l.length≤1000000
 ok:NdOk l
theorem RD.ex {h h':H} {p:Nat} {a b q:V} {Q:List Str} {c:Nat} {v y:V} {ls:List (List JF)} {i:Nat} {l:List api_Json} (r:RD h p a b q Q c v y ls i l) (E:Ex h h'):RD h' p a b q Q c v y ls i l:=
 ⟨r.wf.ex E,r.row.ex E,r.hi,r.hl,r.cp.fz E (Nat.le_refl _) (by simp),r.len,r.ok⟩
theorem RD.at {h:H} {p:Nat} {a b q:V} {Q:List Str} {c:Nat} {v y:V} {ls:List (List JF)} {i:Nat} {l:List api_Json} (r:RD h p a b q Q c v y ls i l):∃ w,(∀ k,iadV 1 v (wz (i:Int)) k=k (pel v (i:Int) 0))∧(∀ k,ld1 (pel v (i:Int) 0) h k=k w)∧Sl (α:=JF) [] h w l:=by
 obtain ⟨w,h1,h2,h3⟩:=r.row.at r.hi
 have:=r.hl
 exact ⟨w,h1,h2,this ▸ h3⟩
theorem get_bd {l:List api_Json} (hp:∀ x∈l,∀ p∈x.Parts,p≤4000):∀ (path:List Str) (a:Nat),a≤4000→-1≤P.get l path a∧P.get l path a≤4000
 | [],a,h=>⟨by show (-1:Int)≤(a:Int);omega,by show (a:Int)≤4000;omega⟩
 | s::r,a,h=>by
  rw [P.get]
  cases hx:l[a]? with
  | none=>exact ⟨Int.le_refl _,show (-1:Int)≤4000 by decide⟩
  | some x=>
   dsimp only
   split
   ·exact ⟨Int.le_refl _,by decide⟩
   ·refine get_bd hp r _ ?_
    unfold P.step
    split
    ·decide
    ·rw [List.getD_eq_getElem?_getD]
     cases e:x.Parts[(P.stepK x s).toNat]? with
     | none=>exact Nat.zero_le _
     | some p=>
      have:=hp x (List.mem_of_getElem? hx) p (List.mem_of_getElem? e)
      show p.toNat≤4000
      omega
theorem get_ok {l:List api_Json} {all:List Shp} (O:P.Ok l all) (hl:l.length≤300) (path:List Str):-1≤P.get l path (l.length-1)∧P.get l path (l.length-1)≤4000:=
 get_bd (fun x hx p hp=>by
  obtain ⟨i,hi,rfl⟩:=List.mem_iff_getElem.1 hx
  obtain ⟨y,_,_,_,_,_,_,_,h7,_⟩:=O.part (List.getElem?_eq_getElem hi)
  have:=h7 p hp
  omega) path _ (by omega)
theorem path8_w {h:H} {p:Nat} {a b q:V} {Q:List Str} {c:Nat} {v y:V} {ls:List (List JF)} {i:Nat} {l:List api_Json} (r:RD h p a b q Q c v y ls i l) {n:Nat} {K:KX} {k1 k2:V} {want:Str} {f g:Int} (hf:0≤f∧f≤3) (hg:0≤g∧g≤4000)
  (K0:∀ h',Ex h h'→K X.n (fW p i v y (badOf l) want k1 k2 (wz f) (wz f) (wz g) (wz g)) h'=true):l1_JsonWrites_8 (run tbl (n+3)) big (fW p i v y (badOf l) want k1 k2 (wz f) (wz f) (wz g) (wz g)) h K=true:=by
 unfold l1_JsonWrites_8 l1_JsonWrites_7
 obtain ⟨w,w1,w2,w3⟩:=r.at
 rw [num_eq]
 simp -implicitDefEqProofs (disch:=omega) [w1,w2]
 refine EqJsons_f (n:=n) r.cp w3 r.len (fun x hx=>by have:=r.ok x hx;omega) fun h2 E2=>?_
 simp -implicitDefEqProofs (disch:=omega)
 exact K0 h2 E2
theorem path6_w {h:H} {p:Nat} {a b q:V} {Q:List Str} {c:Nat} {v y pv:V} {ls:List (List JF)} {i:Nat} {l:List api_Json} (r:RD h p a b q Q c v y ls i l) {n:Nat} {K:KX} {k1 k2:V} {want:Str} {f g:Int} {path:List Str} (PA:Sl [] h pv path) (hpl:path.length≤1000000)
  (s1:P.May l=false→g=0∧f=1) (s2:P.May l=true→(P.get l path (l.length-1)<0→g=0∧f=3)∧(0≤P.get l path (l.length-1)→g=P.get l path (l.length-1)∧f=0))
  (K0:∀ h',0≤f∧f≤3→0≤g∧g≤4000→Ex h h'→K X.n (fW p i v y (badOf l) want k1 k2 (wz f) (wz f) (wz g) (wz g)) h'=true):l1_JsonWrites_6 (run tbl (n+2)) big pv (fW p i v y (badOf l) want k1 k2 (wz f) (wz (badOf l)) (wz g) (wz 0)) h K=true:=by
 unfold l1_JsonWrites_6
 obtain ⟨w,w1,w2,w3⟩:=r.at
 cases hm:P.May l with
 | false=>
  obtain ⟨rfl,rfl⟩:=s1 hm
  have hb:badOf l=1:=by unfold badOf;rw [hm];rfl
  have:=K0 h (by decide) (by decide) (Fz.refl _ _ _ _)
  rw [hb] at this ⊢
  simp -implicitDefEqProofs (disch:=omega)
  exact this
 | true=>
  obtain ⟨all,O,_,hl1,hl3⟩:=P.ok_of hm
  have hb:badOf l=0:=by unfold badOf;rw [hm];rfl
  obtain ⟨t1,t2⟩:=s2 hm
  rw [hb] at K0 ⊢
  simp -implicitDefEqProofs (disch:=omega) [w1,w2]
  refine rGet_w (n:=n) O hl1 hl3 w3 PA hpl r.ok r.wf.pin r.wf.pg fun h2 E2=>?_
  rw [← P.get_eq O (fun x hx=>(r.ok x hx).2)]
  obtain ⟨u1,u2⟩:=get_ok O hl3 path
  by_cases hg:0≤P.get l path (l.length-1)
  ·obtain ⟨rfl,rfl⟩:=t2 hg
   have hg':P.get l path (l.length-1)≥0:=hg
   simp -implicitDefEqProofs (disch:=omega) [hg',sl14_eq]
   exact K0 h2 (by decide) ⟨hg,u2⟩ E2
  ·obtain ⟨rfl,rfl⟩:=t1 (by omega)
   have hg':¬ P.get l path (l.length-1)≥0:=hg
   simp -implicitDefEqProofs (disch:=omega) [hg',sl12_eq]
   exact K0 h2 (by decide) (by decide) E2
end Go.Bvm.JN
set_option linter.unusedVariables false
set_option linter.unusedSimpArgs false
set_option maxRecDepth 20000
namespace Go.Bvm.JN
open Go.Bvm
theorem ex2 {h h1 h2:H} (A:Ex h h1) (B:Ex h1 h2):Ex h h2:=A.loc B A.nx A.nx
theorem onP_p (a b c d:Nat) (k:Nat→Nat→Nat→Nat→Bool):onP (.p a b c d) k=k a b c d:=(Eq.refl _).trans rfl
theorem low_str {c id:Nat} {h h':H} {v:V} {l:List Str} (S:SlO [] c h v l) (o:Only h h' id) (hi:id<c):SlO [] c h' v l:=by
 obtain ⟨cs,⟨hcn,hcl,q⟩,A⟩:=S
 refine ⟨cs,⟨hcn,hcl,?_⟩,A.gx o.1 fun j _ _ hk=>?_⟩
 ·rcases q with q | ⟨j,ver,e,hc,hj,B⟩
  ·exact .inl q
  ·exact .inr ⟨j,ver,e,hc,⟨Nat.lt_of_lt_of_le hj.1 o.1,hj.2⟩,B.only o (by omega)⟩
 ·exact absurd hk (List.not_mem_nil)
theorem path9_w {h:H} {p:Nat} {a b q:V} {Q:List Str} {c:Nat} {v y:V} {ls:List (List JF)} {i:Nat} {l:List api_Json} (r:RD h p a b q Q c v y ls i l) (hQ:Q.length≤3000) (hQs:∀ s∈Q,s.length≤3000) {n k j:Nat} {K:KX} {k3 k4 k5 k6:V} {want:Str} (hk:k≤Q.length) (hj:j<3)
  (K0:∀ h' k3 k4 k5 k6,Ex h h'→K X.n (fW p i v y (badOf l) want (wz k) (wz j) k3 k4 k5 k6) h'=true):l1_JsonWrites_9 (run tbl (n+13)) big (fW p i v y (badOf l) want (wz k) (wz j) k3 k4 k5 k6) h K=true:=by
 unfold l1_JsonWrites_9
 obtain ⟨L0,L1,L2,LA⟩:=Ask_ld r.wf.B
 simp -implicitDefEqProofs (disch:=omega) [L2]
 have hm:maxB=140737488355328:=rfl
 have E0:Ex h ⟨h.next+2,h.tr⟩:=(Fz.refl _ _ _ h).up 2
 have C1:=(r.wf.ex E0).C
 have hQs':∀ s:Str,s∈Q→s.length≤3000:=hQs
 refine Sl.take_w C1 hk fun w W=>?_
 have htk:(Q.take k).length≤1000000:=by rw [List.length_take];omega
 refine CopyStrings_w (n:=n+12) W htk fun h2 u U E2=>?_
 have n2:h.next+2≤h2.next:=E2.nx
 refine bslA_w (l:=[vs [48],vs [97],vs []]) rfl (show 3≤4096 by decide) fun h1 n1 B1 x1=>?_
 have U1:=low_str U x1 (by show h.next<h.next+2;omega)
 obtain ⟨sj,hsj,rd⟩ : ∃ sj:Str,sj.length≤1∧∀ (k:V→Bool),ld1 (.p h.next (0+j*1) (0+3*1) 0) h1 k=k (vs sj):=by
  have h012:j=0∨j=1∨j=2:=by omega
  rcases h012 with rfl | rfl | rfl
  ·exact ⟨[48],by decide,fun k=>B1.ld (n:=3) rfl (by decide) (by decide) k⟩
  ·exact ⟨[97],by decide,fun k=>B1.ld (n:=3) rfl (by decide) (by decide) k⟩
  ·exact ⟨[],by decide,fun k=>B1.ld (n:=3) rfl (by decide) (by decide) k⟩
 rw [iadV_z 1 h.next 0 3 0 j hj,onP_p,show Nat.beq h.next h.next=true from Nat.beq_refl _,both_t,rd]
 simp -implicitDefEqProofs (disch:=omega)
 refine app_res U1 (id:=h.next+1) (by show h.next+1<h.next+2;omega) (by show h.next+2≤h1.next;omega) htk (by omega) fun h3 pv PA n3 lo3=>?_
 have lo:∀ t,t<h.next→hget t h3.tr=hget t h.tr:=fun t ht=>by
  rw [lo3 t (by omega),x1.2 t (by omega),E2.lo t (by show t<h.next+2;omega)]
 have E3:Ex h h3:=⟨by omega,lo,fun t ht _=>lo t ht⟩
 have r3:=r.ex E3
 have hpl:(Q.take k++[sj]).length≤1000000:=by rw [List.length_append,List.length_take];show _+1≤_;omega
 have hps:∀ s∈Q.take k++[sj],s.length≤1000000:=fun s hs=>by
  rcases List.mem_append.1 hs with z | z
  ·have:=hQs' s (List.mem_of_mem_take z);omega
  ·simp only [List.mem_cons,List.not_mem_nil,or_false] at z
   rw [z];omega
 refine Get_w (n:=n) r3.cp PA hpl hps r3.ok r3.wf.e1 r3.wf.e2 r3.wf.pin r3.wf.g1 r3.wf.pg fun h4 z e E4 s1 s2=>?_
 have r4:=r3.ex E4
 simp -implicitDefEqProofs (disch:=omega) [sl13_eq,sl11_eq,sl12_eq,sl14_eq]
 refine path6_w (n:=n+11) r4 (PA.fz E4 (Nat.le_refl _) (by simp)) hpl s1 s2 fun h5 b1 b2 E5=>?_
 simp -implicitDefEqProofs (disch:=omega)
 refine path8_w (n:=n+10) (r4.ex E5) b1 b2 fun h6 E6=>?_
 exact K0 h6 _ _ _ _ (ex2 (ex2 (ex2 E3 E4) E5) E6)
theorem paths_w {h0:H} {p:Nat} {a b q:V} {Q:List Str} {c:Nat} {v y:V} {ls:List (List JF)} {i:Nat} {l:List api_Json} (r0:RD h0 p a b q Q c v y ls i l) (hQ:Q.length≤3000) (hQs:∀ s∈Q,s.length≤3000) {n k:Nat} {K:KX} {k2 k3 k4 k5 k6:V} {want:Str} (hk:k≤Q.length)
  (K0:∀ h' k2 k3 k4 k5 k6,Ex h0 h'→K X.n (fW p i v y (badOf l) want (wz k) k2 k3 k4 k5 k6) h'=true):l1_JsonWrites_11 (run tbl (n+13)) big (fW p i v y (badOf l) want (wz k) k2 k3 k4 k5 k6) h0 K=true:=by
 unfold l1_JsonWrites_11
 simp -implicitDefEqProofs (disch:=omega) [sl10_eq]
 refine loop_w (fun m e h'=>∃ (j:Nat) (k3 k4 k5 k6:V),m=3-j∧j≤3∧e=fW p i v y (badOf l) want (wz k) (wz j) k3 k4 k5 k6∧Ex h0 h') ?_ big 3 _ _ ⟨0,k3,k4,k5,k6,rfl,by decide,rfl,Fz.refl _ _ _ _⟩ (by unfold big;omega)
 rintro m e h1 ⟨j,k3,k4,k5,k6,rfl,hj3,rfl,E1⟩ K' Kn Kx Kr
 unfold l1_JsonWrites_5
 by_cases hj:j<3
 ·have hj':(j:Int)<3:=by omega
  simp -implicitDefEqProofs (disch:=omega) [hj']
  refine path9_w (r0.ex E1) hQ hQs (n:=n) hk hj fun h2 k3 k4 k5 k6 E2=>?_
  simp -implicitDefEqProofs (disch:=omega)
  unfold l1_JsonWrites_10
  simp -implicitDefEqProofs (disch:=omega) [sl10_eq]
  exact Kn _ _ _ (by omega) ⟨j+1,k3,k4,k5,k6,rfl,by omega,by simp,ex2 E1 E2⟩
 ·have hj':¬ (j:Int)<3:=by omega
  simp -implicitDefEqProofs (disch:=omega) [hj']
  refine Kx _ _ _ ?_
  simp -implicitDefEqProofs (disch:=omega)
  exact K0 h1 _ _ _ _ _ E1
theorem allpaths_w {h0:H} {p:Nat} {a b q:V} {Q:List Str} {c:Nat} {v y:V} {ls:List (List JF)} {i:Nat} {l:List api_Json} (r0:RD h0 p a b q Q c v y ls i l) (hQ:Q.length≤3000) (hQs:∀ s∈Q,s.length≤3000) {n:Nat} {K:KX} {k1 k2 k3 k4 k5 k6:V} {want:Str}
  (K0:∀ h' k1 k2 k3 k4 k5 k6,Ex h0 h'→K X.n (fW p i v y (badOf l) want k1 k2 k3 k4 k5 k6) h'=true):l1_JsonWrites_13 (run tbl (n+13)) big (fW p i v y (badOf l) want k1 k2 k3 k4 k5 k6) h0 K=true:=by
 unfold l1_JsonWrites_13
 simp -implicitDefEqProofs (disch:=omega) [sl9_eq]
 refine loop_w (fun m e h'=>∃ (k:Nat) (k2 k3 k4 k5 k6:V),m=4-k∧k≤4∧e=fW p i v y (badOf l) want (wz k) k2 k3 k4 k5 k6∧Ex h0 h') ?_ big 4 _ _ ⟨0,k2,k3,k4,k5,k6,rfl,by decide,rfl,Fz.refl _ _ _ _⟩ (by unfold big;omega)
 rintro m e h1 ⟨k,k2,k3,k4,k5,k6,rfl,hk4,rfl,E1⟩ K' Kn Kx Kr
 have r1:=r0.ex E1
 obtain ⟨L0,L1,L2,LA⟩:=Ask_ld r1.wf.B
 have lq:∀ k,Go.Bvm.lenL q k=k (wz (Q.length:Int)):=r1.wf.C.lenL
 unfold l1_JsonWrites_4
 have stop:K' (X.x 2) (fW p i v y (badOf l) want (wz k) k2 k3 k4 k5 k6) h1=true:=by
  refine Kx _ _ _ ?_
  simp -implicitDefEqProofs (disch:=omega)
  exact K0 h1 _ _ _ _ _ _ E1
 by_cases hk:k≤Q.length
 ·have hk':(k:Int)≤(Q.length:Int):=by omega
  by_cases h4:k<4
  ·have h4':(k:Int)<4:=by omega
   simp -implicitDefEqProofs (disch:=omega) [L2,lq,hk',h4']
   refine paths_w r1 hQ hQs (n:=n) hk fun h2 k2 k3 k4 k5 k6 E2=>?_
   simp -implicitDefEqProofs (disch:=omega)
   unfold l1_JsonWrites_12
   simp -implicitDefEqProofs (disch:=omega) [sl9_eq]
   exact Kn _ _ _ (by omega) ⟨k+1,k2,k3,k4,k5,k6,rfl,by omega,by simp,ex2 E1 E2⟩
  ·have h4':¬ (k:Int)<4:=by omega
   simp -implicitDefEqProofs (disch:=omega) [L2,lq,hk',h4']
   exact stop
 ·have hk':¬ (k:Int)≤(Q.length:Int):=by omega
  simp -implicitDefEqProofs (disch:=omega) [L2,lq,hk']
  exact stop
end Go.Bvm.JN
set_option linter.unusedVariables false
set_option linter.unusedSimpArgs false
set_option maxRecDepth 20000
namespace Go.Bvm.JN
open Go.Bvm
theorem last_w {h:H} {p:Nat} {a b q:V} {Q:List Str} {c:Nat} {v y:V} {ls:List (List JF)} {i:Nat} {l:List api_Json} (r:RD h p a b q Q c v y ls i l) {n:Nat} {K:KX} {k1 k2 k3 k4 k5 k6:V} {want:Str}
  (K0:∀ h',Ex h h'→K X.n (fW p i v y (badOf l) want k1 k2 k3 k4 k5 k6) h'=true):l1_JsonWrites_16 (run tbl (n+13)) big (fW p i v y (badOf l) want k1 k2 k3 k4 k5 k6) h K=true:=by
 unfold l1_JsonWrites_16
 simp -implicitDefEqProofs (disch:=omega)
 refine Get_w (n:=n) (path:=[]) r.cp (.nil _ _) (by decide) (fun s hs=>absurd hs List.not_mem_nil) r.ok r.wf.e1 r.wf.e2 r.wf.pin r.wf.g1 r.wf.pg fun h4 z e E4 s1 s2=>?_
 have ly:∀ k,Go.Bvm.lenL y k=k (wz (l.length:Int)):=(r.ex E4).cp.lenL
 have hg:P.get l [] (l.length-1)=((l.length-1:Nat):Int):=rfl
 rw [hg] at s2
 unfold l1_JsonWrites_15 l1_JsonWrites_14
 have hlen:=r.len
 cases hm:P.May l with
 | false=>
  obtain ⟨rfl,rfl⟩:=s1 hm
  have hb:badOf l=1:=by unfold badOf;rw [hm];rfl
  have:=K0 h4 E4
  rw [hb] at this ⊢
  simp -implicitDefEqProofs (disch:=omega) [num_eq]
  exact this
 | true=>
  obtain ⟨all,O,_,hl1,hl3⟩:=P.ok_of hm
  have hb:badOf l=0:=by unfold badOf;rw [hm];rfl
  obtain ⟨rfl,rfl⟩:=(s2 hm).2 (by omega)
  have:=K0 h4 E4
  rw [hb] at this ⊢
  have e1:((l.length-1:Nat):Int)=(l.length:Int)-1:=by omega
  simp -implicitDefEqProofs (disch:=omega) [num_eq,ly,e1]
  exact this
theorem check_w {h:H} {p:Nat} {a b q:V} {Q:List Str} {c:Nat} {v y:V} {ls:List (List JF)} {i:Nat} {l:List api_Json} (r:RD h p a b q Q c v y ls i l) {n:Nat} {K:KX} {k1 k2 k3 k4 k5 k6:V} {want:Str}
  (K0:∀ h',Ex h h'→K X.n (fW p i v y (badOf l) want k1 k2 k3 k4 k5 k6) h'=true):l1_JsonWrites_3 (run tbl (n+13)) big (fW p i v y (badOf l) want k1 k2 k3 k4 k5 k6) h K=true:=by
 unfold l1_JsonWrites_3
 simp -implicitDefEqProofs (disch:=omega)
 refine Check_w (n:=n) r.cp r.ok fun h1 E1=>?_
 have:=K0 h1 E1
 cases hm:P.May l with
 | false=>
  have hb:badOf l=1:=by unfold badOf;rw [hm];rfl
  rw [hb] at this ⊢
  simp -implicitDefEqProofs (disch:=omega) [num_eq]
  exact this
 | true=>
  have hb:badOf l=0:=by unfold badOf;rw [hm];rfl
  rw [hb] at this ⊢
  simp -implicitDefEqProofs (disch:=omega) [num_eq]
  exact this
theorem may_w {h:H} {p:Nat} {a b q:V} {Q:List Str} {c:Nat} {v y:V} {ls:List (List JF)} {i:Nat} {l:List api_Json} (r:RD h p a b q Q c v y ls i l) {n:Nat} {K:KX} {k1 k2 k3 k4 k5 k6 e s:V}
  (K0:∀ h',Ex h h'→K X.n ⟨⟨.t false,.p p 0 3 0,wz i,v,y,wz (badOf l),e,s⟩,⟨vs (wantOf l),k1,k2,k3,k4,k5,k6,V.u⟩,n8 V.u,n8 V.u,n8 V.u,n8 V.u,n8 V.u,n8 V.u⟩ h'=true):l1_JsonWrites_2 (run tbl (n+13)) big ⟨⟨.t false,.p p 0 3 0,wz i,v,y,wz 1,e,s⟩,⟨vs [],k1,k2,k3,k4,k5,k6,V.u⟩,n8 V.u,n8 V.u,n8 V.u,n8 V.u,n8 V.u,n8 V.u⟩ h K=true:=by
 unfold l1_JsonWrites_2
 obtain ⟨w,w1,w2,w3⟩:=r.at
 simp -implicitDefEqProofs (disch:=omega) [w1,w2]
 refine rMay_w (n:=n) w3 r.ok fun h1 E1=>?_
 have r1:=r.ex E1
 obtain ⟨u,u1,u2,u3⟩:=r1.at
 rw [← P.May_eq]
 cases hm:P.May l with
 | false=>
  have hb:badOf l=1:=by unfold badOf;rw [hm];rfl
  have hw:wantOf l=[]:=by unfold wantOf;rw [hm];rfl
  have:=K0 h1 E1
  rw [hb,hw] at this
  simp -implicitDefEqProofs (disch:=omega)
  exact this
 | true=>
  obtain ⟨all,O,_,hl1,hl3⟩:=P.ok_of hm
  have hb:badOf l=0:=by unfold badOf;rw [hm];rfl
  have hw:wantOf l=P.Text l:=by unfold wantOf;rw [hm];rfl
  rw [hb,hw] at K0
  obtain ⟨y2,hy⟩ : ∃ y,all[l.length-1]?=some y:=⟨_,List.getElem?_eq_getElem (by rw [O.len];omega)⟩
  have g:=O.good _ _ hy
  have ll:∀ k,Go.Bvm.lenL u k=k (wz (l.length:Int)):=u3.lenL
  have el:(wz ((l.length:Int)-1):V)=wz ((l.length-1:Nat):Int):=by congr 1;omega
  simp -implicitDefEqProofs (disch:=omega) [u1,u2,ll]
  rw [el]
  refine rWrite_w O (n:=n+1) hl3 (Sl_inR u3) r.ok 9 h1 _ y2 _ hy (by omega) u3 r1.wf.pin r1.wf.pg fun h2 E2=>?_
  simp -implicitDefEqProofs (disch:=omega) [sl8_eq]
  exact K0 h2 (ex2 E1 E2)
noncomputable abbrev fV (p i:Nat) (v y4 y5 y6 y7 z0 z1 z2 z3 z4 z5 z6:V):L8:=⟨⟨.t false,.p p 0 3 0,wz i,v,y4,y5,y6,y7⟩,⟨z0,z1,z2,z3,z4,z5,z6,V.u⟩,n8 V.u,n8 V.u,n8 V.u,n8 V.u,n8 V.u,n8 V.u⟩
theorem round_w {h:H} {p:Nat} {a b q:V} {Q:List Str} {c:Nat} {v:V} {ls:List (List JF)} {i:Nat} (wf:WF h p a b q Q) (R:RW c h v ls) (hi:i<ls.length) (ok:LsOk ls) (hQ:Q.length≤3000) (hQs:∀ s∈Q,s.length≤3000) {n:Nat} {K:KX} {y4 y5 y6 y7 z0 z1 z2 z3 z4 z5 z6:V}
  (K0:∀ h' y4 y5 y6 y7 z0 z1 z2 z3 z4 z5 z6,Ex h h'→K X.n (fV p i v y4 y5 y6 y7 z0 z1 z2 z3 z4 z5 z6) h'=true):l1_JsonWrites_17 (run tbl (n+16)) big (fV p i v y4 y5 y6 y7 z0 z1 z2 z3 z4 z5 z6) h K=true:=by
 obtain ⟨hl1,hl2⟩:=ok _ (List.getElem_mem hi)
 obtain ⟨w,w1,w2,w3⟩:=R.at hi
 unfold l1_JsonWrites_17
 simp -implicitDefEqProofs (disch:=omega) [w1,w2]
 refine CopyJsons_w (n:=n+13) w3 hl1 (fun x hx=>by have:=hl2 x hx;omega) fun h1 y Y E1=>?_
 have r1:RD h1 p a b q Q c v y ls i ls[i]:=⟨wf.ex E1,R.ex E1,hi,rfl,Sl_jf Y.sl,hl1,hl2⟩
 refine Write_w (n:=n) r1.cp r1.wf.pin r1.wf.pg (Sl_inR r1.cp) r1.ok fun h2 s e E2 s1 s2=>?_
 have r2:=r1.ex E2
 have hs:s=wantOf ls[i]∧e=badOf ls[i]:=by
  unfold wantOf badOf
  cases hm:P.May ls[i] with
  | false=>obtain ⟨q1,q2⟩:=s2 hm;exact ⟨q1,q2⟩
  | true=>obtain ⟨q1,q2,_⟩:=s1 hm;exact ⟨q1,q2⟩
 obtain ⟨rfl,rfl⟩:=hs
 simp -implicitDefEqProofs (disch:=omega) [sl8_eq]
 refine may_w r2 (n:=n+3) fun h3 E3=>?_
 have r3:=r2.ex E3
 simp -implicitDefEqProofs (disch:=omega)
 refine check_w r3 (n:=n+3) fun h4 E4=>?_
 have r4:=r3.ex E4
 simp -implicitDefEqProofs (disch:=omega)
 refine allpaths_w r4 hQ hQs (n:=n+3) fun h5 k1 k2 k3 k4 k5 k6 E5=>?_
 simp -implicitDefEqProofs (disch:=omega)
 refine last_w (r4.ex E5) (n:=n+3) fun h6 E6=>?_
 exact K0 h6 _ _ _ _ _ _ _ _ _ _ _ (ex2 (ex2 (ex2 (ex2 (ex2 E1 E2) E3) E4) E5) E6)
end Go.Bvm.JN
set_option linter.unusedVariables false
set_option linter.unusedSimpArgs false
set_option maxRecDepth 20000
namespace Go.Bvm.JN
open Go.Bvm
theorem rounds_w {h0:H} {p:Nat} {a b q:V} {Q:List Str} {c:Nat} {v:V} {ls:List (List JF)} (wf:WF h0 p a b q Q) (R:RW c h0 v ls) (hls:ls.length≤4000) (ok:LsOk ls) (hQ:Q.length≤3000) (hQs:∀ s∈Q,s.length≤3000) {n:Nat} {K:KX}
  (K0:∀ h' e,Ex h0 h'→K X.n e h'=true):l1_JsonWrites_19 (run tbl (n+16)) big (f8 (.t false) (.p p 0 3 0) V.u v V.u V.u V.u V.u) h0 K=true:=by
 unfold l1_JsonWrites_19
 simp -implicitDefEqProofs (disch:=omega)
 refine loop_w (fun m e h'=>∃ (i:Nat) (y4 y5 y6 y7 z0 z1 z2 z3 z4 z5 z6:V),m=ls.length-i∧i≤ls.length∧e=fV p i v y4 y5 y6 y7 z0 z1 z2 z3 z4 z5 z6∧Ex h0 h') ?_ big ls.length _ _ ⟨0,V.u,V.u,V.u,V.u,V.u,V.u,V.u,V.u,V.u,V.u,V.u,rfl,by omega,rfl,Fz.refl _ _ _ _⟩ (by unfold big;omega)
 rintro m e h1 ⟨i,y4,y5,y6,y7,z0,z1,z2,z3,z4,z5,z6,rfl,hi0,rfl,E1⟩ K' Kn Kx Kr
 have R1:=R.ex E1
 unfold l1_JsonWrites_1
 by_cases hi:i<ls.length
 ·have hi':(i:Int)<(ls.length:Int):=by omega
  simp -implicitDefEqProofs (disch:=omega) [R1.len,hi']
  refine round_w (wf.ex E1) R1 hi ok hQ hQs (n:=n) fun h2 y4 y5 y6 y7 z0 z1 z2 z3 z4 z5 z6 E2=>?_
  simp -implicitDefEqProofs (disch:=omega)
  unfold l1_JsonWrites_18
  simp -implicitDefEqProofs (disch:=omega)
  exact Kn _ _ _ (by omega) ⟨i+1,y4,y5,y6,y7,z0,z1,z2,z3,z4,z5,z6,rfl,by omega,by simp,ex2 E1 E2⟩
 ·have hi':¬ (i:Int)<(ls.length:Int):=by omega
  simp -implicitDefEqProofs (disch:=omega) [R1.len,hi']
  refine Kx _ _ _ ?_
  simp -implicitDefEqProofs (disch:=omega)
  exact K0 h1 _ E1
theorem JsonWrites_w {n:Nat} {h:H} {a b c:V} {S Q:List Str} {L:List (List JF)} {k:KV} (A:Sl [] h a S) (B:Sl [] h b L) (C:Sl [] h c Q) (hp:Pin h) (hq:Pg<h.next) (e1:ErrAt h 1) (e2:ErrAt h 2) (g1:2<h.next) (K:∀ h',k (.t true) h'=true):run tbl (n+28) Nf_l1_JsonWrites (vl [.x .agg (vl [a,b,c]) V.nil]) h k=true:=by
 rw [run_succ,tbl_l1_JsonWrites]
 unfold T_l1_JsonWrites l1_JsonWrites_22
 simp -implicitDefEqProofs (disch:=omega)
 refine newA_w rfl (by decide) (by decide) fun h1 n1 B1 x1=>?_
 have hn1:h1.next=h.next+1:=n1
 have E1:Ex h h1:=x1.ex (Nat.le_refl _)
 have wf:WF h1 h.next a b c Q:=⟨(E1.lo _ hq).trans hp,by omega,e1.ex E1 (by omega),e2.ex E1 g1,by omega,C.fz E1 (Nat.le_refl _) (by simp),B1,by omega⟩
 have A1:=A.fz E1 (Nat.le_refl _) (by simp)
 have D1:=B.fz E1 (Nat.le_refl _) (by simp)
 obtain ⟨L0,L1,L2,LA⟩:=Ask_ld B1
 unfold l1_JsonWrites_0
 simp -implicitDefEqProofs (disch:=omega) [LA]
 refine Heavy2_w (n:=n+24) A1 D1 wf.C fun h2 r E2 hr=>?_
 cases r with
 | true=>
  simp -implicitDefEqProofs (disch:=omega)
  exact K h2
 | false=>
  obtain ⟨r1,r2,r3,r4,r5⟩:=hr rfl
  have wf2:=wf.ex E2
  obtain ⟨_,_,_,LA2⟩:=Ask_ld wf2.B
  simp -implicitDefEqProofs (disch:=omega)
  unfold l1_JsonWrites_21
  simp -implicitDefEqProofs (disch:=omega) [LA2]
  refine values_w (n:=n+1) (A1.fz E2 (Nat.le_refl _) (by simp)) (D1.fz E2 (Nat.le_refl _) (by simp)) wf2.C r1 r2 (fun l hl=>?_) r4 fun h3 v ls R ok hl3 E3=>?_
  ·obtain ⟨q1,q2⟩:=r3 l hl
   exact ⟨by show List.length (α:=api_Json) l≤_;omega,fun x hx=>by have:=q2 x hx;omega⟩
  ·refine rounds_w (wf2.ex E3) R hl3 ok r4 r5 (n:=n+11) fun h4 e E4=>?_
   simp -implicitDefEqProofs (disch:=omega)
   unfold l1_JsonWrites_20
   simp -implicitDefEqProofs (disch:=omega)
   refine Wakes_w (n:=n+26) ((wf2.ex E3).ex E4).pin ?_
   exact K h4
end Go.Bvm.JN
set_option linter.unusedVariables false
namespace Go.Bvm.JN
open Go.Bvm
theorem imp_str {w:World} (s:ByteArray) (hs:s.size≤maxB):Imp w [.string s] (s.data.toList:Str):=by
 intro φ h R F
 have hl:s.data.toList.length=s.size:=by simp
 refine ⟨φ,h,[vs s.data.toList],R,φ.le_refl,F,.refl h,⟨rfl,fun j x v a b=>?_⟩,rfl,by rw [hl];exact hs⟩
 cases j with
 | zero=>
  simp at a b
  subst a b
  refine ⟨?_,rfl⟩
  exact RV.s hl.symm rfl
 | succ j=>simp at a
theorem imp_int {w:World} (z:Int) (hz:inR z):Imp w [.int .i64 z] z:=by
 intro φ h R F
 refine ⟨φ,h,[wz z],R,φ.le_refl,F,.refl h,⟨rfl,fun j x v a b=>?_⟩,rfl,hz⟩
 cases j with
 | zero=>
  simp at a b
  subst a b
  refine ⟨?_,rfl⟩
  have:z=(((z+9223372036854775808).toNat:Nat):Int)-9223372036854775808:=by omega
  have r:=RV.w (φ:=φ) (n:=(z+9223372036854775808).toNat) (by omega)
  rw [← this] at r
  exact r
 | succ j=>simp at a
def ImpS {α:Type} [Enc α] (w:World) (v:Value) (xs:List α):Prop:=∀ (φ:Phi) (h:H),Rel φ h w→FO h→∃ φ' h' u,Rel φ' h' w∧φ.le φ'∧FO h'∧Keep h h'∧RV φ' u v∧Sl [] h' u xs
theorem impS_nil {α:Type} [Enc α] {w:World}:ImpS (α:=α) w (.slice none 0 0) []:=fun φ h R F=>⟨φ,h,slnil,R,φ.le_refl,F,.refl h,.slnil,.nil _ _⟩
theorem impS_row {α:Type} [Enc α] {w:World} {a:Addr} {len cap:Nat} (hn:1≤Enc.n α) (hlc:len≤cap) (hcap:0<cap) (hr:∀ i,i<cap→∃ l,w.cells? 0 (a.add (i*Enc.n α)) (Enc.n α)=some l) {ls:List (List Value)} {xs:List α} (hls:ls.length=len) (hxs:xs.length=len) (hm:len≤maxB)
  (hl:∀ (i:Nat) (l:List Value),ls[i]?=some l→w.cells? 0 (a.add (i*Enc.n α)) (Enc.n α)=some l) (hi:∀ (i:Nat) (l:List Value) (x:α),ls[i]?=some l→xs[i]?=some x→Imp w l x):ImpS w (.slice (some a) len cap) xs:=
 fun φ h R F=>imp_row hn hlc hcap hr hls hxs hm hl hi φ h R F
theorem imp_cell {w:World} {v:Value} {xs:List JF} (I:ImpS w v xs) (h1:v.oneCell'=true):Imp w [v] xs:=by
 intro φ h R F
 obtain ⟨φ',h',u,R',le,F',K,rv,S⟩:=I φ h R F
 refine ⟨φ',h',[u],R',le,F',K,⟨rfl,fun j x y a b=>?_⟩,u,rfl,S⟩
 cases j with
 | zero=>
  simp at a b
  subst a b
  exact ⟨rv,h1⟩
 | succ j=>simp at a
theorem imp_node {w:World} {kd nn:Int} {s:ByteArray} {v1 v2:Value} {ks:List Str} {ps:List Int} (hk:inR kd) (hn:inR nn) (hs:s.size≤maxB) (K:ImpS w v1 ks) (P:ImpS w v2 ps) (o1:v1.oneCell'=true) (o2:v2.oneCell'=true) :
  Imp (α:=JF) w [.int .i64 kd,.int .i64 nn,.string s,v1,v2] (⟨kd,nn,s.data.toList,ks,ps⟩ : api_Json):=by
 intro φ h R F
 obtain ⟨φ1,h1,u1,R1,le1,F1,K1,rv1,S1⟩:=K φ h R F
 obtain ⟨φ2,h2,u2,R2,le2,F2,K2,rv2,S2⟩:=P φ1 h1 R1 F1
 have int:∀ z:Int,inR z→RV φ2 (wz z) (.int .i64 z):=fun z hz=>by
  have:z=(((z+9223372036854775808).toNat:Nat):Int)-9223372036854775808:=by omega
  have r:=RV.w (φ:=φ2) (n:=(z+9223372036854775808).toNat) (by omega)
  rw [← this] at r
  exact r
 have hl:s.data.toList.length=s.size:=by simp
 refine ⟨φ2,h2,[wz kd,wz nn,vs s.data.toList,u1,u2],R2,Phi.le_trans le1 le2,F2,K1.trans K2,⟨rfl,fun j x v a b=>?_⟩,u1,u2,rfl,hk,hn,by show s.data.toList.length≤maxB;rw [hl];exact hs,S1.gx K2.1 fun id hi _ _=>K2.2 id hi,S2⟩
 match j,a,b with
 | 0,a,b=>simp at a b;subst a b;exact ⟨int _ hk,rfl⟩
 | 1,a,b=>simp at a b;subst a b;exact ⟨int _ hn,rfl⟩
 | 2,a,b=>simp at a b;subst a b;exact ⟨RV.s hl.symm rfl,rfl⟩
 | 3,a,b=>simp at a b;subst a b;exact ⟨rv1.mono le2,o1⟩
 | 4,a,b=>simp at a b;subst a b;exact ⟨rv2,o2⟩
 | n+5,a,b=>simp at a
theorem imp_ask {w:World} {v1 v2 v3:Value} {S Q:List Str} {L:List (List JF)} (I1:ImpS w v1 S) (I2:ImpS w v2 L) (I3:ImpS w v3 Q) (o:∀ v,v∈[v1,v2,v3]→v.oneCell'=true) (φ:Phi) (h:H) (R:Rel φ h w) (F:FO h) :
  ∃ φ' h' a b c,Rel φ' h' w∧φ.le φ'∧FO h'∧Keep h h'∧RV φ' (.x .agg (vl [a,b,c]) V.nil) (.agg ⟨[v1,v2,v3]⟩)∧Sl [] h' a S∧Sl [] h' b L∧Sl [] h' c Q:=by
 obtain ⟨φ1,h1,a,R1,le1,F1,K1,r1,S1⟩:=I1 φ h R F
 obtain ⟨φ2,h2,b,R2,le2,F2,K2,r2,S2⟩:=I2 φ1 h1 R1 F1
 obtain ⟨φ3,h3,c,R3,le3,F3,K3,r3,S3⟩:=I3 φ2 h2 R2 F2
 refine ⟨φ3,h3,a,b,c,R3,Phi.le_trans le1 (Phi.le_trans le2 le3),F3,K1.trans (K2.trans K3),.agg (.cons ((r1.mono le2).mono le3) (.cons (r2.mono le3) (.cons r3 .nil))) o,?_,S2.gx K3.1 fun id hi _ _=>K3.2 id hi,S3⟩
 have K:=K2.trans K3
 exact S1.gx K.1 fun id hi _ _=>K.2 id hi
end Go.Bvm.JN
set_option linter.unusedVariables false
namespace Go.Bvm
variable {H:Type} {enc:TypeId×Value→H} {P:Program} {w:World}
def HasCells (w:World):Prop:=∃ (B:Nat) (cs:Array Value) (el:Nat) (fr:Nat×Nat),w.heap[B]?=some (.cells cs el fr)
namespace JN
theorem impS_empty {α:Type} [Enc α] (hw:HasCells w) (a:Addr):ImpS (α:=α) w (.slice (some a) 0 0) []:=by
 intro φ h R F
 obtain ⟨B,cs,el,fr,hB⟩:=hw
 obtain ⟨φ',h',R',le,F',p1,B',n',o'⟩:=R.imp F (vs:=[]) (B:=B) (o:=0) hB (by simp) (fun i hi=>by simp at hi)
 have B2:Bk h' h.next 0 0 el false false []:=B'
 refine ⟨φ',h',.sl h.next 0 0 0 (Enc.n α),R',le,F',⟨by omega,fun i hi=>o'.2 i (by omega)⟩,RV.sl p1 (by simp) (Nat.le_refl _) (fun q=>absurd rfl q) (by simp),[],⟨fun c hc=>by simp at hc,by simp,.inr ⟨h.next,0,0,0,false,false,[],rfl,⟨by omega,by simp⟩,⟨el,B2,fun q=>by simp at q⟩,by simp,by simp⟩⟩,.nil _ _⟩
end JN
theorem weightsAll_mem {e:TypeId} {d:DataW H} {n:Nat}:∀ {l:List (DataW H)},d∈l→n∈d.weights P e→n∈DataW.weightsAll P e l
 | [],h,_=>by simp at h
 | x::r,h,k=>by
  unfold DataW.weightsAll
  rcases List.mem_cons.1 h with q | q
  ·rw [q] at k;exact List.mem_append_left _ k
  ·exact List.mem_append_right _ (weightsAll_mem q k)
abbrev Read (enc:TypeId×Value→H) (P:Program) (w:World) (t:TypeId) (cs:List Value) (d:DataW H):Prop:=∃ fu ps,DataW.trod enc P w 0 (fun _=>true) true fu t cs=some (d,ps)
def CanS (α:Type) [Enc α] (enc:TypeId×Value→H) (P:Program) (w:World) (t:TypeId):Prop:=∀ cs d,Read enc P w t cs d→(∀ n∈d.weights P t,n≤reachBytes)→∃ v,cs=[v]∧v.oneCell'=true∧∃ xs:List α,JN.ImpS w v xs
def Can (α:Type) [Enc α] (enc:TypeId×Value→H) (P:Program) (w:World) (t:TypeId):Prop:=∀ cs d,Read enc P w t cs d→(∀ n∈d.weights P t,n≤reachBytes)→∃ x:α,Imp w cs x
theorem canS {α:Type} [Enc α] {t e:TypeId} (hw:HasCells w) (ht:P.underlying t=some (.slice e)) (hc:P.cellsOf e=Enc.n α) (hn:1≤Enc.n α) (hb:1≤P.bytesOf e) (elem:Can α enc P w e):CanS α enc P w t:=by
 rintro cs d ⟨fu,ps,h⟩ hr
 have hm:maxB=140737488355328:=rfl
 have hre:reachBytes=140737488351232:=rfl
 rcases DataW.trod_slice ht h with ⟨rfl,hd⟩ | ⟨a,len,cap,elems,rest,n,rfl,rfl,hd,hbl,hlc,hcm,hel,h1,h2,_⟩
 ·exact ⟨_,rfl,rfl,[],JN.impS_nil⟩
 ·obtain ⟨hrl,h2⟩:=h2 rfl
  obtain ⟨rfl,rfl⟩:=Prod.mk.inj hd
  unfold DataW.weights at hr
  rw [ht] at hr
  simp only [List.length_map] at hr
  have hcap:cap≤reachBytes:=by
   have:=hr _ (List.mem_cons_self ..)
   have e1:elems.length+rest.length=cap:=by omega
   rw [e1] at this
   exact Nat.le_trans (Nat.le_mul_of_pos_right _ hb) this
  by_cases hc0:cap=0
  ·have:len=0:=by omega
   subst hc0 this
   exact ⟨_,rfl,rfl,[],JN.impS_empty hw a⟩
  ·rw [hc] at h1 h2
   have cells:∀ i,i<cap→∃ l,w.cells? 0 (a.add (i*Enc.n α)) (Enc.n α)=some l:=fun i hi=>by
    by_cases hil:i<len
    ·have:=h1 i hil
     rw [List.getElem?_eq_getElem (by omega),Option.bind_eq_some_iff] at this
     obtain ⟨l,e1,_⟩:=this
     exact ⟨l,e1⟩
    ·have:=h2 (i-len) (by omega)
     rw [List.getElem?_eq_getElem (by omega),Option.bind_eq_some_iff] at this
     obtain ⟨l,e1,_⟩:=this
     rw [show len+(i-len)=i by omega] at e1
     exact ⟨l,e1⟩
   have key:∀ i:Fin len,∃ p:List Value×α,w.cells? 0 (a.add (i.1*Enc.n α)) (Enc.n α)=some p.1∧Imp w p.1 p.2:=fun i=>by
    have:=h1 i.1 i.2
    have hi:i.1<elems.length:=by omega
    rw [List.getElem?_eq_getElem hi,Option.bind_eq_some_iff] at this
    obtain ⟨l,e1,e2⟩:=this
    obtain ⟨x,hx⟩:=elem l elems[i.1].1 ⟨n,elems[i.1].2,e2⟩ (fun m hm=>hr m (List.mem_cons_of_mem _ (List.mem_append_left _ (weightsAll_mem (List.mem_map.2 ⟨_,List.getElem_mem hi,rfl⟩) hm))))
    exact ⟨(l,x),e1,hx⟩
   obtain ⟨f,hf⟩:=Classical.axiomOfChoice key
   refine ⟨_,rfl,rfl,List.ofFn (fun i=>(f i).2),JN.impS_row hn hlc (by omega) cells (ls:=List.ofFn (fun i=>(f i).1)) (by simp) (by simp) (by omega) (fun i l hi=>?_) (fun i l x hi hx=>?_)⟩
   ·rw [List.getElem?_ofFn] at hi
    split at hi
    ·rename_i hlt
     have:=(hf ⟨i,hlt⟩).1
     cases hi
     exact this
    ·simp at hi
   ·rw [List.getElem?_ofFn] at hi hx
    split at hi
    ·rename_i hlt
     rw [dif_pos hlt] at hx
     cases hi
     cases hx
     exact (hf ⟨i,hlt⟩).2
    ·simp at hi
namespace JN
theorem can_str {t:TypeId} (ht:P.underlying t=some .string):Can Str enc P w t:=by
 rintro cs d ⟨fu,ps,h⟩ hr
 have hm:maxB=140737488355328:=rfl
 have hre:reachBytes=140737488351232:=rfl
 obtain ⟨s,rfl,hd,_⟩:=DataW.trod_string ht h
 obtain ⟨rfl,rfl⟩:=Prod.mk.inj hd
 unfold DataW.weights at hr
 have:=hr _ (List.mem_cons_self ..)
 have e:s.data.toList.length=s.size:=by simp
 exact ⟨_,imp_str s (by omega)⟩
theorem can_int {t:TypeId} (ht:P.underlying t=some (.int .i64)):Can Int enc P w t:=by
 rintro cs d ⟨fu,ps,h⟩ hr
 obtain ⟨z,rfl,hd,hz⟩:=DataW.trod_int ht h
 simp [Lit.wf,IntKind.min,IntKind.max,IntKind.signed,IntKind.bits] at hz
 exact ⟨z,imp_int z (by unfold inR;omega)⟩
end JN
theorem weightsEach_mem:∀ {ts:List TypeId} {ds:List (DataW H)} {i:Nat} {t:TypeId} {d:DataW H} {n:Nat},ts[i]?=some t→ds[i]?=some d→n∈d.weights P t→n∈DataW.weightsEach P ts ds
 | [],_,_,_,_,_,h,_,_=>by simp at h
 | _::_,[],_,_,_,_,_,h,_=>by simp at h
 | t0::ts,d0::ds,0,t,d,n,h1,h2,h3=>by
  simp at h1 h2
  subst h1 h2
  unfold DataW.weightsEach
  exact List.mem_append_left _ h3
 | t0::ts,d0::ds,i+1,t,d,n,h1,h2,h3=>by
  unfold DataW.weightsEach
  exact List.mem_append_right _ (weightsEach_mem (i:=i) (by simpa using h1) (by simpa using h2) h3)
def flds (P:Program) (t:TypeId):Option (List (Nat×Nat)):=match P.underlying t with
 | some (.struct fs)=>some (fs.toList.map fun f=>(f.type,f.offset))
 | _=>none
theorem read_struct {t:TypeId} {l:List (Nat×Nat)} {cs:List Value} {d:DataW H} (h:flds P t=some l) (r:Read enc P w t cs d):cs.length=P.cellsOf t∧
  ∀ (i ty o:Nat),l[i]?=some (ty,o)→∃ di,Read enc P w ty ((cs.drop o).take (P.cellsOf ty)) di∧∀ n∈di.weights P ty,n∈d.weights P t:=by
 unfold flds at h
 split at h
 rotate_left
 ·simp at h
 rename_i fs ht
 obtain rfl:=Option.some.inj h
 obtain ⟨fu,ps,r⟩:=r
 obtain ⟨xs,n,rfl,hd,hl,hxl,hx⟩:=DataW.trod_struct ht r
 obtain ⟨rfl,rfl⟩:=Prod.mk.inj hd
 refine ⟨hl,fun i ty o hi=>?_⟩
 rw [List.getElem?_map,Option.map_eq_some_iff] at hi
 obtain ⟨f,hf,he⟩:=hi
 cases he
 have hi:i<xs.length:=by
  have:=(List.getElem?_eq_some_iff.1 hf).1
  simpa [hxl] using this
 have:=hx i f (by simpa using hf)
 rw [List.getElem?_eq_getElem hi] at this
 refine ⟨xs[i].1,⟨n,xs[i].2,this⟩,fun m hm=>?_⟩
 unfold DataW.weights
 rw [ht]
 exact weightsEach_mem (i:=i) (by rw [List.getElem?_map,hf];rfl) (by rw [List.getElem?_map,List.getElem?_eq_getElem hi];rfl) hm
namespace JN
theorem can_node {t t0 t1 t2 t3 t4:TypeId} (hf:flds P t=some [(t0,0),(t1,1),(t2,2),(t3,3),(t4,4)]) (hc:P.cellsOf t=5) (c0:P.cellsOf t0=1) (c1:P.cellsOf t1=1) (c2:P.cellsOf t2=1) (c3:P.cellsOf t3=1) (c4:P.cellsOf t4=1)
  (u0:P.underlying t0=some (.int .i64)) (u1:P.underlying t1=some (.int .i64)) (u2:P.underlying t2=some .string) (u3:CanS Str enc P w t3) (u4:CanS Int enc P w t4):Can JF enc P w t:=by
 intro cs d r hr
 have hm:maxB=140737488355328:=rfl
 have hre:reachBytes=140737488351232:=rfl
 obtain ⟨hl,hx⟩:=read_struct hf r
 rw [hc] at hl
 match cs,hl with
 | [a0,a1,a2,a3,a4],_=>
  obtain ⟨d0,r0,w0⟩:=hx 0 t0 0 rfl
  obtain ⟨d1,r1,w1⟩:=hx 1 t1 1 rfl
  obtain ⟨d2,r2,w2⟩:=hx 2 t2 2 rfl
  obtain ⟨d3,r3,w3⟩:=hx 3 t3 3 rfl
  obtain ⟨d4,r4,w4⟩:=hx 4 t4 4 rfl
  rw [c0] at r0;rw [c1] at r1;rw [c2] at r2;rw [c3] at r3;rw [c4] at r4
  simp only [List.drop_zero,List.take_succ_cons,List.take_zero,List.drop_succ_cons] at r0 r1 r2 r3 r4
  obtain ⟨_,_,r0⟩:=r0
  obtain ⟨_,_,r1⟩:=r1
  obtain ⟨_,_,r2⟩:=r2
  obtain ⟨z0,e0,_,h0⟩:=DataW.trod_int u0 r0
  obtain ⟨z1,e1,_,h1⟩:=DataW.trod_int u1 r1
  obtain ⟨s,e2,hd2,_⟩:=DataW.trod_string u2 r2
  simp at e0 e1 e2
  subst e0 e1 e2
  simp [Lit.wf,IntKind.min,IntKind.max,IntKind.signed,IntKind.bits] at h0 h1
  obtain ⟨v3,e3,o3,ks,I3⟩:=u3 _ _ r3 (fun n hn=>hr n (w3 n hn))
  obtain ⟨v4,e4,o4,qs,I4⟩:=u4 _ _ r4 (fun n hn=>hr n (w4 n hn))
  simp at e3 e4
  subst e3 e4
  obtain ⟨rfl,_⟩:=Prod.mk.inj hd2
  have hs:s.size≤maxB:=by
   have:=hr _ (w2 s.data.toList.length (by unfold DataW.weights;exact List.mem_cons_self ..))
   have e:s.data.toList.length=s.size:=by simp
   omega
  exact ⟨_,imp_node (by unfold inR;omega) (by unfold inR;omega) hs I3 I4 o3 o4⟩
theorem can_cell {t:TypeId} (h:CanS JF enc P w t):Can (List JF) enc P w t:=by
 intro cs d r hr
 obtain ⟨v,rfl,o,xs,I⟩:=h cs d r hr
 exact ⟨xs,imp_cell I o⟩
theorem can_ask {t t0 t1 t2:TypeId} {base:Nat} {v:Value} {d:DataW H} (hf:flds P t=some [(t0,0),(t1,1),(t2,2)]) (hc:P.cellsOf t=3) (c0:P.cellsOf t0=1) (c1:P.cellsOf t1=1) (c2:P.cellsOf t2=1)
  (u0:CanS Str enc P w t0) (u1:CanS (List JF) enc P w t1) (u2:CanS Str enc P w t2) (hv:Value.okWide P w .any base t v) (r:Read enc P w t v.cells.toList d) (hr:∀ n∈d.weights P t,n≤reachBytes) (φ:Phi) (h:Go.Bvm.H) (R:Rel φ h w) (F:FO h) :
  ∃ (S Q:List Str) (L:List (List JF)) (φ':Phi) (h':Go.Bvm.H) (a b c:V),Rel φ' h' w∧φ.le φ'∧FO h'∧Keep h h'∧RV φ' (.x .agg (vl [a,b,c]) V.nil) v∧Sl [] h' a S∧Sl [] h' b L∧Sl [] h' c Q:=by
 obtain ⟨l,rfl⟩ : ∃ l:List Value,v=.agg ⟨l⟩:=by
  have hf':=hf
  unfold flds at hf'
  split at hf'
  ·rename_i fs ht
   unfold Value.okWide at hv
   rw [ht] at hv
   obtain ⟨⟨l⟩,rfl,_⟩:=hv
   exact ⟨l,rfl⟩
  ·simp at hf'
 have r:Read enc P w t l d:=r
 obtain ⟨hl,hx⟩:=read_struct hf r
 rw [hc] at hl
 match l,hl with
 | [a0,a1,a2],_=>
  obtain ⟨d0,r0,w0⟩:=hx 0 t0 0 rfl
  obtain ⟨d1,r1,w1⟩:=hx 1 t1 1 rfl
  obtain ⟨d2,r2,w2⟩:=hx 2 t2 2 rfl
  rw [c0] at r0;rw [c1] at r1;rw [c2] at r2
  simp only [List.drop_zero,List.take_succ_cons,List.take_zero,List.drop_succ_cons] at r0 r1 r2
  obtain ⟨v0,e0,o0,S,I0⟩:=u0 _ _ r0 (fun n hn=>hr n (w0 n hn))
  obtain ⟨v1,e1,o1,L,I1⟩:=u1 _ _ r1 (fun n hn=>hr n (w1 n hn))
  obtain ⟨v2,e2,o2,Q,I2⟩:=u2 _ _ r2 (fun n hn=>hr n (w2 n hn))
  simp at e0 e1 e2
  subst e0 e1 e2
  obtain ⟨φ',h',a,b,c,q⟩:=imp_ask I0 I1 I2 (fun v hv=>by simp at hv;rcases hv with rfl | rfl | rfl <;> assumption) φ h R F
  exact ⟨S,Q,L,φ',h',a,b,c,q⟩
end JN
end Go.Bvm
