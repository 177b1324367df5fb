/- Functions run by the abstract machine on values that are not all known. Conditions: stated in each theorem. -/
import Derived.Test.YtacpnpdggbfkgaaDoorJRa
set_option linter.unusedVariables false
set_option linter.unusedSimpArgs false
set_option linter.unusedVariables false
set_option maxRecDepth 20000
namespace Go.Bvm.JN
open Go.Bvm
theorem take_succ_eq {α:Type} {a b:List α} {i:Nat} (ha:i<a.length) (hb:i<b.length):a.take (i+1)=b.take (i+1)↔a.take i=b.take i∧a[i]=b[i]:=by
 rw [List.take_succ_eq_append_getElem ha,List.take_succ_eq_append_getElem hb]
 constructor
 ·intro h
  have h1:=congrArg List.length h
  have:=List.append_inj h (by simp at h1 ⊢;omega)
  exact ⟨this.1,by simpa using this.2⟩
 ·rintro ⟨h1,h2⟩;rw [h1,h2]
theorem ne_of_at {α:Type} {a b:List α} {i:Nat} {ha:i<a.length} {hb:i<b.length} (h:¬ a[i]=b[i]):¬ a=b:=fun e=>by subst e;exact h rfl
theorem EqNumbers_w {X Y:List Nat} {h:H} {va vb:V} {a b:List Int} {k:KV} (A:Sl X h va a) (B:Sl Y h vb b) (hb:a.length<big) {n:Nat} (K:k (.t (decide (a=b))) h=true):run tbl (n+1) Nf_z_EqNumbers (vl [va,vb]) h k=true:=by
 rw [run_succ,tbl_z_EqNumbers]
 have ab:=A.bd;have bb:=B.bd
 have hm:maxB=140737488355328:=rfl
 unfold T_z_EqNumbers z_EqNumbers_6 z_EqNumbers_0 z_EqNumbers_4 z_EqNumbers_5
 simp (disch:=omega) [A.lenL,B.lenL]
 by_cases hl:a.length=b.length
 ·have hl':(a.length:Int)=b.length:=by omega
  simp [hl']
  refine loop_w (fun m e h'=>∃ i:Nat,m=a.length-i∧i≤a.length∧e=f8 (V.t false) (wz i) va vb V.u V.u V.u V.u∧h'=h∧a.take i=b.take i) ?_ big a.length _ _ ⟨0,by simp⟩ hb
  rintro m e h' ⟨i,rfl,hi,rfl,rfl,ht⟩ K' Kn Kx Kr
  unfold z_EqNumbers_1 z_EqNumbers_2 z_EqNumbers_3
  simp (disch:=omega) [A.lenL]
  by_cases hi2:i<a.length
  ·obtain ⟨ra,a1⟩:=at_Int A hi2
   obtain ⟨rb,b1⟩:=at_Int B (show i<b.length by omega)
   simp (disch:=omega) [a1,b1,hi2]
   by_cases c:a[i]=b[i]
   ·simp (disch:=omega) [c]
    exact Kn _ _ _ (by omega) ⟨i+1,rfl,hi2,rfl,rfl,(take_succ_eq hi2 (by omega)).2 ⟨ht,c⟩⟩
   ·simp [c]
    refine Kr _ _ ?_
    simpa [ne_of_at c] using K
  ·simp [hi2]
   refine Kx _ _ _ ?_
   have:a=b:=by rw [List.take_of_length_le (by omega),List.take_of_length_le (by omega)] at ht;exact ht
   simpa [this] using K
 ·have hl':¬ (a.length:Int)=b.length:=by omega
  have:¬ a=b:=fun e=>hl (by rw [e])
  simpa [hl',this] using K
end Go.Bvm.JN
set_option linter.unusedVariables false
set_option linter.unusedSimpArgs false
set_option maxRecDepth 20000
namespace Go.Bvm.JN
open Go.Bvm
theorem drop_getD {s:List UInt8} {i:Nat} {c:UInt8} {r:List UInt8} (h:s.drop i=c::r):s.getD i 0=c∧s.drop (i+1)=r∧i<s.length:=by
 have hi:i<s.length:=by
  rcases Nat.lt_or_ge i s.length with k | k
  ·exact k
  ·rw [List.drop_eq_nil_of_le k] at h;simp at h
 rw [List.drop_eq_getElem_cons hi] at h
 simp only [List.cons.injEq] at h
 exact ⟨by rw [List.getD_eq_getElem?_getD,List.getElem?_eq_getElem hi];exact h.1,h.2,hi⟩
def isDig (c:UInt8):Bool:=decide (48≤c) && decide (c≤57)
theorem digit_n (c:UInt8) (n:Nat) (hn:1≤n) (h:H) (k:KV):run tbl n Nf_j_digit (vl [vy c]) h k=k (.t (isDig c)) h:=by
 obtain ⟨m,rfl⟩ : ∃ m,n=m+1:=⟨n-1,by omega⟩
 rw [run_succ,tbl_j_digit]
 generalize big=lf
 unfold T_j_digit j_digit_0 isDig
 by_cases h1:(48:UInt8)≤c
 ·simp -implicitDefEqProofs (disch:=omega) only [onCons_vl,onNil_vl,seqM_eq,nilckV_p,fadV_p,Nat.zero_add,sl0_mk,sl1_mk,sl2_mk,sl3_mk,sl4_mk,sl5_mk,sl6_mk,sl7_mk,sl0_n8,sl1_n8,sl2_n8,sl3_n8,sl4_n8,sl5_n8,sl6_n8,sl7_n8,condV_t,notV_t,pickV_t,gT_t,gT_f,gF_t,gF_f,gT_u,gF_u,bs_true,bs_false,eqlY_y,neqY_y,leqY_y,geqY_y,lssY_y,gtrY_y,blockM_eq,finK_n,finK_r,decide_true,decide_false,ne_eq,not_true_eq_false,not_false_eq_true,Bool.not_true,Bool.not_false,unX_n,unX_r,unX_s,unX_ne,idB,nots,lenL_nil,ext_0,ext_1,ext_2,sdata_nil,eqPt_nil,eqPt_pn,eqPt_pp,addW_z,subW_z,eqlW_z,neqW_z,lssW_z,leqW_z,gtrW_z,geqV_z,lenS_vs,resv_eq,mulV_z,sidxV_d,sstr_fromI,sstr_bothI,sstr_toI,iadV_I,toW_y,lenL_sl,h1,Bool.true_and]
 ·simp -implicitDefEqProofs (disch:=omega) only [onCons_vl,onNil_vl,seqM_eq,nilckV_p,fadV_p,Nat.zero_add,sl0_mk,sl1_mk,sl2_mk,sl3_mk,sl4_mk,sl5_mk,sl6_mk,sl7_mk,sl0_n8,sl1_n8,sl2_n8,sl3_n8,sl4_n8,sl5_n8,sl6_n8,sl7_n8,condV_t,notV_t,pickV_t,gT_t,gT_f,gF_t,gF_f,gT_u,gF_u,bs_true,bs_false,eqlY_y,neqY_y,leqY_y,geqY_y,lssY_y,gtrY_y,blockM_eq,finK_n,finK_r,decide_true,decide_false,ne_eq,not_true_eq_false,not_false_eq_true,Bool.not_true,Bool.not_false,unX_n,unX_r,unX_s,unX_ne,idB,nots,lenL_nil,ext_0,ext_1,ext_2,sdata_nil,eqPt_nil,eqPt_pn,eqPt_pp,addW_z,subW_z,eqlW_z,neqW_z,lssW_z,leqW_z,gtrW_z,geqV_z,lenS_vs,resv_eq,mulV_z,sidxV_d,sstr_fromI,sstr_bothI,sstr_toI,iadV_I,toW_y,lenL_sl,h1,Bool.false_and]
theorem hasPrefix_n (a b:List UInt8) (ha:a.length≤1000000) (hb:b.length≤1000000) (n:Nat) (hn:2≤n) (h:H) (k:KV):run tbl n Nf_st_HasPrefix (vl [vs a,vs b]) h k=k (.t (decide (b.length≤a.length) && decide (a.take b.length=b))) h:=by
 obtain ⟨m,rfl⟩ : ∃ m,n=m+2:=⟨n-2,by omega⟩
 have key:∀ k,run tbl (m+1) Nf_sl_HasPrefix (vl [vs a,vs b]) h k=k (.t (decide (b.length≤a.length) && decide (a.take b.length=b))) h:=by
  intro k
  rw [run_succ,tbl_sl_HasPrefix]
  generalize big=lf
  unfold T_sl_HasPrefix sl_HasPrefix_1 sl_HasPrefix_0
  by_cases h1:b.length≤a.length
  ·have h2:(b.length:Int)≤a.length:=by omega
   simp -implicitDefEqProofs (disch:=omega) only [onCons_vl,onNil_vl,seqM_eq,nilckV_p,fadV_p,Nat.zero_add,sl0_mk,sl1_mk,sl2_mk,sl3_mk,sl4_mk,sl5_mk,sl6_mk,sl7_mk,sl0_n8,sl1_n8,sl2_n8,sl3_n8,sl4_n8,sl5_n8,sl6_n8,sl7_n8,condV_t,notV_t,pickV_t,gT_t,gT_f,gF_t,gF_f,gT_u,gF_u,bs_true,bs_false,eqlY_y,neqY_y,leqY_y,geqY_y,lssY_y,gtrY_y,blockM_eq,finK_n,finK_r,decide_true,decide_false,ne_eq,not_true_eq_false,not_false_eq_true,Bool.not_true,Bool.not_false,unX_n,unX_r,unX_s,unX_ne,idB,nots,lenL_nil,ext_0,ext_1,ext_2,sdata_nil,eqPt_nil,eqPt_pn,eqPt_pp,addW_z,subW_z,eqlW_z,neqW_z,lssW_z,leqW_z,gtrW_z,geqV_z,lenS_vs,resv_eq,mulV_z,sidxV_d,sstr_fromI,sstr_bothI,sstr_toI,iadV_I,toW_y,lenL_sl,h1,h2,eqlS_vs,Int.toNat_natCast,Bool.true_and]
  ·have h2:¬ (b.length:Int)≤a.length:=by omega
   simp -implicitDefEqProofs (disch:=omega) only [onCons_vl,onNil_vl,seqM_eq,nilckV_p,fadV_p,Nat.zero_add,sl0_mk,sl1_mk,sl2_mk,sl3_mk,sl4_mk,sl5_mk,sl6_mk,sl7_mk,sl0_n8,sl1_n8,sl2_n8,sl3_n8,sl4_n8,sl5_n8,sl6_n8,sl7_n8,condV_t,notV_t,pickV_t,gT_t,gT_f,gF_t,gF_f,gT_u,gF_u,bs_true,bs_false,eqlY_y,neqY_y,leqY_y,geqY_y,lssY_y,gtrY_y,blockM_eq,finK_n,finK_r,decide_true,decide_false,ne_eq,not_true_eq_false,not_false_eq_true,Bool.not_true,Bool.not_false,unX_n,unX_r,unX_s,unX_ne,idB,nots,lenL_nil,ext_0,ext_1,ext_2,sdata_nil,eqPt_nil,eqPt_pn,eqPt_pp,addW_z,subW_z,eqlW_z,neqW_z,lssW_z,leqW_z,gtrW_z,geqV_z,lenS_vs,resv_eq,mulV_z,sidxV_d,sstr_fromI,sstr_bothI,sstr_toI,iadV_I,toW_y,lenL_sl,h1,h2,Bool.false_and]
 rw [run_succ,tbl_st_HasPrefix]
 generalize big=lf
 unfold T_st_HasPrefix st_HasPrefix_0
 simp -implicitDefEqProofs (disch:=omega) only [onCons_vl,onNil_vl,seqM_eq,nilckV_p,fadV_p,Nat.zero_add,sl0_mk,sl1_mk,sl2_mk,sl3_mk,sl4_mk,sl5_mk,sl6_mk,sl7_mk,sl0_n8,sl1_n8,sl2_n8,sl3_n8,sl4_n8,sl5_n8,sl6_n8,sl7_n8,condV_t,notV_t,pickV_t,gT_t,gT_f,gF_t,gF_f,gT_u,gF_u,bs_true,bs_false,eqlY_y,neqY_y,leqY_y,geqY_y,lssY_y,gtrY_y,blockM_eq,finK_n,finK_r,decide_true,decide_false,ne_eq,not_true_eq_false,not_false_eq_true,Bool.not_true,Bool.not_false,unX_n,unX_r,unX_s,unX_ne,idB,nots,lenL_nil,ext_0,ext_1,ext_2,sdata_nil,eqPt_nil,eqPt_pn,eqPt_pp,addW_z,subW_z,eqlW_z,neqW_z,lssW_z,leqW_z,gtrW_z,geqV_z,lenS_vs,resv_eq,mulV_z,sidxV_d,sstr_fromI,sstr_bothI,sstr_toI,iadV_I,toW_y,lenL_sl,key]
def satF:Int→List UInt8→Int
 | n,[]=>n
 | n,c::r=>satF (if n≤1073741824 then n*10+(c-48).toNat else n) r
theorem satF_bd:∀ (l:List UInt8) (n:Int),l.all isDig=true→0≤n→n≤20000000000→0≤satF n l∧satF n l≤20000000000
 | [],n,_,h0,h1=>⟨h0,h1⟩
 | c::r,n,ha,h0,h1=>by
  simp only [List.all_cons,Bool.and_eq_true] at ha
  have hc:(c-48).toNat≤9:=by
   have:=ha.1
   unfold isDig at this
   simp only [Bool.and_eq_true,decide_eq_true_eq] at this
   rw [UInt8.toNat_sub_of_le _ _ this.1]
   have:=UInt8.le_iff_toNat_le.1 this.2
   simp at this ⊢;omega
  unfold satF
  split
  ·exact satF_bd r _ ha.2 (by omega) (by omega)
  ·exact satF_bd r _ ha.2 h0 h1
noncomputable abbrev frN (n size sign:Int) (s:List UInt8) (v5:V):L8:=⟨⟨wz n,wz size,.t false,vs s,wz sign,v5,V.u,V.u⟩,n8 V.u,n8 V.u,n8 V.u,n8 V.u,n8 V.u,n8 V.u,n8 V.u⟩
theorem num_loop (lf0 m:Nat) (hm:1≤m) (h:H) (s:List UInt8) (hs:s.length≤1000000) (sign:Int):∀ (r:List UInt8) (lf:Nat) (n size:Int),s.drop size.toNat=r→0≤size→0≤n→n≤20000000000→size≤s.length→r.length<lf→∀ K,
  loopM lf (seqM (j_Number_2 (run tbl m) lf0) (blockM 4 (seqM (j_Number_3 (run tbl m) lf0) (j_Number_4 (run tbl m) lf0)))) (frN n size sign s V.u) h K=K (X.x 3) (frN (satF n (r.takeWhile isDig)) (size+(r.takeWhile isDig).length) sign s V.u) h
 | r,0,n,size,hr,h0,hn0,hn1,hsz,hl,K=>absurd hl (by omega)
 | [],lf+1,n,size,hr,h0,hn0,hn1,hsz,hl,K=>by
  have h1:¬ size<(s.length:Int):=by
   have:=List.drop_eq_nil_iff.1 hr
   omega
  rw [loopM_succ]
  unfold j_Number_2
  simp -implicitDefEqProofs (disch:=omega) only [onCons_vl,onNil_vl,seqM_eq,nilckV_p,fadV_p,Nat.zero_add,sl0_mk,sl1_mk,sl2_mk,sl3_mk,sl4_mk,sl5_mk,sl6_mk,sl7_mk,sl0_n8,sl1_n8,sl2_n8,sl3_n8,sl4_n8,sl5_n8,sl6_n8,sl7_n8,condV_t,notV_t,pickV_t,gT_t,gT_f,gF_t,gF_f,gT_u,gF_u,bs_true,bs_false,eqlY_y,neqY_y,leqY_y,geqY_y,lssY_y,gtrY_y,blockM_eq,finK_n,finK_r,decide_true,decide_false,ne_eq,not_true_eq_false,not_false_eq_true,Bool.not_true,Bool.not_false,unX_n,unX_r,unX_s,unX_ne,idB,nots,lenL_nil,ext_0,ext_1,ext_2,sdata_nil,eqPt_nil,eqPt_pn,eqPt_pp,addW_z,subW_z,eqlW_z,neqW_z,lssW_z,leqW_z,gtrW_z,geqV_z,lenS_vs,resv_eq,mulV_z,sidxV_d,sstr_fromI,sstr_bothI,sstr_toI,iadV_I,toW_y,lenL_sl,h1]
  simp [satF]
 | c::r,lf+1,n,size,hr,h0,hn0,hn1,hsz,hl,K=>by
  obtain ⟨g1,g2,g3⟩:=drop_getD hr
  have h1:size<(s.length:Int):=by omega
  rw [loopM_succ]
  cases hd:isDig c with
  | false=>
   unfold j_Number_2
   simp -implicitDefEqProofs (disch:=omega) only [onCons_vl,onNil_vl,seqM_eq,nilckV_p,fadV_p,Nat.zero_add,sl0_mk,sl1_mk,sl2_mk,sl3_mk,sl4_mk,sl5_mk,sl6_mk,sl7_mk,sl0_n8,sl1_n8,sl2_n8,sl3_n8,sl4_n8,sl5_n8,sl6_n8,sl7_n8,condV_t,notV_t,pickV_t,gT_t,gT_f,gF_t,gF_f,gT_u,gF_u,bs_true,bs_false,eqlY_y,neqY_y,leqY_y,geqY_y,lssY_y,gtrY_y,blockM_eq,finK_n,finK_r,decide_true,decide_false,ne_eq,not_true_eq_false,not_false_eq_true,Bool.not_true,Bool.not_false,unX_n,unX_r,unX_s,unX_ne,idB,nots,lenL_nil,ext_0,ext_1,ext_2,sdata_nil,eqPt_nil,eqPt_pn,eqPt_pp,addW_z,subW_z,eqlW_z,neqW_z,lssW_z,leqW_z,gtrW_z,geqV_z,lenS_vs,resv_eq,mulV_z,sidxV_d,sstr_fromI,sstr_bothI,sstr_toI,iadV_I,toW_y,lenL_sl,h1,g1,hd,digit_n c m hm]
   simp [satF,List.takeWhile_cons,hd]
  | true=>
   have hc:(48:UInt8)≤c∧c≤57:=by simpa [isDig] using hd
   have hc9:(c-48).toNat≤9:=by
    rw [UInt8.toNat_sub_of_le _ _ hc.1]
    have:=UInt8.le_iff_toNat_le.1 hc.2
    simp at this ⊢;omega
   have hd2:s.drop (size+1).toNat=r:=by rw [show (size+1).toNat=size.toNat+1 from by omega];exact g2
   have e:List.takeWhile isDig (c::r)=c::List.takeWhile isDig r:=by rw [List.takeWhile_cons,hd,if_pos rfl]
   have e3:size+((c::List.takeWhile isDig r).length:Int)=size+1+(List.takeWhile isDig r).length:=by rw [List.length_cons];omega
   rw [e,e3]
   unfold j_Number_2 j_Number_3 j_Number_4
   by_cases hq:n≤1073741824
   ·simp -implicitDefEqProofs (disch:=omega) only [onCons_vl,onNil_vl,seqM_eq,nilckV_p,fadV_p,Nat.zero_add,sl0_mk,sl1_mk,sl2_mk,sl3_mk,sl4_mk,sl5_mk,sl6_mk,sl7_mk,sl0_n8,sl1_n8,sl2_n8,sl3_n8,sl4_n8,sl5_n8,sl6_n8,sl7_n8,condV_t,notV_t,pickV_t,gT_t,gT_f,gF_t,gF_f,gT_u,gF_u,bs_true,bs_false,eqlY_y,neqY_y,leqY_y,geqY_y,lssY_y,gtrY_y,blockM_eq,finK_n,finK_r,decide_true,decide_false,ne_eq,not_true_eq_false,not_false_eq_true,Bool.not_true,Bool.not_false,unX_n,unX_r,unX_s,unX_ne,idB,nots,lenL_nil,ext_0,ext_1,ext_2,sdata_nil,eqPt_nil,eqPt_pn,eqPt_pp,addW_z,subW_z,eqlW_z,neqW_z,lssW_z,leqW_z,gtrW_z,geqV_z,lenS_vs,resv_eq,mulV_z,sidxV_d,sstr_fromI,sstr_bothI,sstr_toI,iadV_I,toW_y,lenL_sl,h1,g1,hd,digit_n c m hm,hq,subY_y c 48 hc.1]
    refine (num_loop lf0 m hm h s hs sign r lf _ (size+1) hd2 (by omega) (by omega) (by omega) (by omega) (by simpa using hl) K).trans ?_
    rw [satF,if_pos hq]
   ·simp -implicitDefEqProofs (disch:=omega) only [onCons_vl,onNil_vl,seqM_eq,nilckV_p,fadV_p,Nat.zero_add,sl0_mk,sl1_mk,sl2_mk,sl3_mk,sl4_mk,sl5_mk,sl6_mk,sl7_mk,sl0_n8,sl1_n8,sl2_n8,sl3_n8,sl4_n8,sl5_n8,sl6_n8,sl7_n8,condV_t,notV_t,pickV_t,gT_t,gT_f,gF_t,gF_f,gT_u,gF_u,bs_true,bs_false,eqlY_y,neqY_y,leqY_y,geqY_y,lssY_y,gtrY_y,blockM_eq,finK_n,finK_r,decide_true,decide_false,ne_eq,not_true_eq_false,not_false_eq_true,Bool.not_true,Bool.not_false,unX_n,unX_r,unX_s,unX_ne,idB,nots,lenL_nil,ext_0,ext_1,ext_2,sdata_nil,eqPt_nil,eqPt_pn,eqPt_pp,addW_z,subW_z,eqlW_z,neqW_z,lssW_z,leqW_z,gtrW_z,geqV_z,lenS_vs,resv_eq,mulV_z,sidxV_d,sstr_fromI,sstr_bothI,sstr_toI,iadV_I,toW_y,lenL_sl,h1,g1,hd,digit_n c m hm,hq]
    refine (num_loop lf0 m hm h s hs sign r lf _ (size+1) hd2 (by omega) hn0 hn1 (by omega) (by simpa using hl) K).trans ?_
    rw [satF,if_neg hq]
theorem tw_all:∀ (l:List UInt8),(l.takeWhile isDig).all isDig=true
 | []=>rfl
 | c::r=>by
  rw [List.takeWhile_cons]
  split
  ·rename_i h;rw [List.all_cons,h,tw_all r];rfl
  ·rfl
theorem num_tail (cf:CallF) (lf:Nat) (h:H) (s:List UInt8) (hs:s.length≤1000000) (neg:Bool) (n size:Int) (hn:0≤n∧n≤20000000000) (d:Int) (hd:d=size-(if neg then 1 else 0)) (hd0:0≤d) (hsz:size≤s.length) (K:KX) :
  j_Number_10 cf lf (frN n size (if neg then -1 else 1) s V.u) h K =
   (bs (!(decide (d=0) || decide (1073741824<n) || decide (s.getD (if neg then 1 else 0) 0=48) && (decide (1<d) || neg)))
    (K X.r ⟨⟨wz ((if neg then -1 else 1)*n),wz size,.t true,vs s,wz (if neg then -1 else 1),wz d,V.u,V.u⟩,n8 V.u,n8 V.u,n8 V.u,n8 V.u,n8 V.u,n8 V.u,n8 V.u⟩ h)
    (K X.r ⟨⟨wz 0,wz size,.t false,vs s,wz (if neg then -1 else 1),wz d,V.u,V.u⟩,n8 V.u,n8 V.u,n8 V.u,n8 V.u,n8 V.u,n8 V.u,n8 V.u⟩ h)):=by
 unfold j_Number_10 j_Number_5
 have hb:∀ e h K,j_Number_9 cf lf e h K=j_Number_9 cf lf e h K:=fun _ _ _=>rfl
 cases neg with
 | false=>
  obtain rfl:d=size:=by rw [hd];simp
  have h0:¬ (1:Int)<0:=by omega
  rw [if_neg (by simp),if_neg (by simp)]
  simp -implicitDefEqProofs (disch:=omega) only [onCons_vl,onNil_vl,seqM_eq,nilckV_p,fadV_p,Nat.zero_add,sl0_mk,sl1_mk,sl2_mk,sl3_mk,sl4_mk,sl5_mk,sl6_mk,sl7_mk,sl0_n8,sl1_n8,sl2_n8,sl3_n8,sl4_n8,sl5_n8,sl6_n8,sl7_n8,condV_t,notV_t,pickV_t,gT_t,gT_f,gF_t,gF_f,gT_u,gF_u,bs_true,bs_false,eqlY_y,neqY_y,leqY_y,geqY_y,lssY_y,gtrY_y,blockM_eq,finK_n,finK_r,decide_true,decide_false,ne_eq,not_true_eq_false,not_false_eq_true,Bool.not_true,Bool.not_false,unX_n,unX_r,unX_s,unX_ne,idB,nots,lenL_nil,ext_0,ext_1,ext_2,sdata_nil,eqPt_nil,eqPt_pn,eqPt_pp,addW_z,subW_z,eqlW_z,neqW_z,lssW_z,leqW_z,gtrW_z,geqV_z,lenS_vs,resv_eq,mulV_z,sidxV_d,sstr_fromI,sstr_bothI,sstr_toI,iadV_I,toW_y,lenL_sl,h0]
  unfold j_Number_9 j_Number_8 j_Number_7 j_Number_6
  by_cases q1:d=0
  ·simp -implicitDefEqProofs (disch:=omega) only [onCons_vl,onNil_vl,seqM_eq,nilckV_p,fadV_p,Nat.zero_add,sl0_mk,sl1_mk,sl2_mk,sl3_mk,sl4_mk,sl5_mk,sl6_mk,sl7_mk,sl0_n8,sl1_n8,sl2_n8,sl3_n8,sl4_n8,sl5_n8,sl6_n8,sl7_n8,condV_t,notV_t,pickV_t,gT_t,gT_f,gF_t,gF_f,gT_u,gF_u,bs_true,bs_false,eqlY_y,neqY_y,leqY_y,geqY_y,lssY_y,gtrY_y,blockM_eq,finK_n,finK_r,decide_true,decide_false,ne_eq,not_true_eq_false,not_false_eq_true,Bool.not_true,Bool.not_false,unX_n,unX_r,unX_s,unX_ne,idB,nots,lenL_nil,ext_0,ext_1,ext_2,sdata_nil,eqPt_nil,eqPt_pn,eqPt_pp,addW_z,subW_z,eqlW_z,neqW_z,lssW_z,leqW_z,gtrW_z,geqV_z,lenS_vs,resv_eq,mulV_z,sidxV_d,sstr_fromI,sstr_bothI,sstr_toI,iadV_I,toW_y,lenL_sl,q1,Bool.true_or]
  ·by_cases q2:1073741824<n
   ·simp -implicitDefEqProofs (disch:=omega) only [onCons_vl,onNil_vl,seqM_eq,nilckV_p,fadV_p,Nat.zero_add,sl0_mk,sl1_mk,sl2_mk,sl3_mk,sl4_mk,sl5_mk,sl6_mk,sl7_mk,sl0_n8,sl1_n8,sl2_n8,sl3_n8,sl4_n8,sl5_n8,sl6_n8,sl7_n8,condV_t,notV_t,pickV_t,gT_t,gT_f,gF_t,gF_f,gT_u,gF_u,bs_true,bs_false,eqlY_y,neqY_y,leqY_y,geqY_y,lssY_y,gtrY_y,blockM_eq,finK_n,finK_r,decide_true,decide_false,ne_eq,not_true_eq_false,not_false_eq_true,Bool.not_true,Bool.not_false,unX_n,unX_r,unX_s,unX_ne,idB,nots,lenL_nil,ext_0,ext_1,ext_2,sdata_nil,eqPt_nil,eqPt_pn,eqPt_pp,addW_z,subW_z,eqlW_z,neqW_z,lssW_z,leqW_z,gtrW_z,geqV_z,lenS_vs,resv_eq,mulV_z,sidxV_d,sstr_fromI,sstr_bothI,sstr_toI,iadV_I,toW_y,lenL_sl,q1,q2,Bool.true_or,Bool.false_or]
   ·by_cases q3:s.getD 0 0=48
    ·have e0:(d-d).toNat=0:=by omega
     by_cases q4:1<d
     ·simp -implicitDefEqProofs (disch:=omega) only [onCons_vl,onNil_vl,seqM_eq,nilckV_p,fadV_p,Nat.zero_add,sl0_mk,sl1_mk,sl2_mk,sl3_mk,sl4_mk,sl5_mk,sl6_mk,sl7_mk,sl0_n8,sl1_n8,sl2_n8,sl3_n8,sl4_n8,sl5_n8,sl6_n8,sl7_n8,condV_t,notV_t,pickV_t,gT_t,gT_f,gF_t,gF_f,gT_u,gF_u,bs_true,bs_false,eqlY_y,neqY_y,leqY_y,geqY_y,lssY_y,gtrY_y,blockM_eq,finK_n,finK_r,decide_true,decide_false,ne_eq,not_true_eq_false,not_false_eq_true,Bool.not_true,Bool.not_false,unX_n,unX_r,unX_s,unX_ne,idB,nots,lenL_nil,ext_0,ext_1,ext_2,sdata_nil,eqPt_nil,eqPt_pn,eqPt_pp,addW_z,subW_z,eqlW_z,neqW_z,lssW_z,leqW_z,gtrW_z,geqV_z,lenS_vs,resv_eq,mulV_z,sidxV_d,sstr_fromI,sstr_bothI,sstr_toI,iadV_I,toW_y,lenL_sl,q1,q2,q3,q4,e0,Bool.true_or,Bool.false_or,Bool.true_and]
     ·simp -implicitDefEqProofs (disch:=omega) only [onCons_vl,onNil_vl,seqM_eq,nilckV_p,fadV_p,Nat.zero_add,sl0_mk,sl1_mk,sl2_mk,sl3_mk,sl4_mk,sl5_mk,sl6_mk,sl7_mk,sl0_n8,sl1_n8,sl2_n8,sl3_n8,sl4_n8,sl5_n8,sl6_n8,sl7_n8,condV_t,notV_t,pickV_t,gT_t,gT_f,gF_t,gF_f,gT_u,gF_u,bs_true,bs_false,eqlY_y,neqY_y,leqY_y,geqY_y,lssY_y,gtrY_y,blockM_eq,finK_n,finK_r,decide_true,decide_false,ne_eq,not_true_eq_false,not_false_eq_true,Bool.not_true,Bool.not_false,unX_n,unX_r,unX_s,unX_ne,idB,nots,lenL_nil,ext_0,ext_1,ext_2,sdata_nil,eqPt_nil,eqPt_pn,eqPt_pp,addW_z,subW_z,eqlW_z,neqW_z,lssW_z,leqW_z,gtrW_z,geqV_z,lenS_vs,resv_eq,mulV_z,sidxV_d,sstr_fromI,sstr_bothI,sstr_toI,iadV_I,toW_y,lenL_sl,q1,q2,q3,q4,h0,e0,Bool.true_or,Bool.false_or,Bool.true_and,Int.one_mul]
    ·have e0:(d-d).toNat=0:=by omega
     simp -implicitDefEqProofs (disch:=omega) only [onCons_vl,onNil_vl,seqM_eq,nilckV_p,fadV_p,Nat.zero_add,sl0_mk,sl1_mk,sl2_mk,sl3_mk,sl4_mk,sl5_mk,sl6_mk,sl7_mk,sl0_n8,sl1_n8,sl2_n8,sl3_n8,sl4_n8,sl5_n8,sl6_n8,sl7_n8,condV_t,notV_t,pickV_t,gT_t,gT_f,gF_t,gF_f,gT_u,gF_u,bs_true,bs_false,eqlY_y,neqY_y,leqY_y,geqY_y,lssY_y,gtrY_y,blockM_eq,finK_n,finK_r,decide_true,decide_false,ne_eq,not_true_eq_false,not_false_eq_true,Bool.not_true,Bool.not_false,unX_n,unX_r,unX_s,unX_ne,idB,nots,lenL_nil,ext_0,ext_1,ext_2,sdata_nil,eqPt_nil,eqPt_pn,eqPt_pp,addW_z,subW_z,eqlW_z,neqW_z,lssW_z,leqW_z,gtrW_z,geqV_z,lenS_vs,resv_eq,mulV_z,sidxV_d,sstr_fromI,sstr_bothI,sstr_toI,iadV_I,toW_y,lenL_sl,q1,q2,q3,e0,Bool.true_or,Bool.false_or,Bool.false_and,Int.one_mul]
 | true=>
  obtain rfl:d=size-1:=by rw [hd];simp
  have h0:(-1:Int)<0:=by omega
  rw [if_pos rfl,if_pos rfl]
  simp -implicitDefEqProofs (disch:=omega) only [onCons_vl,onNil_vl,seqM_eq,nilckV_p,fadV_p,Nat.zero_add,sl0_mk,sl1_mk,sl2_mk,sl3_mk,sl4_mk,sl5_mk,sl6_mk,sl7_mk,sl0_n8,sl1_n8,sl2_n8,sl3_n8,sl4_n8,sl5_n8,sl6_n8,sl7_n8,condV_t,notV_t,pickV_t,gT_t,gT_f,gF_t,gF_f,gT_u,gF_u,bs_true,bs_false,eqlY_y,neqY_y,leqY_y,geqY_y,lssY_y,gtrY_y,blockM_eq,finK_n,finK_r,decide_true,decide_false,ne_eq,not_true_eq_false,not_false_eq_true,Bool.not_true,Bool.not_false,unX_n,unX_r,unX_s,unX_ne,idB,nots,lenL_nil,ext_0,ext_1,ext_2,sdata_nil,eqPt_nil,eqPt_pn,eqPt_pp,addW_z,subW_z,eqlW_z,neqW_z,lssW_z,leqW_z,gtrW_z,geqV_z,lenS_vs,resv_eq,mulV_z,sidxV_d,sstr_fromI,sstr_bothI,sstr_toI,iadV_I,toW_y,lenL_sl,h0]
  unfold j_Number_9 j_Number_8 j_Number_7 j_Number_6
  by_cases q1:size-1=0
  ·simp -implicitDefEqProofs (disch:=omega) only [onCons_vl,onNil_vl,seqM_eq,nilckV_p,fadV_p,Nat.zero_add,sl0_mk,sl1_mk,sl2_mk,sl3_mk,sl4_mk,sl5_mk,sl6_mk,sl7_mk,sl0_n8,sl1_n8,sl2_n8,sl3_n8,sl4_n8,sl5_n8,sl6_n8,sl7_n8,condV_t,notV_t,pickV_t,gT_t,gT_f,gF_t,gF_f,gT_u,gF_u,bs_true,bs_false,eqlY_y,neqY_y,leqY_y,geqY_y,lssY_y,gtrY_y,blockM_eq,finK_n,finK_r,decide_true,decide_false,ne_eq,not_true_eq_false,not_false_eq_true,Bool.not_true,Bool.not_false,unX_n,unX_r,unX_s,unX_ne,idB,nots,lenL_nil,ext_0,ext_1,ext_2,sdata_nil,eqPt_nil,eqPt_pn,eqPt_pp,addW_z,subW_z,eqlW_z,neqW_z,lssW_z,leqW_z,gtrW_z,geqV_z,lenS_vs,resv_eq,mulV_z,sidxV_d,sstr_fromI,sstr_bothI,sstr_toI,iadV_I,toW_y,lenL_sl,q1,Bool.true_or]
  ·by_cases q2:1073741824<n
   ·simp -implicitDefEqProofs (disch:=omega) only [onCons_vl,onNil_vl,seqM_eq,nilckV_p,fadV_p,Nat.zero_add,sl0_mk,sl1_mk,sl2_mk,sl3_mk,sl4_mk,sl5_mk,sl6_mk,sl7_mk,sl0_n8,sl1_n8,sl2_n8,sl3_n8,sl4_n8,sl5_n8,sl6_n8,sl7_n8,condV_t,notV_t,pickV_t,gT_t,gT_f,gF_t,gF_f,gT_u,gF_u,bs_true,bs_false,eqlY_y,neqY_y,leqY_y,geqY_y,lssY_y,gtrY_y,blockM_eq,finK_n,finK_r,decide_true,decide_false,ne_eq,not_true_eq_false,not_false_eq_true,Bool.not_true,Bool.not_false,unX_n,unX_r,unX_s,unX_ne,idB,nots,lenL_nil,ext_0,ext_1,ext_2,sdata_nil,eqPt_nil,eqPt_pn,eqPt_pp,addW_z,subW_z,eqlW_z,neqW_z,lssW_z,leqW_z,gtrW_z,geqV_z,lenS_vs,resv_eq,mulV_z,sidxV_d,sstr_fromI,sstr_bothI,sstr_toI,iadV_I,toW_y,lenL_sl,q1,q2,Bool.true_or,Bool.false_or]
   ·have e0:(size-(size-1)).toNat=1:=by omega
    by_cases q3:s.getD 1 0=48
    ·by_cases q4:1<size-1
     ·simp -implicitDefEqProofs (disch:=omega) only [onCons_vl,onNil_vl,seqM_eq,nilckV_p,fadV_p,Nat.zero_add,sl0_mk,sl1_mk,sl2_mk,sl3_mk,sl4_mk,sl5_mk,sl6_mk,sl7_mk,sl0_n8,sl1_n8,sl2_n8,sl3_n8,sl4_n8,sl5_n8,sl6_n8,sl7_n8,condV_t,notV_t,pickV_t,gT_t,gT_f,gF_t,gF_f,gT_u,gF_u,bs_true,bs_false,eqlY_y,neqY_y,leqY_y,geqY_y,lssY_y,gtrY_y,blockM_eq,finK_n,finK_r,decide_true,decide_false,ne_eq,not_true_eq_false,not_false_eq_true,Bool.not_true,Bool.not_false,unX_n,unX_r,unX_s,unX_ne,idB,nots,lenL_nil,ext_0,ext_1,ext_2,sdata_nil,eqPt_nil,eqPt_pn,eqPt_pp,addW_z,subW_z,eqlW_z,neqW_z,lssW_z,leqW_z,gtrW_z,geqV_z,lenS_vs,resv_eq,mulV_z,sidxV_d,sstr_fromI,sstr_bothI,sstr_toI,iadV_I,toW_y,lenL_sl,q1,q2,q3,q4,e0,Bool.true_or,Bool.false_or,Bool.true_and]
     ·simp -implicitDefEqProofs (disch:=omega) only [onCons_vl,onNil_vl,seqM_eq,nilckV_p,fadV_p,Nat.zero_add,sl0_mk,sl1_mk,sl2_mk,sl3_mk,sl4_mk,sl5_mk,sl6_mk,sl7_mk,sl0_n8,sl1_n8,sl2_n8,sl3_n8,sl4_n8,sl5_n8,sl6_n8,sl7_n8,condV_t,notV_t,pickV_t,gT_t,gT_f,gF_t,gF_f,gT_u,gF_u,bs_true,bs_false,eqlY_y,neqY_y,leqY_y,geqY_y,lssY_y,gtrY_y,blockM_eq,finK_n,finK_r,decide_true,decide_false,ne_eq,not_true_eq_false,not_false_eq_true,Bool.not_true,Bool.not_false,unX_n,unX_r,unX_s,unX_ne,idB,nots,lenL_nil,ext_0,ext_1,ext_2,sdata_nil,eqPt_nil,eqPt_pn,eqPt_pp,addW_z,subW_z,eqlW_z,neqW_z,lssW_z,leqW_z,gtrW_z,geqV_z,lenS_vs,resv_eq,mulV_z,sidxV_d,sstr_fromI,sstr_bothI,sstr_toI,iadV_I,toW_y,lenL_sl,q1,q2,q3,q4,h0,e0,Bool.true_or,Bool.false_or,Bool.or_true,Bool.true_and]
    ·simp -implicitDefEqProofs (disch:=omega) only [onCons_vl,onNil_vl,seqM_eq,nilckV_p,fadV_p,Nat.zero_add,sl0_mk,sl1_mk,sl2_mk,sl3_mk,sl4_mk,sl5_mk,sl6_mk,sl7_mk,sl0_n8,sl1_n8,sl2_n8,sl3_n8,sl4_n8,sl5_n8,sl6_n8,sl7_n8,condV_t,notV_t,pickV_t,gT_t,gT_f,gF_t,gF_f,gT_u,gF_u,bs_true,bs_false,eqlY_y,neqY_y,leqY_y,geqY_y,lssY_y,gtrY_y,blockM_eq,finK_n,finK_r,decide_true,decide_false,ne_eq,not_true_eq_false,not_false_eq_true,Bool.not_true,Bool.not_false,unX_n,unX_r,unX_s,unX_ne,idB,nots,lenL_nil,ext_0,ext_1,ext_2,sdata_nil,eqPt_nil,eqPt_pn,eqPt_pp,addW_z,subW_z,eqlW_z,neqW_z,lssW_z,leqW_z,gtrW_z,geqV_z,lenS_vs,resv_eq,mulV_z,sidxV_d,sstr_fromI,sstr_bothI,sstr_toI,iadV_I,toW_y,lenL_sl,q1,q2,q3,e0,Bool.true_or,Bool.false_or,Bool.false_and]
def negB (s:List UInt8):Bool:=decide (1≤s.length) && decide (s.take 1=[45])
def numDs (s:List UInt8):List UInt8:=(if negB s then s.drop 1 else s).takeWhile isDig
def numOk (s:List UInt8):Bool:=!(decide (((numDs s).length:Int)=0) || decide (1073741824<satF 0 (numDs s)) || decide (s.getD (if negB s then 1 else 0) 0=48) && (decide (1<((numDs s).length:Int)) || negB s))
def numSz (s:List UInt8):Int:=(if negB s then 1 else 0)+(numDs s).length
def numV (s:List UInt8):Int:=if numOk s then (if negB s then -1 else 1)*satF 0 (numDs s) else 0
theorem numDs_le (s:List UInt8):numSz s≤s.length:=by
 unfold numSz numDs
 cases h:negB s with
 | false=>have:=(List.takeWhile_sublist isDig (l:=s)).length_le;simp;omega
 | true=>
  have h1:1≤s.length:=by unfold negB at h;simp at h;omega
  have:=(List.takeWhile_sublist isDig (l:=s.drop 1)).length_le
  rw [List.length_drop] at this
  simp at this ⊢;omega
theorem Number_n (s:List UInt8) (hs:s.length≤90000) (n:Nat) (hn:4≤n) (h:H) (k:KV):run tbl n Nf_j_Number (vl [vs s]) h k=k (.x .tup (vl [wz (numV s),wz (numSz s),.t (numOk s)]) V.nil) h:=by
 obtain ⟨m,rfl⟩ : ∃ m,n=m+1:=⟨n-1,by omega⟩
 have hp:=hasPrefix_n s [45] (by omega) (by simp) m (by omega) h
 have hp':∀ k,run tbl m Nf_st_HasPrefix (vl [vs s,vs [45]]) h k=k (.t (negB s)) h:=hp
 have hbd:=satF_bd (numDs s) 0 (tw_all _) (by omega) (by omega)
 have hle:=numDs_le s
 have ht:=num_tail (run tbl m) big h s (by omega) (negB s) (satF 0 (numDs s)) (numSz s) hbd (numDs s).length (by unfold numSz;omega) (by omega) hle
 have hfin:∀ (K:KX) (a b:L8),bs (numOk s) (K X.r a h) (K X.r b h)=if numOk s then K X.r a h else K X.r b h:=fun K a b=>by cases numOk s <;> rfl
 rw [run_succ,tbl_j_Number]
 unfold T_j_Number j_Number_11 j_Number_0 j_Number_1
 have hl:∀ K,loopM big (seqM (j_Number_2 (run tbl m) big) (blockM 4 (seqM (j_Number_3 (run tbl m) big) (j_Number_4 (run tbl m) big)))) (frN 0 (if negB s then 1 else 0) (if negB s then -1 else 1) s V.u) h K=K (X.x 3) (frN (satF 0 (numDs s)) (numSz s) (if negB s then -1 else 1) s V.u) h:=by
  intro K
  unfold numSz numDs
  cases hneg:negB s with
  | false=>exact num_loop big m (by omega) h s (by omega) 1 s big 0 0 rfl (by omega) (by omega) (by omega) (by omega) (by unfold big;omega) K
  | true=>
   have h1:1≤s.length:=by unfold negB at hneg;simp at hneg;omega
   exact num_loop big m (by omega) h s (by omega) (-1) (s.drop 1) big 0 1 rfl (by omega) (by omega) (by omega) (by omega) (by rw [List.length_drop];unfold big;omega) K
 have hr:∀ (v:Int) (b:Bool),numV s=v→numOk s=b→∀ K:KV,K (.x .tup (vl [wz v,wz (numSz s),.t b]) V.nil) h=K (.x .tup (vl [wz (numV s),wz (numSz s),.t (numOk s)]) V.nil) h:=fun v b e1 e2 K=>by rw [e1,e2]
 have key:∀ (K:KV),(bs (numOk s) (K (.x .tup (vl [wz ((if negB s then -1 else 1)*satF 0 (numDs s)),wz (numSz s),.t true]) V.nil) h) (K (.x .tup (vl [wz 0,wz (numSz s),.t false]) V.nil) h))=K (.x .tup (vl [wz (numV s),wz (numSz s),.t (numOk s)]) V.nil) h:=by
  intro K
  unfold numV
  cases numOk s <;> rfl
 cases hneg:negB s with
 | false=>
  rw [hneg] at hl ht hp'
  simp only [Bool.false_eq_true,if_false] at hl ht
  simp -implicitDefEqProofs (disch:=omega) only [onCons_vl,onNil_vl,seqM_eq,nilckV_p,fadV_p,Nat.zero_add,sl0_mk,sl1_mk,sl2_mk,sl3_mk,sl4_mk,sl5_mk,sl6_mk,sl7_mk,sl0_n8,sl1_n8,sl2_n8,sl3_n8,sl4_n8,sl5_n8,sl6_n8,sl7_n8,condV_t,notV_t,pickV_t,gT_t,gT_f,gF_t,gF_f,gT_u,gF_u,bs_true,bs_false,eqlY_y,neqY_y,leqY_y,geqY_y,lssY_y,gtrY_y,blockM_eq,finK_n,finK_r,decide_true,decide_false,ne_eq,not_true_eq_false,not_false_eq_true,Bool.not_true,Bool.not_false,unX_n,unX_r,unX_s,unX_ne,idB,nots,lenL_nil,ext_0,ext_1,ext_2,sdata_nil,eqPt_nil,eqPt_pn,eqPt_pp,addW_z,subW_z,eqlW_z,neqW_z,lssW_z,leqW_z,gtrW_z,geqV_z,lenS_vs,resv_eq,mulV_z,sidxV_d,sstr_fromI,sstr_bothI,sstr_toI,iadV_I,toW_y,lenL_sl,hp',hl]
  refine (ht _).trans ?_
  rw [← key k]
  unfold numOk
  rw [hneg]
  simp -implicitDefEqProofs only [onCons_vl,onNil_vl,seqM_eq,nilckV_p,fadV_p,Nat.zero_add,sl0_mk,sl1_mk,sl2_mk,sl3_mk,sl4_mk,sl5_mk,sl6_mk,sl7_mk,sl0_n8,sl1_n8,sl2_n8,sl3_n8,sl4_n8,sl5_n8,sl6_n8,sl7_n8,condV_t,notV_t,pickV_t,gT_t,gT_f,gF_t,gF_f,gT_u,gF_u,bs_true,bs_false,eqlY_y,neqY_y,leqY_y,geqY_y,lssY_y,gtrY_y,blockM_eq,finK_n,finK_r,decide_true,decide_false,ne_eq,not_true_eq_false,not_false_eq_true,Bool.not_true,Bool.not_false,unX_n,unX_r,unX_s,unX_ne,idB,nots,lenL_nil,ext_0,ext_1,ext_2,sdata_nil,eqPt_nil,eqPt_pn,eqPt_pp,Bool.false_eq_true,if_false,Bool.or_false]
 | true=>
  rw [hneg] at hl ht hp'
  simp only [if_true] at hl ht
  simp -implicitDefEqProofs (disch:=omega) only [onCons_vl,onNil_vl,seqM_eq,nilckV_p,fadV_p,Nat.zero_add,sl0_mk,sl1_mk,sl2_mk,sl3_mk,sl4_mk,sl5_mk,sl6_mk,sl7_mk,sl0_n8,sl1_n8,sl2_n8,sl3_n8,sl4_n8,sl5_n8,sl6_n8,sl7_n8,condV_t,notV_t,pickV_t,gT_t,gT_f,gF_t,gF_f,gT_u,gF_u,bs_true,bs_false,eqlY_y,neqY_y,leqY_y,geqY_y,lssY_y,gtrY_y,blockM_eq,finK_n,finK_r,decide_true,decide_false,ne_eq,not_true_eq_false,not_false_eq_true,Bool.not_true,Bool.not_false,unX_n,unX_r,unX_s,unX_ne,idB,nots,lenL_nil,ext_0,ext_1,ext_2,sdata_nil,eqPt_nil,eqPt_pn,eqPt_pp,addW_z,subW_z,eqlW_z,neqW_z,lssW_z,leqW_z,gtrW_z,geqV_z,lenS_vs,resv_eq,mulV_z,sidxV_d,sstr_fromI,sstr_bothI,sstr_toI,iadV_I,toW_y,lenL_sl,hp',hl]
  refine (ht _).trans ?_
  rw [← key k]
  unfold numOk
  rw [hneg]
  simp -implicitDefEqProofs only [onCons_vl,onNil_vl,seqM_eq,nilckV_p,fadV_p,Nat.zero_add,sl0_mk,sl1_mk,sl2_mk,sl3_mk,sl4_mk,sl5_mk,sl6_mk,sl7_mk,sl0_n8,sl1_n8,sl2_n8,sl3_n8,sl4_n8,sl5_n8,sl6_n8,sl7_n8,condV_t,notV_t,pickV_t,gT_t,gT_f,gF_t,gF_f,gT_u,gF_u,bs_true,bs_false,eqlY_y,neqY_y,leqY_y,geqY_y,lssY_y,gtrY_y,blockM_eq,finK_n,finK_r,decide_true,decide_false,ne_eq,not_true_eq_false,not_false_eq_true,Bool.not_true,Bool.not_false,unX_n,unX_r,unX_s,unX_ne,idB,nots,lenL_nil,ext_0,ext_1,ext_2,sdata_nil,eqPt_nil,eqPt_pn,eqPt_pp,if_true,Bool.or_true]
end Go.Bvm.JN
set_option linter.unusedVariables false
set_option linter.unusedSimpArgs false
set_option maxRecDepth 20000
namespace Go.Bvm.JN
open Go.Bvm
noncomputable abbrev pnil:V:=.x .pnil V.nil V.nil
noncomputable abbrev inil:V:=.x .inil V.nil V.nil
noncomputable abbrev tup0:V:=.x .tup V.nil V.nil
abbrev MB:List Nat:=[kO Ty_strings_Builder,kR Ty_uint8]
def WO (c:Nat) (h:H) (b:Nat) (l:Str):Prop:=(b<h.next∧c≤b)∧∃ a v,Bk h b 0 0 Ty_strings_Builder true true [a,v]∧(a=pnil∨a=.p b 0 2 0)∧(l=[]→v=slnil)∧SlO [] c h v l
theorem WO.fz {c a d:Nat} {M:List Nat} {h h':H} {b:Nat} {l:Str} (P:WO c h b l) (F:Fz a d M h h') (hb:h.next≤d) (q:∀ k,k∈kO Ty_uint8::MB→k∉M):WO c h' b l:=by
 obtain ⟨hp,x,v,B,ha,hz,S⟩:=P
 exact ⟨⟨Nat.lt_of_lt_of_le hp.1 F.nx,hp.2⟩,x,v,B.fz F (Nat.lt_of_lt_of_le hp.1 hb) (q _ (by simp)),ha,hz,S.fz F hb fun k hk=>q k (mem_of hk (by decide))⟩
theorem noescape_eq (n:Nat) (v:V) (h:H) (k:KV):run tbl (n+1) Nf_abi_NoEscape (vl [v]) h k=k v h:=rfl
theorem cvU_bk {h:H} {id ver frz elem off lim:Nat} {ex own:Bool} {l:List V} (b:Bk h id ver frz elem ex own l) (hl:off<lim) (k:V→Bool):cvU (.p id off lim ver) h k=k (.p id off lim ver):=by
 obtain ⟨c,h2,_⟩:=b
 show onBk (hget id h.tr) _=_
 rw [h2]
 show both (Nat.beq ver ver) (both (Nat.ble (Nat.succ off) lim) _)=_
 rw [beq_dec,ble_dec,bothd rfl,bothd (Nat.succ_le_of_lt hl)]
theorem cvP_bk {h:H} {id elem lim frz n:Nat} {own:Bool} {l:List V} (b:Bk h id 0 frz elem true own l) (hn:l.length=n) (k:V→Bool):cvP elem n (.p id 0 lim 0) h k=k (.p id 0 lim 0):=by
 subst hn
 obtain ⟨c,h2,_⟩:=b
 show onBk (hget id h.tr) _=_
 rw [h2]
 show both (Nat.beq 0 0) (both (Nat.beq elem elem) (both (Nat.beq 0 0) (both true (both (Nat.beq l.length l.length) _))))=_
 rw [beq_dec elem,beq_dec l.length,bothd rfl,bothd rfl]
 rfl
theorem copyCheck_w {c:Nat} {h:H} {b:Nat} {l:Str} {k:KV} (P:WO c h b l) {n:Nat} (K:∀ h' v,b<h'.next→Bk h' b 0 0 Ty_strings_Builder true true [.p b 0 2 0,v]→(l=[]→v=slnil)→SlO [] c h' v l→Fz c h.next [kO Ty_strings_Builder] h h'→k tup0 h'=true):run tbl (n+2) Nf_st_Builder_copyCheck (vl [.p b 0 2 0]) h k=true:=by
 obtain ⟨hp,x,v,B,ha,hz,S⟩:=P
 have L:=fun {o m}=>B.ld (n:=2) rfl (off:=o) (lim:=m)
 rw [run_succ,tbl_st_Builder_copyCheck]
 unfold T_st_Builder_copyCheck st_Builder_copyCheck_0
 rcases ha with rfl | rfl
 ·simp -implicitDefEqProofs (disch:=omega) [L,cvU_bk B,noescape_eq,cvP_bk B (n:=2) rfl,idB]
  refine st_w B (by simp) (by decide) rfl fun h' n' B' o=>?_
  have F:Fz c h.next [kO Ty_strings_Builder] h h':=(Fz.refl c h.next _ h).put o hp.2 (.inr (by rw [B.kd];exact List.mem_cons_self))
  exact K h' v (by omega) (by simpa using B') hz (S.fz F (Nat.le_refl _) (by decide)) F
 ·simp -implicitDefEqProofs (disch:=omega) [L,nots]
  exact K h v hp.1 B hz S (Fz.refl _ _ _ _)
theorem writeByte_w {c:Nat} {h:H} {b:Nat} {l:Str} {k:KV} (P:WO c h b l) (hl:l.length≤1000000000) {y:UInt8} {n:Nat} (K:∀ h',WO c h' b (l++[y])→Fz c h.next MB h h'→k inil h'=true):run tbl (n+3) Nf_st_Builder_WriteByte (vl [.p b 0 2 0,vy y]) h k=true:=by
 have hp:=P.1
 rw [run_succ,tbl_st_Builder_WriteByte]
 unfold T_st_Builder_WriteByte st_Builder_WriteByte_0
 simp -implicitDefEqProofs
 refine copyCheck_w P fun h1 v hb B hz S F1=>?_
 have L:=fun {o m}=>B.ld (n:=2) rfl (off:=o) (lim:=m)
 have n1:=F1.nx
 simp -implicitDefEqProofs (disch:=omega) [L]
 refine S.app1 (x:=y) rfl (by decide) rfl (by decide) (by show (l.length+1)*1≤_;omega) (by omega) (by simp) (by decide) fun h2 w S2 _ _ F2=>?_
 have B2:=B.fz F2 hb (by decide)
 have n2:=F2.nx
 refine st_w B2 (by simp) (by decide) S2.sl.one fun h3 n3 B3 o=>?_
 have F3:Fz c h2.next [kO Ty_strings_Builder] h2 h3:=(Fz.refl c h2.next _ h2).put o hp.2 (.inr (by rw [B2.kd];exact List.mem_cons_self))
 exact K h3 ⟨⟨by omega,hp.2⟩,_,_,B3,.inr rfl,by simp,S2.fz F3 (Nat.le_refl _) (by decide)⟩ (((F1.mono (Nat.le_refl _) (Nat.le_refl _) (by decide)).trans F2 (Nat.le_refl _) n1 (by decide)).trans F3 (Nat.le_refl _) (by omega) (by decide))
theorem packA_ok {c:Arr}:∀ (l:Str) (i:Nat) (k:Nat→Bool),(∀ j (hj:j<l.length),aget (i+j) c=vy l[j])→packA c l.length i k=k (pack l)
 | [],i,k,h=>rfl
 | b::r,i,k,h=>by
  have h0:=h 0 (by simp)
  rw [Nat.add_zero] at h0
  show onY (aget i c) _=_
  rw [h0]
  show packA c r.length (i+1) (fun q=>k (b.toNat+256*q))=_
  rw [packA_ok r (i+1) _ (fun j hj=>by
   have:=h (j+1) (by simpa using hj)
   rw [show i+(j+1)=i+1+j from by omega] at this
   exact this)]
  rfl
theorem onBk_bk (c:Arr) (size bver frz elem:Nat) (ex own:Bool) (f:Arr→Nat→Nat→Nat→Nat→Bool→Bool→Bool):onBk (.bk c size bver frz elem ex own) f=f c size bver frz elem ex own:=rfl
theorem usS_w0 (e id off lim ver m:Nat) (h:H) (k:KV):usS e (.p id off lim ver) (.w m) h k=both (Nat.ble bias m) (bs (Nat.beq m bias) (k (.s 0 0) h) (onBk (hget id h.tr) fun c size bver frz elem ex own=>both own (both (Nat.beq ver bver) (both (Nat.ble (off+(m-bias)) lim) (both (both (Nat.beq elem e) (Nat.ble (m-bias) 1000000000))
  (packA c (m-bias) off fun r=>k (.s (m-bias) r) ⟨h.next,hset id (.bk c size bver frz elem ex false) h.tr⟩)))))):=by
 unfold usS onW onP isPnil
 rfl
theorem usS_w {h:H} {id ver frz elem:Nat} {ex:Bool} {l:Str} {k:KV} (b:Bk h id ver frz elem ex true (l.map vy)) (hlen:l.length≤1000000000) (h0:0<l.length)
  (K:∀ h',h'.next=h.next→Only h h' id→k (vs l) h'=true):usS elem (.p id 0 (l.length*1) ver) (wz l.length) h k=true:=by
 obtain ⟨c,h2,h3,h4⟩:=b
 unfold wz
 obtain ⟨m,hm⟩ : ∃ m,m=((l.length:Int)+9223372036854775808).toNat:=⟨_,rfl⟩
 rw [← hm]
 have hb:bias=9223372036854775808:=rfl
 have e:m-bias=l.length:=by omega
 rw [usS_w0,ble_dec,bothd (by omega),beq_dec,show decide (m=bias)=false from by simp;omega,bs_false,h2,onBk_bk]
 rw [e,packA_ok l 0 _ (fun j hj=>by rw [Nat.zero_add,h4 j (by simpa using hj)];simp)]
 rw [both_t,beq_dec,beq_dec,ble_dec,ble_dec,bothd rfl,bothd (by omega)]
 rw [show both (decide (elem=elem)) (decide (l.length≤1000000000))=true from by rw [bothd rfl];simp;omega]
 exact K _ rfl ⟨Nat.le_refl _,fun i q=>by
  show hget i (hset id _ h.tr)=_
  rw [hget_hset _ _ _ _ (Nat.zero_le _) (Nat.zero_le _),if_neg q]⟩
theorem sdata_sl (id off len ver es:Nat) (h:1≤len) (k:V→Bool):sdata (.sl id off len ver es) k=k (.p id off (off+len*es) ver):=by
 show both (Nat.ble 1 len) _=_
 rw [ble_dec,bothd h]
theorem bytes_flat:∀ {cs:List (List V)} {l:Str} {h:H},All [] h cs l→cs.flatten=l.map vy
 | [],[],h,A=>rfl
 | [],b::l,h,A=>by have:=A.1;simp at this
 | c::r,[],h,A=>by have:=A.1;simp at this
 | c::r,b::l,h,A=>by
  have e:c=[vy b]:=A.2 0 c b rfl rfl
  rw [List.flatten_cons,e,bytes_flat (l:=l) (h:=h) ⟨by have:=A.1;simpa using this,fun i c x e1 e2=>A.2 (i+1) c x e1 e2⟩]
  rfl
theorem builderString_w {c:Nat} {h:H} {b:Nat} {l:Str} {k:KV} (P:WO c h b l) (hl:l.length≤1000000000) {n:Nat} (K:∀ h',Fz c h.next MB h h'→k (vs l) h'=true):run tbl (n+1) Nf_st_Builder_String (vl [.p b 0 2 0]) h k=true:=by
 obtain ⟨hp,x,v,B,ha,hz,cs,⟨hcn,hcl,q⟩,A⟩:=P
 have L:=fun {o m}=>B.ld (n:=2) rfl (off:=o) (lim:=m)
 rw [run_succ,tbl_st_Builder_String]
 unfold T_st_Builder_String st_Builder_String_0
 simp -implicitDefEqProofs (disch:=omega) [L]
 rcases q with ⟨rfl,rfl⟩ | ⟨id,ver,rfl,hci,hid,B2⟩
 ·have:l=[]:=List.eq_nil_of_length_eq_zero (by rw [← A.1];rfl)
  subst this
  simp -implicitDefEqProofs
  exact K h (Fz.refl _ _ _ _)
 ·have e:=A.1
  rw [e]
  rcases Nat.eq_zero_or_pos l.length with z | z
  ·have:=hz (List.eq_nil_of_length_eq_zero z)
   simp [slnil] at this
  rw [sdata_sl _ _ _ _ _ z,lenL_sl _ _ _ _ _ (by omega)]
  rw [bytes_flat A] at B2
  rw [show (0+l.length*Enc.n UInt8)=l.length*1 from by rw [Nat.zero_add];rfl]
  refine usS_w B2 hl z fun h' n' o=>?_
  exact K h' ((Fz.refl c h.next MB h).put o hci (.inr (by rw [B2.kd];decide)))
end Go.Bvm.JN
set_option linter.unusedVariables false
set_option linter.unusedSimpArgs false
set_option maxRecDepth 20000
namespace Go.Bvm.JN
open Go.Bvm
def scanS:List UInt8→List UInt8→Int→Option (List UInt8×Int)
 | [],_,_=>none
 | c::r,acc,i=>if c=34 then some (acc,i+1) else if c<32 then none else if 126<c then none else if c=92 then (match r with
   | []=>none
   | d::r'=>if d=34∨d=92 then scanS r' (acc++[d]) (i+2) else none) else scanS r (acc++[c]) (i+1)
def sT:Option (List UInt8×Int)→List UInt8:=fun x=>match x with | some y=>y.1 | none=>[]
def sN:Option (List UInt8×Int)→Int:=fun x=>match x with | some y=>y.2 | none=>0
theorem scanS_c (c:UInt8) (r acc:List UInt8) (i:Int):scanS (c::r) acc i=if c=34 then some (acc,i+1) else if c<32 then none else if 126<c then none else if c=92 then (match r with
   | []=>none
   | d::r'=>if d=34∨d=92 then scanS r' (acc++[d]) (i+2) else none) else scanS r (acc++[c]) (i+1):=by
 rw [scanS.eq_def]
theorem scanS_bd:∀ (n:Nat) (r acc:List UInt8) (i:Int) (y:List UInt8×Int),r.length≤n→scanS r acc i=some y→i<y.2∧y.2≤i+r.length∧y.1.length≤acc.length+r.length
 | n,[],acc,i,y,_,h=>by simp [scanS] at h
 | 0,c::r,acc,i,y,hl,h=>by simp at hl
 | n+1,c::r,acc,i,y,hl,h=>by
  rw [scanS_c] at h
  have hlen:(c::r).length=r.length+1:=List.length_cons
  rw [hlen] at hl ⊢
  by_cases c1:c=34
  ·rw [if_pos c1] at h
   simp only [Option.some.injEq] at h
   subst h
   exact ⟨by show i<i+1;omega,by show i+1≤_;omega,by show acc.length≤_;omega⟩
  ·rw [if_neg c1] at h
   by_cases c2:c<32
   ·rw [if_pos c2] at h;simp at h
   ·rw [if_neg c2] at h
    by_cases c3:126<c
    ·rw [if_pos c3] at h;simp at h
    ·rw [if_neg c3] at h
     by_cases c4:c=92
     ·rw [if_pos c4] at h
      cases r with
      | nil=>simp at h
      | cons d r=>
       dsimp only at h
       by_cases d1:d=34∨d=92
       ·rw [if_pos d1] at h
        have:=scanS_bd n r _ _ y (by simp at hl;omega) h
        simp at this ⊢;omega
       ·rw [if_neg d1] at h;simp at h
     ·rw [if_neg c4] at h
      have:=scanS_bd n r _ _ y (by omega) h
      simp at this ⊢;omega
def strF (s:Str):Option (Str×Int):=scanS (s.drop 1) [] 1
theorem sidx_at {s:Str} {i:Int} {c:UInt8} {r:Str} (h:s.drop i.toNat=c::r) (h0:0≤i) (k:V→Bool):sidxV (vs s) (wz i) k=k (vy c):=by
 obtain ⟨g1,g2,g3⟩:=drop_getD h
 rw [sidxV_d s i h0 (by omega),g1]
theorem String_w {h:H} (s:Str) (hs:s.length≤1000000) {n:Nat} {k:KV} (K:∀ h',Ex h h'→k (.x .tup (vl [vs (sT (strF s)),wz (sN (strF s)),.t (strF s).isSome]) V.nil) h'=true):run tbl (n+4) Nf_j_String (vl [vs s]) h k=true:=by
 rw [run_succ,tbl_j_String]
 unfold T_j_String j_String_11 j_String_9
 simp -implicitDefEqProofs (disch:=omega)
 refine newA_w rfl (by decide) (by decide) fun h1 n1 B1 o1=>?_
 have hn1:h1.next=h.next+1:=n1
 refine loop_w (fun m e h'=>∃ (i:Int) (r acc:Str) (v:V),m=r.length∧0≤i∧s.drop i.toNat=r∧e=f8 (vs []) (wz 0) (.t false) (wz i) (vs s) (.p h.next 0 2 0) v V.u∧WO h.next h' h.next acc∧Ex h h'∧scanS r acc i=strF s∧acc.length≤i) ?_ big (s.drop 1).length _ _ ⟨1,s.drop 1,[],V.u,rfl,by omega,rfl,rfl,⟨⟨by omega,Nat.le_refl _⟩,_,_,B1,.inl rfl,fun _=>rfl,.nil _ _ _⟩,o1.ex (Nat.le_refl _),rfl,by simp⟩ (by rw [List.length_drop];unfold big;omega)
 rintro m e h2 ⟨i,r,acc,v,rfl,hi,hr,rfl,W,E,hsc,hacc⟩ K' Kn Kx Kr
 unfold j_String_0
 simp -implicitDefEqProofs (disch:=omega)
 cases r with
 | nil=>
  have h1:¬ i<(s.length:Int):=by
   have:=List.drop_eq_nil_iff.1 hr
   omega
  have hq:strF s=none:=by rw [← hsc];rfl
  simp only [h1,decide_false,bs_f]
  refine Kx _ _ _ ?_
  unfold j_String_10
  simp -implicitDefEqProofs
  have:=K h2 E
  rw [hq] at this
  exact this
 | cons c r=>
  obtain ⟨g1,g2,g3⟩:=drop_getD hr
  have h1:i<(s.length:Int):=by omega
  have g2':s.drop (i+1).toNat=r:=by rw [show (i+1).toNat=i.toNat+1 from by omega];exact g2
  rw [scanS_c] at hsc
  have bad:none=strF s→k (.x .tup (vl [vs [],wz 0,.t false]) V.nil) h2=true:=fun e=>by have:=K h2 E;rw [← e] at this;exact this
  unfold j_String_7 j_String_5
  simp -implicitDefEqProofs (disch:=omega) [h1,sidx_at hr]
  by_cases c1:c=34
  ·rw [if_pos c1] at hsc
   simp only [c1,decide_true,bs_t]
   refine builderString_w W (by omega) fun h3 F3=>?_
   refine Kr _ _ ?_
   have:=K h3 (E.loc F3 (Nat.le_refl _) (Nat.le_refl _))
   rw [← hsc] at this
   exact this
  ·rw [if_neg c1] at hsc
   simp only [c1,decide_false,bs_f]
   unfold j_String_4
   simp -implicitDefEqProofs (disch:=omega)
   by_cases c2:c<32
   ·have b2:yLt c 32=true:=decide_eq_true c2
    rw [if_pos c2] at hsc
    simp -implicitDefEqProofs [b2]
    exact Kr _ _ (bad hsc)
   ·have b2:yLt c 32=false:=decide_eq_false c2
    rw [if_neg c2] at hsc
    by_cases c3:126<c
    ·have b3:yLt 126 c=true:=decide_eq_true c3
     rw [if_pos c3] at hsc
     simp -implicitDefEqProofs [b2,b3]
     exact Kr _ _ (bad hsc)
    ·have b3:yLt 126 c=false:=decide_eq_false c3
     rw [if_neg c3] at hsc
     have go:∀ (i':Int) (d:UInt8) (r':Str),i≤i'→i'<s.length→s.drop (i'+1).toNat=r'→r'.length<r.length+1→scanS r' (acc++[d]) (i'+1)=strF s→∀ h3,WO h.next h3 h.next (acc++[d])→Fz h.next h2.next MB h2 h3→K' X.n (f8 (vs []) (wz 0) (.t false) (wz (i'+1)) (vs s) (.p h.next 0 2 0) (vy d) V.u) h3=true:=
      fun i' d r' hii hi' hr' hl hsc' h3 W3 F3=>Kn _ _ _ hl ⟨i'+1,r',acc++[d],vy d,rfl,by omega,hr',rfl,W3,E.loc F3 (Nat.le_refl _) (Nat.le_refl _),hsc',by simp;omega⟩
     by_cases c4:c=92
     ·replace hsc:=(if_pos c4 (α:=Option (Str×Int))).symm.trans hsc
      simp -implicitDefEqProofs [b2,b3,c4]
      unfold j_String_2 j_String_1
      simp -implicitDefEqProofs (disch:=omega)
      cases r with
      | nil=>
       have h3:(s.length:Int)≤i+1:=by
        have:=List.drop_eq_nil_iff.1 g2'
        omega
       simp [h3]
       exact Kr _ _ (bad hsc)
      | cons d r'=>
       obtain ⟨g1',g2'',g3'⟩:=drop_getD g2'
       have h3:¬ (s.length:Int)≤i+1:=by omega
       dsimp only at hsc
       by_cases d1:d=34
       ·simp -implicitDefEqProofs (disch:=omega) [h3,sidx_at g2',d1]
        unfold j_String_3 j_String_6 j_String_8
        simp -implicitDefEqProofs (disch:=omega) [sidx_at g2']
        refine writeByte_w W (by omega) fun h3 W3 F3=>?_
        exact go (i+1) d r' (by omega) (by omega) (by rw [show (i+1+1).toNat=(i+1).toNat+1 from by omega];exact g2'') (by simp only [List.length_cons];omega) (by rw [if_pos (by simp [d1])] at hsc;rw [show i+1+1=i+2 from by omega];exact hsc) h3 W3 F3
       ·by_cases d2:d=92
        ·simp -implicitDefEqProofs (disch:=omega) [h3,sidx_at g2',d1,d2]
         unfold j_String_3 j_String_6 j_String_8
         simp -implicitDefEqProofs (disch:=omega) [sidx_at g2']
         refine writeByte_w W (by omega) fun h3 W3 F3=>?_
         exact go (i+1) d r' (by omega) (by omega) (by rw [show (i+1+1).toNat=(i+1).toNat+1 from by omega];exact g2'') (by simp only [List.length_cons];omega) (by rw [if_pos (by simp [d2])] at hsc;rw [show i+1+1=i+2 from by omega];exact hsc) h3 W3 F3
        ·simp -implicitDefEqProofs (disch:=omega) [h3,sidx_at g2',d1,d2]
         rw [if_neg (by simp [d1,d2])] at hsc
         exact Kr _ _ (bad hsc)
     ·rw [if_neg c4] at hsc
      simp only [b2,b3,c4,gF_f,bs_f,condV_t,decide_false,pickV_t]
      unfold j_String_6 j_String_8
      simp -implicitDefEqProofs (disch:=omega) [b3]
      refine writeByte_w W (by omega) fun h3 W3 F3=>?_
      exact go i c r (Int.le_refl _) h1 g2' (by omega) hsc h3 W3 F3
end Go.Bvm.JN
set_option linter.unusedVariables false
set_option linter.unusedSimpArgs false
set_option maxRecDepth 20000
namespace Go.Bvm.JN
open Go.Bvm
abbrev St:=json_parser
abbrev MP:List Nat:=[kO Ty_json_parser,kR Ty_api_Json]
noncomputable abbrev pp (p:Nat):V:=.p p 0 7 0
namespace P
def see (x:St):UInt8:=if x.e≠0 then 0 else x.s.getD x.i.toNat 0
def bad (x:St) (e a:Int):St:=if x.e=0 then { x with e:=e,at_:=a } else x
def blankB (c:UInt8):Bool:=decide (c=32) || decide (c=9) || decide (c=10) || decide (c=13)
def skip (s:Str) (i:Int):Int:=i+((s.drop i.toNat).takeWhile blankB).length
def blanks (x:St):St:=if x.e≠0 then x else { x with i:=skip x.s x.i }
def take (x:St) (c:UInt8):St:=if see x≠c then bad x 4 x.i else { x with i:=x.i+1 }
def begin_ (x:St) (deep:Bool):St:={ (if 300≤x.begun∨(deep=true∧8≤x.depth) then bad x 2 x.i else x) with begun:=x.begun+1 }
def add (x:St) (y:api_Json):St:={ x with l:=x.l++[y] }
def text (x:St):Str×St:=match strF (x.s.drop x.i.toNat) with | none=>([],bad x 4 x.i) | some y=>(y.1,{ x with i:=x.i+y.2 })
def number (x:St):Int×St:=(numV (x.s.drop x.i.toNat),{ (if numOk (x.s.drop x.i.toNat) then x else bad x 4 x.i) with i:=x.i+numSz (x.s.drop x.i.toNat) })
def literal (x:St) (w:Str):St:=w.foldl take x
end P
structure PI (x:St):Prop where
 i0:0≤x.i
 i1:x.i≤x.s.length
 s1:x.s.length≤3000
section
variable {W:List Nat} {c:Nat} {h:H} {p:Nat} {x:St} {k:KV} {n:Nat} (O:json_parserO W c h p x) (I:PI x)
include O
theorem see_eq (I:PI x) (k:KV):run tbl (n+1) Nf_j_parser_see (vl [pp p]) h k=k (vy (P.see x)) h:=by
 obtain ⟨hp,hX,v1,B,f0,f1,f2,f3,f4,f5,f6⟩:=O
 obtain ⟨i0,i1,s1⟩:=I
 have L:=fun {o m}=>B.ld (n:=7) rfl (off:=o) (lim:=m)
 rw [run_succ,tbl_j_parser_see]
 unfold T_j_parser_see j_parser_see_3 j_parser_see_2 j_parser_see_1 j_parser_see_0 P.see
 by_cases he:x.e=0
 ·by_cases hi:(x.s.length:Int)≤x.i
  ·have:x.s.getD x.i.toNat 0=0:=by rw [List.getD_eq_getElem?_getD,List.getElem?_eq_none (by omega)];rfl
   simp -implicitDefEqProofs (disch:=omega) [L,he,hi,this]
  ·simp -implicitDefEqProofs (disch:=omega) [L,he,hi]
 ·simp -implicitDefEqProofs (disch:=omega) [L,he]
theorem bad_w {e a:Int} (he:inR e) (ha:inR a) (K:∀ h',json_parserO W c h' p (P.bad x e a)→Fz c h.next MP h h'→k tup0 h'=true):run tbl (n+1) Nf_j_parser_bad (vl [pp p,wz e,wz a]) h k=true:=by
 have O':=O
 obtain ⟨hp,hX,v1,B,f0,f1,f2,f3,f4,f5,f6⟩:=O'
 have L:=fun {o m}=>B.ld (n:=7) rfl (off:=o) (lim:=m)
 rw [run_succ,tbl_j_parser_bad]
 unfold T_j_parser_bad j_parser_bad_0
 unfold P.bad at K
 by_cases hx:x.e=0
 ·simp -implicitDefEqProofs (disch:=omega) [L,hx]
  refine O.st_e he fun h1 O1 F1=>?_
  refine O1.st_at ha fun h2 O2 F2=>?_
  rw [if_pos hx] at K
  exact K h2 O2 ((F1.mono (Nat.le_refl _) (Nat.le_refl _) (by decide)).trans F2 (Nat.le_refl _) F1.nx (by decide))
 ·simp -implicitDefEqProofs (disch:=omega) [L,hx]
  rw [if_neg hx] at K
  exact K h O (Fz.refl _ _ _ _)
theorem take_w (I:PI x) {y:UInt8} (K:∀ h',json_parserO W c h' p (P.take x y)→Fz c h.next MP h h'→k tup0 h'=true):run tbl (n+2) Nf_j_parser_take (vl [pp p,vy y]) h k=true:=by
 have O':=O
 obtain ⟨hp,hX,v1,B,f0,f1,f2,f3,f4,f5,f6⟩:=O'
 obtain ⟨i0,i1,s1⟩:=I
 have L:=fun {o m}=>B.ld (n:=7) rfl (off:=o) (lim:=m)
 rw [run_succ,tbl_j_parser_take]
 unfold T_j_parser_take j_parser_take_0 j_parser_take_1
 unfold P.take at K
 by_cases hx:P.see x=y
 ·simp -implicitDefEqProofs (disch:=omega) [see_eq O ⟨i0,i1,s1⟩,hx,L]
  refine O.st_i (by omega) fun h1 O1 F1=>?_
  rw [if_neg (by simp [hx])] at K
  exact K h1 O1 (F1.mono (Nat.le_refl _) (Nat.le_refl _) (by decide))
 ·simp -implicitDefEqProofs (disch:=omega) [see_eq O ⟨i0,i1,s1⟩,hx,L]
  refine bad_w O (by omega) (by omega) fun h1 O1 F1=>?_
  rw [if_pos hx] at K
  exact K h1 O1 F1
theorem begin_w (I:PI x) {deep:Bool} (hb:0≤x.begun∧x.begun≤1000000) (K:∀ h',json_parserO W c h' p (P.begin_ x deep)→Fz c h.next MP h h'→k tup0 h'=true):run tbl (n+2) Nf_j_parser_begin (vl [pp p,.t deep]) h k=true:=by
 have O':=O
 obtain ⟨hp,hX,v1,B,f0,f1,f2,f3,f4,f5,f6⟩:=O'
 obtain ⟨i0,i1,s1⟩:=I
 have L:=fun {o m}=>B.ld (n:=7) rfl (off:=o) (lim:=m)
 rw [run_succ,tbl_j_parser_begin]
 unfold T_j_parser_begin j_parser_begin_1 j_parser_begin_0 j_parser_begin_2
 unfold P.begin_ at K
 have ok:¬ (300≤x.begun∨(deep=true∧8≤x.depth))→st true 1 (.p p 3 7 0) (wz (x.begun+1)) h (fun _ h'=>k tup0 h')=true:=fun q=>by
  rw [if_neg q] at K
  exact O.st_begun (by omega) fun h1 O1 F1=>K h1 O1 (F1.mono (Nat.le_refl _) (Nat.le_refl _) (by decide))
 have no:(300≤x.begun∨(deep=true∧8≤x.depth))→run tbl (n+1) Nf_j_parser_bad (vl [pp p,wz 2,wz x.i]) h (fun _ h'=>ld1 (.p p 3 7 0) h' fun v=>addW v (wz 1) fun w=>st true 1 (.p p 3 7 0) w h' fun _ h'=>k tup0 h')=true:=fun q=>by
  rw [if_pos q] at K
  refine bad_w O (by omega) (by omega) fun h1 O1 F1=>?_
  have O2:=O1
  obtain ⟨_,_,_,B1,_⟩:=O2
  have hbg:(P.bad x 2 x.i).begun=x.begun:=by unfold P.bad;split <;> rfl
  have L1:=fun {o m}=>B1.ld (n:=7) rfl (off:=o) (lim:=m)
  simp -implicitDefEqProofs (disch:=omega) [L1,hbg]
  refine O1.st_begun (by omega) fun h2 O2 F2=>K h2 O2 (F1.trans F2 (Nat.le_refl _) F1.nx (by decide))
 by_cases h1:300≤x.begun
 ·simp -implicitDefEqProofs (disch:=omega) [L,h1]
  exact no (.inl h1)
 ·cases deep with
  | false=>
   simp -implicitDefEqProofs (disch:=omega) [L,h1]
   exact ok (by simp [h1])
  | true=>
   by_cases h2:8≤x.depth
   ·simp -implicitDefEqProofs (disch:=omega) [L,h1,h2]
    exact no (.inr ⟨rfl,h2⟩)
   ·simp -implicitDefEqProofs (disch:=omega) [L,h1,h2]
    exact ok (by simp [h1,h2])
theorem add_w {v:V} {y:api_Json} {cs:List V} (hv:v=.x .agg (vl cs) V.nil) (Y:Enc.rep W h cs y) (hl:x.l.length≤1000000) (K:∀ h',json_parserO W c h' p (P.add x y)→Fz c h.next MP h h'→k (wz x.l.length) h'=true):run tbl (n+1) Nf_j_parser_add (vl [pp p,v]) h k=true:=by
 subst hv
 have O':=O
 obtain ⟨hp,hX,v1,B,f0,f1,f2,f3,f4,f5,f6⟩:=O'
 have hcs:cs.length=5:=Enc.len Y
 rw [run_succ,tbl_j_parser_add]
 unfold T_j_parser_add j_parser_add_1 j_parser_add_0
 simp -implicitDefEqProofs (disch:=omega)
 refine newA_w hcs (by decide) (by decide) fun h1 n1 B1 o1=>?_
 have E1:Ex h h1:=o1.ex (Nat.le_refl _)
 have O1:=O.fz E1 (Nat.le_refl _) (by decide)
 have Y1:=Enc.fz Y E1 (Nat.le_refl _) (by decide)
 obtain ⟨hp1,hX1,w1,B2,g0,g1,g2,g3,g4,g5,g6⟩:=O1
 have L:=fun {o m}=>B2.ld (n:=7) rfl (off:=o) (lim:=m)
 have LA:=B1.lda hcs (n:=5) (off:=0) (lim:=5) (by decide) (by decide)
 have e5:(cs.drop 0).take 5=cs:=by rw [List.drop_zero];exact List.take_of_length_le (by omega)
 rw [e5] at LA
 have hn1:h.next<h1.next:=by have:h1.next=h.next+1:=n1;omega
 simp -implicitDefEqProofs (disch:=omega) [L,LA,hcs]
 rw [part_all cs _ _ _ hcs rfl]
 refine g2.app1 Y1 (by decide) rfl (by decide) (by show (x.l.length+1)*5≤_;omega) (by omega) (fun j hj=>by have:=hX.2 j hj;omega) (by decide) fun h2 w S2 _ _ F2=>?_
 have F02:Fz c h.next MP h h2:=((Fz.refl c h.next MP h).ex E1 (by omega) (Nat.le_refl _)).trans F2 (Nat.le_refl _) E1.nx (by decide)
 have B2':=B2.fz F2 hp1.1 (by decide)
 refine st_w B2' (by simp) (by decide) S2.sl.one fun h3 n3 B3 o3=>?_
 have F3:Fz c h2.next [kO Ty_json_parser] h2 h3:=(Fz.refl c h2.next _ h2).put o3 hp.2 (.inr (by rw [B2'.kd];exact List.mem_cons_self))
 have O3:json_parserO W c h3 p (P.add x y):=⟨⟨by have:=F2.nx;omega,hp.2⟩,⟨hX.1,fun j hj=>by have:=hX.2 j hj;have:=F2.nx;omega⟩,w,B3,g0,g1,S2.fz F3 (Nat.le_refl _) (by decide),g3,g4,g5,g6⟩
 have S3:=S2.fz F3 (Nat.le_refl _) (by decide)
 have L3:=fun {o m}=>B3.ld (n:=7) rfl (off:=o) (lim:=m)
 simp -implicitDefEqProofs (disch:=omega) [L3,S3.sl.lenL]
 have:=K h3 O3 (F02.trans F3 (Nat.le_refl _) F02.nx (by decide))
 simpa using this
theorem blanks_w (I:PI x) (K:∀ h',json_parserO W c h' p (P.blanks x)→Fz c h.next MP h h'→k tup0 h'=true):run tbl (n+2) Nf_j_parser_blanks (vl [pp p]) h k=true:=by
 rw [run_succ,tbl_j_parser_blanks]
 unfold T_j_parser_blanks j_parser_blanks_3
 unfold P.blanks at K
 have hs:=see_eq O I (n:=n)
 by_cases he:x.e=0
 ·rw [if_neg (by simp [he])] at K
  have sv:∀ j,P.see { x with i:=j }=x.s.getD j.toNat 0:=fun j=>by unfold P.see;simp [he]
  simp -implicitDefEqProofs (disch:=omega) [hs]
  refine loop_w (fun m e h'=>∃ j:Int,x.i≤j∧j≤x.s.length∧m=(x.s.length-j).toNat∧e=f8 (vy (P.see { x with i:=j })) (pp p) V.u V.u V.u V.u V.u V.u∧json_parserO W c h' p { x with i:=j }∧Fz c h.next MP h h'∧P.skip x.s j=P.skip x.s x.i) ?_ big (x.s.length-x.i).toNat _ _ ⟨x.i,Int.le_refl _,I.i1,rfl,rfl,O,Fz.refl _ _ _ _,rfl⟩ (by have:=I.s1;have:=I.i0;unfold big;omega)
  rintro m e h1 ⟨j,hj0,hj1,rfl,rfl,O1,F1,hsk⟩ K' Kn Kx Kr
  have i0:=I.i0;have s1:=I.s1
  unfold j_parser_blanks_0 j_parser_blanks_1 j_parser_blanks_2
  by_cases hb:P.blankB (P.see { x with i:=j })=true
  ·have hlt:j.toNat<x.s.length:=by
    rcases Nat.lt_or_ge j.toNat x.s.length with q | q
    ·exact q
    ·rw [sv,List.getD_eq_getElem?_getD,List.getElem?_eq_none q] at hb
     exact absurd hb (by decide)
   have hd:x.s.drop j.toNat=x.s.getD j.toNat 0::x.s.drop (j+1).toNat:=by
    rw [show (j+1).toNat=j.toNat+1 from by omega,List.getD_eq_getElem?_getD,List.getElem?_eq_getElem hlt]
    exact List.drop_eq_getElem_cons hlt
   have hsk':P.skip x.s (j+1)=P.skip x.s x.i:=by
    rw [← hsk]
    unfold P.skip
    rw [hd,List.takeWhile_cons,← sv j,hb,if_pos rfl,List.length_cons]
    omega
   have O2:=O1
   obtain ⟨_,_,_,B1,_⟩:=O2
   have L1:=fun {o m}=>B1.ld (n:=7) rfl (off:=o) (lim:=m)
   have go:st true 1 (.p p 1 7 0) (wz (j+1)) h1 (fun _ h'=>run tbl (n+1) Nf_j_parser_see (vl [pp p]) h' fun v h'=>K' X.n (f8 v (pp p) V.u V.u V.u V.u V.u V.u) h')=true:=by
    refine O1.st_i (by omega) fun h2 O2 F2=>?_
    rw [see_eq O2 ⟨by show 0≤j+1;omega,by show j+1≤(x.s.length:Int);omega,s1⟩]
    exact Kn _ _ _ (by omega) ⟨j+1,by omega,by omega,rfl,rfl,O2,F1.trans F2 (Nat.le_refl _) F1.nx (by decide),hsk'⟩
   unfold P.blankB at hb
   simp only [Bool.or_eq_true,decide_eq_true_eq] at hb
   rcases hb with ((hb | hb) | hb) | hb <;> (simp -implicitDefEqProofs (disch:=omega) [L1,hb];exact go)
  ·have e1:P.skip x.s j=j:=by
    unfold P.skip
    cases hd:x.s.drop j.toNat with
    | nil=>simp
    | cons b r=>
     obtain ⟨g1,_,_⟩:=drop_getD hd
     rw [sv,g1] at hb
     rw [List.takeWhile_cons,if_neg (by simpa using hb)];simp
   unfold P.blankB at hb
   simp only [Bool.or_eq_true,decide_eq_true_eq,not_or] at hb
   simp -implicitDefEqProofs (disch:=omega) [hb.1.1.1,hb.1.1.2,hb.1.2,hb.2]
   refine Kx _ _ _ ?_
   simp -implicitDefEqProofs (disch:=omega)
   rw [← hsk,e1] at K
   exact K h1 O1 F1
 ·rw [if_pos he] at K
  have sv:P.see x=0:=by unfold P.see;simp [he]
  simp -implicitDefEqProofs (disch:=omega) [hs,sv]
  refine loop_w (fun m e h'=>e=f8 (vy 0) (pp p) V.u V.u V.u V.u V.u V.u∧h'=h) ?_ big 0 _ _ ⟨rfl,rfl⟩ (by unfold big;omega)
  rintro m e h1 ⟨rfl,rfl⟩ K' Kn Kx Kr
  unfold j_parser_blanks_0
  simp -implicitDefEqProofs (disch:=omega)
  refine Kx _ _ _ ?_
  simp -implicitDefEqProofs (disch:=omega)
  exact K h1 O (Fz.refl _ _ _ _)
end
end Go.Bvm.JN
set_option linter.unusedVariables false
set_option linter.unusedSimpArgs false
set_option maxRecDepth 20000
namespace Go.Bvm.JN
open Go.Bvm
theorem strF_bd {s:Str} {y:Str×Int} (h:strF s=some y):1<y.2∧y.2≤s.length∧y.1.length≤s.length:=by
 have:=scanS_bd _ _ _ _ y (Nat.le_refl _) h
 rw [List.length_drop] at this
 have h1:1≤s.length:=by
  cases s with
  | nil=>simp [strF,scanS] at h
  | cons=>simp
 have h3:([]:Str).length=0:=rfl
 rw [h3] at this
 omega
theorem numSz_0 (s:Str):0≤numSz s:=by unfold numSz;split <;> omega
theorem numV_bd (s:Str):-20000000000≤numV s∧numV s≤20000000000:=by
 have:=satF_bd (numDs s) 0 (tw_all _) (by omega) (by omega)
 unfold numV
 split
 ·split <;> omega
 ·omega
theorem P.bad_i (x:St) (e a:Int):(P.bad x e a).i=x.i:=by unfold P.bad;split <;> rfl
theorem P.bad_s (x:St) (e a:Int):(P.bad x e a).s=x.s:=by unfold P.bad;split <;> rfl
section
variable {W:List Nat} {c:Nat} {h:H} {p:Nat} {x:St} {k:KV} {n:Nat} (O:json_parserO W c h p x) (I:PI x)
include O
theorem text_w (I:PI x) (K:∀ h',json_parserO W c h' p (P.text x).2→Fz c h.next MP h h'→k (vs (P.text x).1) h'=true):run tbl (n+5) Nf_j_parser_text (vl [pp p]) h k=true:=by
 have O':=O
 obtain ⟨hp,hX,v1,B,f0,f1,f2,f3,f4,f5,f6⟩:=O'
 obtain ⟨i0,i1,s1⟩:=I
 have L:=fun {o m}=>B.ld (n:=7) rfl (off:=o) (lim:=m)
 rw [run_succ,tbl_j_parser_text]
 unfold T_j_parser_text j_parser_text_2 j_parser_text_1 j_parser_text_0
 unfold P.text at K
 simp -implicitDefEqProofs (disch:=omega) [L]
 refine String_w _ (by rw [List.length_drop];omega) fun h1 E1=>?_
 have O1:=O.fz E1 (Nat.le_refl _) (by decide)
 have F1:=(Fz.refl c h.next MP h).ex E1 (by omega) (Nat.le_refl _)
 have O1':=O1
 obtain ⟨_,_,_,B1,_⟩:=O1'
 have L1:=fun {o m}=>B1.ld (n:=7) rfl (off:=o) (lim:=m)
 cases hq:strF (x.s.drop x.i.toNat) with
 | none=>
  rw [hq] at K
  simp -implicitDefEqProofs (disch:=omega) [hq,sT,sN,L1]
  refine bad_w O1 (by omega) (by omega) fun h2 O2 F2=>?_
  exact K h2 O2 (F1.trans F2 (Nat.le_refl _) F1.nx (by decide))
 | some y=>
  rw [hq] at K
  have hb:=strF_bd hq
  rw [List.length_drop] at hb
  simp -implicitDefEqProofs (disch:=omega) [hq,sT,sN,L1]
  refine O1.st_i (by omega) fun h2 O2 F2=>?_
  exact K h2 O2 (F1.trans F2 (Nat.le_refl _) F1.nx (by decide))
theorem number_w (I:PI x) (K:∀ h',json_parserO W c h' p (P.number x).2→Fz c h.next MP h h'→k (wz (P.number x).1) h'=true):run tbl (n+5) Nf_j_parser_number (vl [pp p]) h k=true:=by
 have O':=O
 obtain ⟨hp,hX,v1,B,f0,f1,f2,f3,f4,f5,f6⟩:=O'
 obtain ⟨i0,i1,s1⟩:=I
 have L:=fun {o m}=>B.ld (n:=7) rfl (off:=o) (lim:=m)
 rw [run_succ,tbl_j_parser_number]
 unfold T_j_parser_number j_parser_number_2 j_parser_number_1 j_parser_number_0
 unfold P.number at K
 have hd:(x.s.drop x.i.toNat).length=x.s.length-x.i.toNat:=List.length_drop
 have e1:=Number_n (x.s.drop x.i.toNat) (by omega) (n+4) (by omega) h
 have hle:=numDs_le (x.s.drop x.i.toNat)
 have h0:=numSz_0 (x.s.drop x.i.toNat)
 cases hq:numOk (x.s.drop x.i.toNat) with
 | false=>
  rw [hq] at K e1
  simp -implicitDefEqProofs (disch:=omega) [L,e1]
  refine bad_w O (by omega) (by omega) fun h1 O1 F1=>?_
  have O1':=O1
  obtain ⟨_,_,_,B1,_⟩:=O1'
  have L1:=fun {o m}=>B1.ld (n:=7) rfl (off:=o) (lim:=m)
  simp -implicitDefEqProofs (disch:=omega) [L1,P.bad_i]
  refine O1.st_i (by omega) fun h2 O2 F2=>?_
  exact K h2 O2 (F1.trans F2 (Nat.le_refl _) F1.nx (by decide))
 | true=>
  rw [hq] at K e1
  simp -implicitDefEqProofs (disch:=omega) [L,e1]
  refine O.st_i (by omega) fun h2 O2 F2=>?_
  exact K h2 O2 (F2.mono (Nat.le_refl _) (Nat.le_refl _) (by decide))
end
end Go.Bvm.JN
set_option linter.unusedVariables false
set_option linter.unusedSimpArgs false
set_option maxRecDepth 20000
namespace Go.Bvm.JN
open Go.Bvm
def idxS (s:Str):List Str→Int→Int
 | [],_=>-1
 | a::r,i=>if s=a then i else idxS s r (i+1)
theorem idxS_bd (s:Str):∀ (xs:List Str) (i:Int),0≤i→-1≤idxS s xs i∧idxS s xs i<i+xs.length+1∧(0≤idxS s xs i↔s∈xs)
 | [],i,h=>by simp [idxS];omega
 | a::r,i,h=>by
  have:=idxS_bd s r (i+1) (by omega)
  unfold idxS
  by_cases e:s=a
  ·rw [if_pos e,List.length_cons]
   exact ⟨by omega,by omega,⟨fun _=>by simp [e],fun _=>h⟩⟩
  ·rw [if_neg e,List.length_cons]
   refine ⟨by omega,by omega,?_⟩
   rw [this.2.2];simp [e]
theorem drop_cons {α:Type} {xs:List α} {i:Nat} (h:i<xs.length):xs.drop i=xs[i]::xs.drop (i+1):=List.drop_eq_getElem_cons h
theorem index_w {W:List Nat} {h:H} {v:V} {xs:List Str} {s:Str} {k:KV} (A:Sl W h v xs) (hl:xs.length≤1000000) {n:Nat} (K:k (wz (idxS s xs 0)) h=true):run tbl (n+1) Nf_sli_Index___string_string (vl [v,vs s]) h k=true:=by
 rw [run_succ,tbl_sli_Index___string_string]
 unfold T_sli_Index___string_string sli_Index___string_string_6 sli_Index___string_string_4
 simp -implicitDefEqProofs (disch:=omega) [A.lenL]
 refine loop_w (fun m e h'=>∃ j:Nat,j≤xs.length∧m=xs.length-j∧e=f8 (wz 0) (wz j) (wz xs.length) (vs s) v V.u V.u V.u∧h'=h∧idxS s (xs.drop j) j=idxS s xs 0) ?_ big xs.length _ _ ⟨0,by omega,rfl,rfl,rfl,rfl⟩ (by unfold big;omega)
 rintro m e h1 ⟨j,hj,rfl,rfl,rfl,hi⟩ K' Kn Kx Kr
 unfold sli_Index___string_string_3 sli_Index___string_string_0
 by_cases hj2:j<xs.length
 ·obtain ⟨ra,L⟩:=at_Str A hj2
  rw [drop_cons hj2,idxS] at hi
  unfold sli_Index___string_string_1 sli_Index___string_string_2
  by_cases e:s=xs[j]
  ·rw [if_pos e] at hi
   simp -implicitDefEqProofs (disch:=omega) [hj2,L,e]
   refine Kr _ _ ?_
   simp -implicitDefEqProofs (disch:=omega) [hi]
   exact K
  ·rw [if_neg e] at hi
   simp -implicitDefEqProofs (disch:=omega) [hj2,L,e]
   exact Kn _ _ _ (by omega) ⟨j+1,by omega,rfl,by simp,rfl,by simpa using hi⟩
 ·simp -implicitDefEqProofs (disch:=omega) [hj2]
  refine Kx _ _ _ ?_
  unfold sli_Index___string_string_5
  rw [List.drop_eq_nil_of_le (by omega)] at hi
  simp -implicitDefEqProofs (disch:=omega)
  rw [← hi] at K
  exact K
theorem contains_w {W:List Nat} {h:H} {v:V} {xs:List Str} {s:Str} {k:KV} (A:Sl W h v xs) (hl:xs.length≤1000000) {n:Nat} (K:k (.t (decide (s∈xs))) h=true):run tbl (n+2) Nf_sli_Contains___string_string (vl [v,vs s]) h k=true:=by
 rw [run_succ,tbl_sli_Contains___string_string]
 unfold T_sli_Contains___string_string sli_Contains___string_string_0
 simp -implicitDefEqProofs (disch:=omega)
 refine index_w A hl ?_
 have hb:=idxS_bd s xs 0 (by omega)
 simp -implicitDefEqProofs (disch:=omega) [hb.2.2]
 exact K
namespace P
def name (x:St) (keys:List Str):Str×St:=
 let x0:=blanks x
 if see x0=34 then
  let t:=text x0
  (t.1,take (blanks (if t.1∈keys then bad t.2 4 x0.i else t.2)) 58)
 else ([],bad x0 4 x0.i)
structure Q (x x':St):Prop where
 pi:PI x'
 ge:x.i≤x'.i
 s:x'.s=x.s
 l:x'.l=x.l
 b:x'.begun=x.begun
 d:x'.depth=x.depth
theorem Q.refl {x:St} (I:PI x):Q x x:=⟨I,Int.le_refl _,rfl,rfl,rfl,rfl⟩
theorem Q.trans {x y z:St} (a:Q x y) (b:Q y z):Q x z:=⟨b.pi,Int.le_trans a.ge b.ge,b.s.trans a.s,b.l.trans a.l,b.b.trans a.b,b.d.trans a.d⟩
theorem bad_q (x:St) (e a:Int) (I:PI x):Q x (bad x e a):=by
 obtain ⟨i0,i1,s1⟩:=I
 unfold bad;split <;> exact ⟨⟨i0,i1,s1⟩,Int.le_refl _,rfl,rfl,rfl,rfl⟩
theorem skip_bd (s:Str) (i:Int) (h0:0≤i) (h1:i≤s.length):i≤skip s i∧skip s i≤s.length:=by
 unfold skip
 have:=(List.takeWhile_sublist blankB (l:=s.drop i.toNat)).length_le
 rw [List.length_drop] at this
 omega
theorem blanks_q (x:St) (I:PI x):Q x (blanks x):=by
 have hb:=skip_bd x.s x.i I.i0 I.i1
 unfold blanks
 split
 ·exact Q.refl I
 ·exact ⟨⟨by show 0≤skip x.s x.i;have:=I.i0;omega,hb.2,I.s1⟩,hb.1,rfl,rfl,rfl,rfl⟩
theorem see_lt {x:St} (I:PI x) (h:see x≠0):x.e=0∧x.i<x.s.length:=by
 unfold see at h
 have i0:=I.i0
 by_cases e:x.e=0
 ·refine ⟨e,?_⟩
  rcases (by omega:x.i<x.s.length∨(x.s.length:Int)≤x.i) with q | q
  ·exact q
  ·simp only [e,ne_eq,not_true_eq_false,if_false] at h
   rw [List.getD_eq_getElem?_getD,List.getElem?_eq_none (by omega)] at h
   exact absurd rfl h
 ·simp [e] at h
theorem take_q (x:St) (y:UInt8) (hy:y≠0) (I:PI x):Q x (take x y):=by
 unfold take
 split
 ·exact bad_q x _ _ I
 ·rename_i h
  have h:see x=y:=by simpa using h
  have:=(see_lt I (by rw [h];exact hy)).2
  have i0:=I.i0
  exact ⟨⟨by show 0≤x.i+1;omega,by show x.i+1≤(x.s.length:Int);omega,I.s1⟩,by show x.i≤x.i+1;omega,rfl,rfl,rfl,rfl⟩
theorem text_q (x:St) (I:PI x):Q x (text x).2∧(text x).1.length≤3000:=by
 unfold text
 have i0:=I.i0;have i1:=I.i1;have s1:=I.s1
 cases hq:strF (x.s.drop x.i.toNat) with
 | none=>exact ⟨bad_q x _ _ I,by simp⟩
 | some y=>
  have hb:=strF_bd hq
  rw [List.length_drop] at hb
  exact ⟨⟨⟨by show 0≤x.i+y.2;omega,by show x.i+y.2≤(x.s.length:Int);omega,s1⟩,by show x.i≤x.i+y.2;omega,rfl,rfl,rfl,rfl⟩,by show y.1.length≤3000;omega⟩
theorem number_q (x:St) (I:PI x):Q x (number x).2:=by
 unfold number
 have i0:=I.i0;have i1:=I.i1;have s1:=I.s1
 have hd:(x.s.drop x.i.toNat).length=x.s.length-x.i.toNat:=List.length_drop
 have hle:=numDs_le (x.s.drop x.i.toNat)
 have h0:=numSz_0 (x.s.drop x.i.toNat)
 split
 ·exact ⟨⟨by show 0≤x.i+_;omega,by show x.i+_≤(x.s.length:Int);omega,s1⟩,by show x.i≤x.i+_;omega,rfl,rfl,rfl,rfl⟩
 ·have q:=bad_q x 4 x.i I
  exact ⟨⟨by show 0≤x.i+_;omega,by show x.i+_≤((bad x 4 x.i).s.length:Int);rw [q.s];omega,by show (bad x 4 x.i).s.length≤3000;rw [q.s];exact s1⟩,by show x.i≤x.i+_;omega,q.s,q.l,q.b,q.d⟩
theorem literal_q:∀ (w:Str) (x:St),(∀ y∈w,y≠0)→PI x→Q x (literal x w)
 | [],x,_,I=>Q.refl I
 | y::r,x,h,I=>(take_q x y (h y (by simp)) I).trans (literal_q r (take x y) (fun z hz=>h z (by simp [hz])) (take_q x y (h y (by simp)) I).pi)
theorem name_q (x:St) (keys:List Str) (I:PI x):Q x (name x keys).2∧(name x keys).1.length≤3000:=by
 have q0:=blanks_q x I
 unfold name
 dsimp only
 split
 ·obtain ⟨q1,h1⟩:=text_q (blanks x) q0.pi
  have q2:Q x (if (text (blanks x)).1∈keys then bad (text (blanks x)).2 4 (blanks x).i else (text (blanks x)).2):=by
   split
   ·exact q0.trans (q1.trans (bad_q _ _ _ q1.pi))
   ·exact q0.trans q1
  have q3:=q2.trans (blanks_q _ q2.pi)
  exact ⟨q3.trans (take_q _ _ (by decide) q3.pi),h1⟩
 ·exact ⟨q0.trans (bad_q _ _ _ q0.pi),by simp⟩
end P
section
variable {W:List Nat} {c:Nat} {h:H} {p:Nat} {x:St} {k:KV} {n:Nat} (O:json_parserO W c h p x) (I:PI x)
include O
theorem name_w (I:PI x) {Z:List Nat} {v:V} {keys:List Str} (A:Sl Z h v keys) (hk:keys.length≤1000000) (K:∀ h',json_parserO W c h' p (P.name x keys).2→Fz c h.next MP h h'→k (vs (P.name x keys).1) h'=true):run tbl (n+6) Nf_j_parser_name (vl [pp p,v]) h k=true:=by
 rw [run_succ,tbl_j_parser_name]
 unfold T_j_parser_name j_parser_name_4 j_parser_name_0
 unfold P.name at K
 dsimp only at K
 have q0:=P.blanks_q x I
 simp -implicitDefEqProofs (disch:=omega)
 refine blanks_w O I fun h1 O1 F1=>?_
 have O1':=O1
 obtain ⟨_,_,_,B1,_⟩:=O1'
 have i0:=q0.pi.i0;have i1:=q0.pi.i1;have s1:=q0.pi.s1
 have L1:=fun {o m}=>B1.ld (n:=7) rfl (off:=o) (lim:=m)
 have hs:=see_eq O1 q0.pi (n:=n+4)
 by_cases hx:P.see (P.blanks x)=34
 ·rw [if_pos hx] at K
  obtain ⟨q1,hl1⟩:=P.text_q _ q0.pi
  unfold j_parser_name_3
  simp -implicitDefEqProofs (disch:=omega) [L1,hs,hx]
  refine text_w O1 q0.pi fun h2 O2 F2=>?_
  have F02:=F1.trans F2 (Nat.le_refl _) F1.nx (by decide)
  have A2:=A.fz F02 (Nat.le_refl _) (by decide)
  unfold j_parser_name_1 j_parser_name_2
  simp -implicitDefEqProofs (disch:=omega)
  refine contains_w A2 hk ?_
  by_cases hm:(P.text (P.blanks x)).1∈keys
  ·rw [if_pos hm] at K
   have q2:=P.bad_q _ 4 (P.blanks x).i q1.pi
   simp -implicitDefEqProofs (disch:=omega) [hm]
   refine bad_w O2 (by omega) (by omega) fun h3 O3 F3=>?_
   refine blanks_w O3 q2.pi fun h4 O4 F4=>?_
   refine take_w O4 (P.blanks_q _ q2.pi).pi fun h5 O5 F5=>?_
   exact K h5 O5 (((F02.trans F3 (Nat.le_refl _) F02.nx (by decide)).trans F4 (Nat.le_refl _) (by have:=F02.nx;have:=F3.nx;omega) (by decide)).trans F5 (Nat.le_refl _) (by have:=F02.nx;have:=F3.nx;have:=F4.nx;omega) (by decide))
  ·rw [if_neg hm] at K
   simp -implicitDefEqProofs (disch:=omega) [hm]
   refine blanks_w O2 q1.pi fun h4 O4 F4=>?_
   refine take_w O4 (P.blanks_q _ q1.pi).pi fun h5 O5 F5=>?_
   exact K h5 O5 ((F02.trans F4 (Nat.le_refl _) F02.nx (by decide)).trans F5 (Nat.le_refl _) (by have:=F02.nx;have:=F4.nx;omega) (by decide))
 ·rw [if_neg hx] at K
  simp -implicitDefEqProofs (disch:=omega) [L1,hs,hx]
  refine bad_w O1 (by omega) (by omega) fun h2 O2 F2=>?_
  exact K h2 O2 (F1.trans F2 (Nat.le_refl _) F1.nx (by decide))
end
end Go.Bvm.JN
set_option linter.unusedVariables false
set_option linter.unusedSimpArgs false
set_option maxRecDepth 20000
namespace Go.Bvm.JN
open Go.Bvm
namespace P
abbrev VF:=St→Int×St
def listL (val:VF):Nat→St→List Int→St×List Int
 | 0,x,ps=>(x,ps)
 | f+1,x,ps=>if x.e=0∧(0<ps.length∨see x≠93) then
   let a:=val x
   let y:=blanks a.2
   if see y=44 then listL val f { y with i:=y.i+1 } (ps++[a.1]) else (y,ps++[a.1])
  else (x,ps)
def list (val:VF) (x:St):List Int×St:=let r:=listL val 4000 (blanks x) [];(r.2,take r.1 93)
def pairsL (val:VF):Nat→St→List Str→List Int→St×List Str×List Int
 | 0,x,ks,ps=>(x,ks,ps)
 | f+1,x,ks,ps=>if x.e=0∧(0<ps.length∨see x≠125) then
   let t:=name x ks
   let a:=val t.2
   let y:=blanks a.2
   if see y=44 then pairsL val f { y with i:=y.i+1 } (ks++[t.1]) (ps++[a.1]) else (y,ks++[t.1],ps++[a.1])
  else (x,ks,ps)
def pairs (val:VF) (x:St):(List Str×List Int)×St:=let r:=pairsL val 4000 (blanks x) [] [];(r.2,take r.1 125)
def open_ (x:St) (c:UInt8):St:=let y:=take (begin_ x true) c;{ y with depth:=y.depth+1 }
def nested (val:VF) (x:St) (c:UInt8):api_Json×St:=
 if c=91 then let r:=list val (open_ x c);(⟨6,0,[],[],r.1⟩,{ r.2 with depth:=r.2.depth-1 })
 else let r:=pairs val (open_ x c);(⟨7,0,[],r.1.1,r.1.2⟩,{ r.2 with depth:=r.2.depth-1 })
def wordOf (c:UInt8):Str:=if c=110 then [110,117,108,108] else if c=102 then [102,97,108,115,101] else [116,114,117,101]
def kindOf (c:UInt8):Int:=if c=110 then 1 else if c=102 then 2 else 3
def body (val:VF) (x:St):api_Json×St:=
 let c:=see x
 if c=91∨c=123 then nested val x c
 else if c=34 then let t:=text (begin_ x false);(⟨5,0,t.1,[],[]⟩,t.2)
 else if c=45∨isDig c=true then let t:=number (begin_ x false);(⟨4,t.1,[],[],[]⟩,t.2)
 else if c=110∨c=102∨c=116 then (⟨kindOf c,0,[],[],[]⟩,literal (begin_ x false) (wordOf c))
 else (⟨0,0,[],[],[]⟩,bad x 4 x.i)
def value:Nat→VF
 | 0,x=>(0,x)
 | f+1,x=>let r:=body (value f) (blanks x);(r.2.l.length,add r.2 r.1)
structure G (u:Nat) (x x':St):Prop where
 pi:PI x'
 ge:x.i≤x'.i
 s:x'.s=x.s
 d:x'.depth=x.depth
 b:x.begun≤x'.begun
 l1:(x'.l.length:Int)≤x.l.length+30*(x'.i-x.i)+u
 l0:x'.e=0→(x'.l.length:Int)≤x.l.length+30*(x'.i-x.i)
 b1:x'.begun≤x.begun+30*(x'.i-x.i)+u
 b0:x'.e=0→x'.begun≤x.begun+30*(x'.i-x.i)
 e:x'.e=0→x.e=0
structure Bd (x:St):Prop where
 pi:PI x
 l:(x.l.length:Int)+30*(x.s.length-x.i)≤200000
 b0:0≤x.begun
 b:x.e=0→x.begun+30*(x.s.length-x.i)≤200000
 b1:x.begun≤1000000
 d0:0≤x.depth
 d:x.e=0→x.depth≤8
theorem bad_e {x:St} {e a:Int} (he:e≠0):(bad x e a).e≠0:=by
 unfold bad;split
 ·exact he
 ·assumption
theorem Q.g {x x':St} (q:Q x x') (h:x'.e=0→x.e=0):G 0 x x':=
 ⟨q.pi,q.ge,q.s,q.d,by rw [q.b];exact Int.le_refl _,by rw [q.l];have:=q.ge;omega,fun _=>by rw [q.l];have:=q.ge;omega,by rw [q.b];have:=q.ge;omega,fun _=>by rw [q.b];have:=q.ge;omega,h⟩
theorem blanks_e (x:St):(blanks x).e=x.e:=by unfold blanks;split <;> rfl
theorem take_e {x:St} {y:UInt8} (h:(take x y).e=0):x.e=0∧(y≠0→(take x y).i=x.i+1∧see x=y):=by
 unfold take at h ⊢
 by_cases hx:see x=y
 ·rw [if_neg (by simpa using hx)] at h ⊢
  exact ⟨h,fun _=>⟨rfl,hx⟩⟩
 ·rw [if_pos hx] at h
  exact absurd h (bad_e (by decide))
theorem text_e {x:St} (h:(text x).2.e=0):x.e=0∧x.i<(text x).2.i:=by
 unfold text at h ⊢
 cases hq:strF (x.s.drop x.i.toNat) with
 | none=>rw [hq] at h;exact absurd h (bad_e (by decide))
 | some y=>rw [hq] at h;have:=strF_bd hq;exact ⟨h,by show x.i<x.i+y.2;omega⟩
theorem numOk_sz {s:Str} (h:numOk s=true):0<numSz s:=by
 unfold numOk at h
 simp only [Bool.not_eq_true',Bool.or_eq_false_iff,decide_eq_false_iff_not] at h
 unfold numSz
 split <;> omega
theorem number_e {x:St} (h:(number x).2.e=0):x.e=0∧x.i<(number x).2.i:=by
 unfold number at h ⊢
 by_cases hq:numOk (x.s.drop x.i.toNat)=true
 ·rw [if_pos hq] at h;have:=numOk_sz hq;exact ⟨h,by show x.i<x.i+_;omega⟩
 ·rw [if_neg hq] at h;exact absurd h (bad_e (by decide))
theorem literal_e:∀ (w:Str) (x:St),(literal x w).e=0→x.e=0
 | [],x,h=>h
 | y::r,x,h=>(take_e (literal_e r (take x y) h)).1
theorem literal_i:∀ (w:Str) (x:St),(∀ y∈w,y≠0)→(literal x w).e=0→(literal x w).i=x.i+w.length
 | [],x,_,h=>by show x.i=x.i+0;omega
 | y::r,x,hy,h=>by
  have h1:=literal_e r (take x y) h
  have h2:=(take_e h1).2 (hy y (by simp))
  have h3:=literal_i r (take x y) (fun z hz=>hy z (by simp [hz])) h
  show (literal (take x y) r).i=_
  rw [h3,h2.1,List.length_cons];omega
theorem G.trans {u v:Nat} {x y z:St} (a:G u x y) (b:G v y z) (h:y.e=0):G v x z:=by
 have a1:=a.l0 h;have a2:=a.b0 h;have a3:=a.ge;have b3:=b.ge;have b4:=b.l1;have b5:=b.b1;have a6:=a.b;have b6:=b.b
 exact ⟨b.pi,by omega,b.s.trans a.s,b.d.trans a.d,by omega,by omega,fun q=>by have:=b.l0 q;omega,by omega,fun q=>by have:=b.b0 q;omega,fun q=>a.e h⟩
theorem G.after {u v:Nat} {x y z:St} (a:G u x y) (b:G v y z) (h:z.e≠0):G (u+v) x z:=by
 have a1:=a.l1;have a2:=a.b1;have a3:=a.ge;have b3:=b.ge;have b4:=b.l1;have b5:=b.b1;have a6:=a.b;have b6:=b.b
 exact ⟨b.pi,by omega,b.s.trans a.s,b.d.trans a.d,by omega,by omega,fun q=>absurd q h,by omega,fun q=>absurd q h,fun q=>absurd q h⟩
theorem G.mono {u v:Nat} {x y:St} (a:G u x y) (h:u≤v):G v x y:=
 ⟨a.pi,a.ge,a.s,a.d,a.b,by have:=a.l1;omega,a.l0,by have:=a.b1;omega,a.b0,a.e⟩
theorem G.to {u v w:Nat} {x y z:St} (a:G u x y) (b:G v y z) (h:u+v≤w):G w x z:=by
 by_cases hz:z.e=0
 ·exact (a.trans b (b.e hz)).mono (by omega)
 ·exact (a.after b hz).mono h
theorem Bd.g {u:Nat} {x y:St} (b:Bd x) (a:G u x y) (h:y.e=0):Bd y:=
 ⟨a.pi,by have:=a.l0 h;have:=b.l;rw [a.s];omega,by have:=a.b;have:=b.b0;omega,fun _=>by have:=a.b0 h;have:=b.b (a.e h);rw [a.s];omega,by have:=a.b0 h;have:=b.b (a.e h);have q1:=a.pi.i1;rw [a.s] at q1;omega,by rw [a.d];exact b.d0,fun _=>by rw [a.d];exact b.d (a.e h)⟩
theorem Bd.q {x y:St} (b:Bd x) (q:Q x y) (he:y.e=0→x.e=0):Bd y:=
 ⟨q.pi,by have:=b.l;have:=q.ge;rw [q.l,q.s];omega,by rw [q.b];exact b.b0,fun e=>by have:=b.b (he e);have:=q.ge;rw [q.b,q.s];omega,by rw [q.b];exact b.b1,by rw [q.d];exact b.d0,fun e=>by rw [q.d];exact b.d (he e)⟩
theorem blanks_g (x:St) (I:PI x):G 0 x (blanks x):=(blanks_q x I).g (by rw [blanks_e];exact id)
theorem next_g {x:St} (I:PI x) (h:see x≠0):G 0 x { x with i:=x.i+1 }:=by
 have:=(see_lt I h).2
 have i0:=I.i0
 exact ⟨⟨by show 0≤x.i+1;omega,by show x.i+1≤(x.s.length:Int);omega,I.s1⟩,by show x.i≤x.i+1;omega,rfl,rfl,Int.le_refl _,by show (x.l.length:Int)≤x.l.length+30*(x.i+1-x.i)+0;omega,fun _=>by show (x.l.length:Int)≤x.l.length+30*(x.i+1-x.i);omega,by show x.begun≤x.begun+30*(x.i+1-x.i)+0;omega,fun _=>by show x.begun≤x.begun+30*(x.i+1-x.i);omega,id⟩
def VB (f:Nat) (val:VF):Prop:=∀ x,Bd x→(x.e=0→9≤f+x.depth)→(x.e≠0→1≤f)→G (2*f+2) x (val x).2∧(x.e=0→(val x).2.e=0→x.i<(val x).2.i)∧0≤(val x).1∧(val x).1<(val x).2.l.length
theorem listL_g {f:Nat} {val:VF} (V:VB f val):∀ (n:Nat) (x:St) (ps:List Int),Bd x→(x.e=0→9≤f+x.depth)→G (2*f+2) x (listL val n x ps).1
 | 0,x,ps,b,_=>((Q.refl b.pi).g id).mono (by omega)
 | n+1,x,ps,b,hf=>by
  unfold listL
  split
  ·rename_i hc
   obtain ⟨g1,_,_⟩:=V x b hf (fun q=>absurd hc.1 q)
   have g2:=blanks_g _ g1.pi
   dsimp only
   split
   ·rename_i h44
    have hz:=(see_lt g2.pi (by rw [h44];decide))
    have e1:(val x).2.e=0:=by rw [← blanks_e];exact hz.1
    have g3:=next_g g2.pi (by rw [h44];decide)
    have g123:=(g1.trans g2 e1).trans g3 hz.1
    exact g123.trans (listL_g V n _ _ (b.g g123 hz.1) (fun _=>by rw [g123.d];exact hf hc.1)) hz.1
   ·exact g1.to g2 (by omega)
  ·exact ((Q.refl b.pi).g id).mono (by omega)
theorem take_g (x:St) (y:UInt8) (hy:y≠0) (I:PI x):G 0 x (take x y):=(take_q x y hy I).g fun h=>(take_e h).1
theorem list_g {f:Nat} {val:VF} (V:VB f val) (x:St) (b:Bd x) (hf:x.e=0→9≤f+x.depth):G (2*f+2) x (list val x).2:=by
 have q0:=blanks_q x b.pi
 have g1:=listL_g V 4000 (blanks x) [] (b.q q0 (by rw [blanks_e];exact id)) (by rw [blanks_e,q0.d];exact hf)
 exact ((blanks_g x b.pi).to g1 (Nat.le_of_eq (Nat.zero_add _))).to (take_g _ 93 (by decide) g1.pi) (Nat.le_refl _)
theorem name_e {x:St} {ks:List Str} (h:(name x ks).2.e=0):x.e=0:=by
 unfold name at h
 dsimp only at h
 split at h
 ·have h1:=(take_e h).1
  rw [blanks_e] at h1
  split at h1
  ·exact absurd h1 (bad_e (by decide))
  ·have:=(text_e h1).1;rwa [blanks_e] at this
 ·exact absurd h (bad_e (by decide))
theorem name_g (x:St) (ks:List Str) (I:PI x):G 0 x (name x ks).2:=(name_q x ks I).1.g name_e
theorem pairsL_g {f:Nat} {val:VF} (V:VB f val):∀ (n:Nat) (x:St) (ks:List Str) (ps:List Int),Bd x→(x.e=0→9≤f+x.depth)→G (2*f+2) x (pairsL val n x ks ps).1
 | 0,x,ks,ps,b,_=>((Q.refl b.pi).g id).mono (by omega)
 | n+1,x,ks,ps,b,hf=>by
  unfold pairsL
  split
  ·rename_i hc
   have q0:=(name_q x ks b.pi).1
   have g0:=name_g x ks b.pi
   have h9:=hf hc.1
   have d8:=b.d hc.1
   obtain ⟨g1,_,_⟩:=V (name x ks).2 (b.q q0 name_e) (fun _=>by rw [q0.d];exact h9) (fun _=>by omega)
   have g2:=blanks_g _ g1.pi
   dsimp only
   split
   ·rename_i h44
    have hz:=(see_lt g2.pi (by rw [h44];decide))
    have e1:(val (name x ks).2).2.e=0:=by rw [← blanks_e];exact hz.1
    have g3:=next_g g2.pi (by rw [h44];decide)
    have g123:=((g0.trans g1 (g1.e e1)).trans g2 e1).trans g3 hz.1
    exact g123.trans (pairsL_g V n _ _ _ (b.g g123 hz.1) (fun _=>by rw [g123.d];exact h9)) hz.1
   ·exact (g0.to g1 (Nat.le_of_eq (Nat.zero_add _))).to g2 (by omega)
  ·exact ((Q.refl b.pi).g id).mono (by omega)
theorem pairs_g {f:Nat} {val:VF} (V:VB f val) (x:St) (b:Bd x) (hf:x.e=0→9≤f+x.depth):G (2*f+2) x (pairs val x).2:=by
 have q0:=blanks_q x b.pi
 have g1:=pairsL_g V 4000 (blanks x) [] [] (b.q q0 (by rw [blanks_e];exact id)) (by rw [blanks_e,q0.d];exact hf)
 exact ((blanks_g x b.pi).to g1 (Nat.le_of_eq (Nat.zero_add _))).to (take_g _ 125 (by decide) g1.pi) (Nat.le_refl _)
end P
end Go.Bvm.JN
set_option linter.unusedVariables false
set_option linter.unusedSimpArgs false
set_option maxRecDepth 20000
namespace Go.Bvm.JN
open Go.Bvm
namespace P
theorem begin_q (x:St) (deep:Bool) (I:PI x):PI (begin_ x deep)∧(begin_ x deep).i=x.i∧(begin_ x deep).s=x.s∧(begin_ x deep).l=x.l∧(begin_ x deep).begun=x.begun+1∧(begin_ x deep).depth=x.depth:=by
 obtain ⟨i0,i1,s1⟩:=I
 unfold begin_ bad
 split
 ·split <;> exact ⟨⟨i0,i1,s1⟩,rfl,rfl,rfl,rfl,rfl⟩
 ·exact ⟨⟨i0,i1,s1⟩,rfl,rfl,rfl,rfl,rfl⟩
theorem begin_e {x:St} {deep:Bool} (h:(begin_ x deep).e=0):x.e=0∧¬ 300≤x.begun∧¬ (deep=true∧8≤x.depth):=by
 unfold begin_ at h
 dsimp only at h
 split at h
 ·exact absurd h (bad_e (by decide))
 ·rename_i q;exact ⟨h,fun k=>q (.inl k),fun k=>q (.inr k)⟩
structure GB (u:Nat) (x x':St):Prop where
 g:G u x x'
 l0:x'.e=0→(x'.l.length:Int)+1≤x.l.length+30*(x'.i-x.i)
 i:x'.e=0→x.i<x'.i
theorem leaf_g {x r:St} {deep:Bool} (I:PI x) (q:Q (begin_ x deep) r) (h:r.e=0→(begin_ x deep).e=0∧x.i<r.i):GB 1 x r:=by
 obtain ⟨_,b1,b2,b3,b4,b5⟩:=begin_q x deep I
 have hge:=q.ge
 rw [b1] at hge
 have hl:=q.l;have hb:=q.b
 rw [b3] at hl;rw [b4] at hb
 refine ⟨⟨q.pi,hge,q.s.trans b2,q.d.trans b5,by omega,by rw [hl];omega,fun e=>by rw [hl];omega,by omega,fun e=>by have:=(h e).2;omega,fun e=>(begin_e (h e).1).1⟩,fun e=>by rw [hl];have:=(h e).2;omega,fun e=>(h e).2⟩
theorem err_see {x:St} (h:x.e≠0):see x=0:=by unfold see;rw [if_pos h]
theorem err_blanks {x:St} (h:x.e≠0):blanks x=x:=by unfold blanks;rw [if_pos h]
theorem err_bad {x:St} {e a:Int} (h:x.e≠0):bad x e a=x:=by unfold bad;rw [if_neg h]
theorem err_take {x:St} {y:UInt8} (hy:y≠0) (h:x.e≠0):take x y=x:=by
 unfold take;rw [err_see h,if_pos (Ne.symm hy),err_bad h]
theorem err_list {val:VF} {x:St} (h:x.e≠0):list val x=([],x):=by
 unfold list
 have e:listL val 4000 (blanks x) []=(x,[]):=by
  rw [err_blanks h]
  show (if x.e=0∧_ then _ else (x,[]))=_
  rw [if_neg fun k=>h k.1]
 rw [e];dsimp only;rw [err_take (by decide) h]
theorem err_pairs {val:VF} {x:St} (h:x.e≠0):pairs val x=(([],[]),x):=by
 unfold pairs
 have e:pairsL val 4000 (blanks x) [] []=(x,[],[]):=by
  rw [err_blanks h]
  show (if x.e=0∧_ then _ else (x,[],[]))=_
  rw [if_neg fun k=>h k.1]
 rw [e];dsimp only;rw [err_take (by decide) h]
theorem open_q (x:St) (c:UInt8) (hc:c≠0) (I:PI x):PI (open_ x c)∧x.i≤(open_ x c).i∧(open_ x c).s=x.s∧(open_ x c).l=x.l∧(open_ x c).begun=x.begun+1∧(open_ x c).depth=x.depth+1∧((open_ x c).e=0→x.e=0∧(open_ x c).i=x.i+1∧¬ 300≤x.begun∧x.depth<8):=by
 obtain ⟨b0,b1,b2,b3,b4,b5⟩:=begin_q x true I
 have q:=take_q (begin_ x true) c hc b0
 have hge:=q.ge
 rw [b1] at hge
 refine ⟨⟨q.pi.i0,q.pi.i1,q.pi.s1⟩,hge,q.s.trans b2,q.l.trans b3,q.b.trans b4,by show (take (begin_ x true) c).depth+1=_;rw [q.d,b5],fun h=>?_⟩
 have h1:=take_e (x:=begin_ x true) (y:=c) h
 have h2:=begin_e h1.1
 refine ⟨h2.1,?_,h2.2.1,?_⟩
 ·show (take (begin_ x true) c).i=_
  rw [(h1.2 hc).1,b1]
 ·have:=h2.2.2
  simp at this;omega
theorem nested_g {f:Nat} {val:VF} (V:VB f val) (x:St) (c:UInt8) (hc:c≠0) (b:Bd x) (hf:x.e=0→9≤f+1+x.depth):GB (2*f+3) x (nested val x c).2:=by
 obtain ⟨o1,o2,o3,o4,o5,o6,o7⟩:=open_q x c hc b.pi
 have key:∀ r:St,((open_ x c).e=0→G (2*f+2) (open_ x c) r)→((open_ x c).e≠0→r=open_ x c)→GB (2*f+3) x { r with depth:=r.depth-1 }:=by
  intro r h1 h2
  by_cases he:(open_ x c).e=0
  ·have g:=h1 he
   obtain ⟨p1,p2,p3,p4⟩:=o7 he
   have g1:=g.l1;have g2:=g.b1;have g3:=g.ge;have g4:=g.b
   rw [o4] at g1;rw [o5] at g2 g4
   refine ⟨⟨⟨g.pi.i0,g.pi.i1,g.pi.s1⟩,by show x.i≤r.i;omega,g.s.trans o3,by show r.depth-1=_;rw [g.d,o6];omega,by show x.begun≤r.begun;omega,by show (r.l.length:Int)≤x.l.length+30*(r.i-x.i)+((2*f+3:Nat):Int);omega,fun e=>?_,by show r.begun≤x.begun+30*(r.i-x.i)+((2*f+3:Nat):Int);omega,fun e=>?_,fun _=>p1⟩,fun e=>?_,fun e=>by show x.i<r.i;omega⟩
   ·have:=g.l0 e;rw [o4] at this;show (r.l.length:Int)≤x.l.length+30*(r.i-x.i);omega
   ·have:=g.b0 e;rw [o5] at this;show r.begun≤x.begun+30*(r.i-x.i);omega
   ·have:=g.l0 e;rw [o4] at this;show (r.l.length:Int)+1≤x.l.length+30*(r.i-x.i);omega
  ·rw [h2 he]
   exact ⟨⟨⟨o1.i0,o1.i1,o1.s1⟩,o2,o3,by show (open_ x c).depth-1=_;rw [o6];omega,by show x.begun≤(open_ x c).begun;omega,by show ((open_ x c).l.length:Int)≤x.l.length+30*((open_ x c).i-x.i)+((2*f+3:Nat):Int);rw [o4];omega,fun e=>absurd e he,by show (open_ x c).begun≤x.begun+30*((open_ x c).i-x.i)+((2*f+3:Nat):Int);omega,fun e=>absurd e he,fun e=>absurd e he⟩,fun e=>absurd e he,fun e=>absurd e he⟩
 have bo:(open_ x c).e=0→Bd (open_ x c):=fun he=>by
  obtain ⟨p1,p2,p3,p4⟩:=o7 he
  exact ⟨o1,by rw [o4,o3];have:=b.l;omega,by have:=b.b0;omega,fun _=>by rw [o3];have:=b.b p1;omega,by have:=b.b p1;have:=b.pi.i1;omega,by have:=b.d0;omega,fun _=>by omega⟩
 have ho:(open_ x c).e=0→9≤f+(open_ x c).depth:=fun he=>by have:=hf (o7 he).1;omega
 unfold nested
 split
 ·exact key _ (fun he=>list_g V _ (bo he) ho) fun he=>by rw [err_list he]
 ·exact key _ (fun he=>pairs_g V _ (bo he) ho) fun he=>by rw [err_pairs he]
theorem wordOf_0 (c:UInt8):(∀ y∈wordOf c,y≠0)∧0<(wordOf c).length∧(wordOf c).length≤5:=by
 unfold wordOf
 split
 ·simp
 ·split <;> simp
theorem body_g {f:Nat} {val:VF} (V:VB f val) (x:St) (b:Bd x) (hf:x.e=0→9≤f+1+x.depth):GB (2*f+3) x (body val x).2:=by
 have up:∀ {r:St},GB 1 x r→GB (2*f+3) x r:=fun g=>⟨g.g.mono (by omega),g.l0,g.i⟩
 obtain ⟨c0,c1,_⟩:=begin_q x false b.pi
 unfold body
 dsimp only
 split
 ·rename_i h
  exact nested_g V x _ (by rcases h with e | e <;> (rw [e];decide)) b hf
 ·split
  ·exact up (leaf_g b.pi (text_q _ c0).1 fun e=>by have:=text_e e;rw [c1] at this;exact this)
  ·split
   ·exact up (leaf_g b.pi (number_q _ c0) fun e=>by have:=number_e e;rw [c1] at this;exact this)
   ·split
    ·obtain ⟨w0,w1,_⟩:=wordOf_0 (see x)
     exact up (leaf_g b.pi (literal_q _ _ w0 c0) fun e=>⟨literal_e _ _ e,by rw [literal_i _ _ w0 e,c1];omega⟩)
    ·have q:=bad_q x 4 x.i b.pi
     exact ⟨(q.g fun e=>absurd e (bad_e (by decide))).mono (by omega),fun e=>absurd e (bad_e (by decide)),fun e=>absurd e (bad_e (by decide))⟩
theorem value_g:∀ f,VB f (value f)
 | 0,x,b,h0,h1=>by
  by_cases e:x.e=0
  ·have:=h0 e;have:=b.d e;omega
  ·have:=h1 e;omega
 | f+1,x,b,h0,h1=>by
  have q0:=blanks_q x b.pi
  have g:=body_g (value_g f) (blanks x) (b.q q0 (by rw [blanks_e];exact id)) (by rw [blanks_e,q0.d];intro e;have:=h0 e;omega)
  have g1:=g.g.l1;have g2:=g.g.b1;have g3:=g.g.ge;have g4:=g.g.b
  have q1:=q0.ge
  rw [q0.l] at g1;rw [q0.b] at g2 g4
  have hb:=b.l
  have hi:=g.g.pi.i1
  rw [g.g.s,q0.s] at hi
  unfold value
  dsimp only
  refine ⟨⟨⟨g.g.pi.i0,g.g.pi.i1,g.g.pi.s1⟩,by show x.i≤(body (value f) (blanks x)).2.i;omega,g.g.s.trans q0.s,g.g.d.trans q0.d,by show x.begun≤_;exact g4,?_,fun e=>?_,?_,fun e=>?_,fun e=>?_⟩,fun e1 e=>?_,by omega,by show ((body (value f) (blanks x)).2.l.length:Int)<(((body (value f) (blanks x)).2.l++[(body (value f) (blanks x)).1]).length:Int);rw [List.length_append];simp only [List.length_cons,List.length_nil];omega⟩
  ·show (((body (value f) (blanks x)).2.l++[_]).length:Int)≤_
   rw [List.length_append]
   simp only [List.length_cons,List.length_nil]
   show _≤_+30*((body (value f) (blanks x)).2.i-x.i)+_
   omega
  ·show (((body (value f) (blanks x)).2.l++[_]).length:Int)≤_
   rw [List.length_append]
   simp only [List.length_cons,List.length_nil]
   have:=g.l0 e
   rw [q0.l] at this
   show _≤_+30*((body (value f) (blanks x)).2.i-x.i)
   omega
  ·show (body (value f) (blanks x)).2.begun≤x.begun+30*((body (value f) (blanks x)).2.i-x.i)+_
   omega
  ·have:=g.g.b0 e
   rw [q0.b] at this
   show (body (value f) (blanks x)).2.begun≤x.begun+30*((body (value f) (blanks x)).2.i-x.i)
   omega
  ·have:=g.g.e e
   rwa [blanks_e] at this
  ·have:=g.i e
   show x.i<(body (value f) (blanks x)).2.i
   omega
end P
end Go.Bvm.JN
set_option linter.unusedVariables false
set_option linter.unusedSimpArgs false
set_option maxRecDepth 20000
namespace Go.Bvm.JN
open Go.Bvm
def VSpec (m f:Nat) (val:P.VF):Prop:=∀ (W:List Nat) (c:Nat) (h:H) (p:Nat) (x:St) (k:KV),json_parserO W c h p x→P.Bd x→(x.e=0→9≤f+x.depth)→(x.e≠0→1≤f)→(∀ h',json_parserO W c h' p (val x).2→Fz c h.next MP h h'→k (wz (val x).1) h'=true)→run tbl m Nf_j_parser_value (vl [pp p]) h k=true
theorem grown_o {W:List Nat} {c:Nat} {h h':H} {p:Nat} {x:St} {v w:V} (O:json_parserO (rids v++W) c h p x) (g:Grown v h h') (gw:∀ j,j∈rids w→j∈rids v∨h.next≤j) (hw:∀ j,j∈rids w→j<h'.next) (hW:∀ j,j∈W→j<h.next):json_parserO (rids w++W) c h' p x:=by
 have n1:=g.1
 refine O.gxx n1 (fun i a b=>?_) (fun j a=>?_) fun id a b k=>g.2 id a fun q=>b (List.mem_append.2 (.inl q))
 ·rcases List.mem_append.1 a with q | q
  ·rcases gw i q with z | z
   ·exact absurd (List.mem_append.2 (.inl z)) b
   ·exact z
  ·exact absurd (List.mem_append.2 (.inr q)) b
 ·rcases List.mem_append.1 a with q | q
  ·exact hw j q
  ·have:=hW j q;omega
section
variable {W:List Nat} {c:Nat} {h:H} {p:Nat} {x:St} {k:KV} {n:Nat} (O:json_parserO W c h p x)
include O
theorem literal_w (I:PI x) {w:Str} (hw:∀ y∈w,y≠0) (hl:w.length≤100) (K:∀ h',json_parserO W c h' p (P.literal x w)→Fz c h.next MP h h'→k tup0 h'=true):run tbl (n+3) Nf_j_parser_literal (vl [pp p,vs w]) h k=true:=by
 rw [run_succ,tbl_j_parser_literal]
 unfold T_j_parser_literal j_parser_literal_4
 simp -implicitDefEqProofs (disch:=omega)
 refine loop_w (fun m e h'=>∃ (j:Nat) (r:Str) (y:St),m=r.length∧w.drop j=r∧j+r.length=w.length∧e=f8 (wz j) (wz w.length) (pp p) (vs w) V.u V.u V.u V.u∧json_parserO W c h' p y∧PI y∧Fz c h.next MP h h'∧P.literal y r=P.literal x w) ?_ big w.length _ _ ⟨0,w,x,rfl,rfl,by omega,rfl,O,I,Fz.refl _ _ _ _,rfl⟩ (by unfold big;omega)
 rintro m e h1 ⟨j,r,y,rfl,hr,hj,rfl,O1,I1,F1,hlit⟩ K' Kn Kx Kr
 unfold j_parser_literal_3 j_parser_literal_0
 cases r with
 | nil=>
  have hj2:¬ (j:Int)<w.length:=by simp at hj;omega
  simp -implicitDefEqProofs (disch:=omega) [hj2]
  refine Kx _ _ _ ?_
  simp -implicitDefEqProofs (disch:=omega)
  exact K h1 (by rw [← hlit];exact O1) F1
 | cons b r=>
  have hj2:(j:Int)<w.length:=by simp at hj;omega
  have hb:b≠0:=hw b (List.mem_of_mem_drop (by rw [hr];exact List.mem_cons_self))
  have hd:w.drop (j+1)=r:=by rw [← List.drop_drop,hr];rfl
  unfold j_parser_literal_1 j_parser_literal_2
  simp -implicitDefEqProofs (disch:=omega) [hj2,sidx_at (i:=(j:Int)) (s:=w) hr]
  refine take_w O1 I1 fun h2 O2 F2=>?_
  exact Kn _ _ _ (by simp) ⟨j+1,r,P.take y b,rfl,hd,by simp at hj;omega,by simp,O2,(P.take_q y b hb I1).pi,F1.trans F2 (Nat.le_refl _) F1.nx (by decide),hlit⟩
theorem list_w {f:Nat} {val:P.VF} (hF:f≤100) (b:P.Bd x) (hf:x.e=0→9≤f+x.depth) (VB0:P.VB f val) (VV:VSpec (n+6) f val) (K:∀ h' w,json_parserO W c h' p (P.list val x).2→SlO W h.next h' w (P.list val x).1→Fz c h.next MP h h'→k w h'=true):run tbl (n+7) Nf_j_parser_list (vl [pp p]) h k=true:=by
 have q0:=P.blanks_q x b.pi
 have hb0:=b.q q0 (by rw [P.blanks_e];exact id)
 rw [run_succ,tbl_j_parser_list]
 unfold T_j_parser_list j_parser_list_5
 simp -implicitDefEqProofs (disch:=omega)
 refine blanks_w O b.pi fun h0 O0 F0=>?_
 have hcp:=O.1
 have hn0:=F0.nx
 refine loop_w (fun m e h'=>∃ (fu:Nat) (y:St) (ps:List Int) (v:V),m=(y.s.length-y.i).toNat∧m<fu∧e=f8 v (pp p) V.u V.u V.u V.u V.u V.u∧json_parserO (rids v++W) c h' p y∧SlO W h.next h' v ps∧Fz c h.next MP h h'∧P.Bd y∧(y.e=0→9≤f+y.depth)∧(ps.length:Int)≤y.i∧P.listL val fu y ps=P.listL val 4000 (P.blanks x) []) ?_ big ((P.blanks x).s.length-(P.blanks x).i).toNat _ _ ⟨4000,P.blanks x,[],slnil,rfl,by have:=hb0.pi.s1;have:=hb0.pi.i0;omega,rfl,O0,SlO.nil _ _ _,F0,hb0,by rw [P.blanks_e,q0.d];exact hf,by have:=hb0.pi.i0;simpa using this,rfl⟩ (by have:=hb0.pi.s1;have:=hb0.pi.i0;unfold big;omega)
 rintro m e h1 ⟨fu,y,ps,v,rfl,hm,rfl,O1,S1,F1,b1,hf1,hps,hL⟩ K' Kn Kx Kr
 have i0:=b1.pi.i0;have i1:=b1.pi.i1;have s1:=b1.pi.s1
 have nx1:=F1.nx
 obtain ⟨fu,rfl⟩ : ∃ z,fu=z+1:=⟨fu-1,by omega⟩
 have O1':=O1
 obtain ⟨hp1,hX1,v1,B1,f0,f1,f2,f3,f4,f5,f6⟩:=O1'
 have L1:=fun {o m}=>B1.ld (n:=7) rfl (off:=o) (lim:=m)
 have hs:=see_eq O1 b1.pi (n:=n+5)
 have hlen:=S1.sl.lenL
 have fin:∀ (z:St) (qs:List Int) (w:V) (h4:H),json_parserO (rids w++W) c h4 p z→PI z→SlO W h.next h4 w qs→Fz c h.next MP h h4→P.listL val 4000 (P.blanks x) []=(z,qs)→run tbl (n+6) Nf_j_parser_take (vl [pp p,vy 93]) h4 (fun _ h'=>k w h')=true:=by
  intro z qs w h4 O4 I4 S4 F4 e
  have O5:=O4.xm (X':=W) (fun i a b=>absurd (List.mem_append.2 (.inr a)) b) fun j hj=>O4.2.1.2 j (List.mem_append.2 (.inr hj))
  refine take_w O5 I4 fun h5 O6 F5=>?_
  have:P.list val x=(qs,P.take z 93):=by unfold P.list;rw [e]
  rw [this] at K
  exact K h5 w O6 (S4.fz F5 (Nat.le_refl _) (by decide)) (F4.trans F5 (Nat.le_refl _) F4.nx (by decide))
 unfold P.listL at hL
 by_cases hc:y.e=0∧(0<ps.length∨P.see y≠93)
 ·rw [if_pos hc] at hL
  dsimp only at hL
  have cond:∀ K:KX,j_parser_list_0 (run tbl (n+6)) big (f8 v (pp p) V.u V.u V.u V.u V.u V.u) h1 K=K X.n (f8 v (pp p) V.u V.u V.u V.u V.u V.u) h1:=by
   intro K
   unfold j_parser_list_0
   by_cases h0:0<ps.length
   ·simp -implicitDefEqProofs (disch:=omega) [L1,hc.1,hlen,h0]
   ·have h93:=hc.2.resolve_left h0
    simp -implicitDefEqProofs (disch:=omega) [L1,hc.1,hlen,h0,hs,h93]
  obtain ⟨g1,gi,ga0,ga1⟩:=VB0 y b1 hf1 (fun q=>absurd hc.1 q)
  unfold j_parser_list_3
  simp -implicitDefEqProofs (disch:=omega) [cond]
  refine VV _ _ _ _ _ _ O1 b1 hf1 (fun q=>absurd hc.1 q) fun h2 O2 F2=>?_
  have nx2:=F2.nx
  have F02:=F1.trans F2 (Nat.le_refl _) nx1 (by decide)
  have S2:=S1.fz F2 (Nat.le_refl _) (by decide)
  have hb2:=g1.l1;have hb3:=b1.l;have hi2:=g1.pi.i1
  rw [g1.s] at hi2
  have hX2:∀ j,j∈W→j<h2.next:=fun j hj=>O2.2.1.2 j (List.mem_append.2 (.inr hj))
  simp -implicitDefEqProofs (disch:=omega)
  refine S2.app1 (x:=(val y).1) ⟨rfl,by have:=f3;omega⟩ (by decide) rfl (by decide) (by show (ps.length+1)*1≤_;omega) (by omega) hX2 (by decide) fun h3 w S3 g3 gw F3=>?_
  have nx3:=g3.1
  have O3:=grown_o O2 g3 gw (fun j hj=>(S3.rids hj).2.1) hX2
  have F03:Fz c h.next MP h h3:=F02.loc F3 (by omega) (Nat.le_refl _)
  refine blanks_w O3 g1.pi fun h4 O4 F4=>?_
  have nx4:=F4.nx
  have F04:=F03.trans F4 (Nat.le_refl _) (by omega) (by decide)
  have S4:=S3.fz F4 (Nat.le_refl _) (by decide)
  have g2:=P.blanks_g _ g1.pi
  have hs4:=see_eq O4 g2.pi (n:=n+5)
  unfold j_parser_list_1 j_parser_list_2
  by_cases h44:P.see (P.blanks (val y).2)=44
  ·rw [if_pos h44] at hL
   have hz:=P.see_lt g2.pi (by rw [h44];decide)
   have e1:(val y).2.e=0:=by rw [← P.blanks_e];exact hz.1
   have g3':=P.next_g g2.pi (by rw [h44];decide)
   have g123:=(g1.trans g2 e1).trans g3' hz.1
   have O4':=O4
   obtain ⟨_,_,w4,B4,_⟩:=O4'
   have L4:=fun {o m}=>B4.ld (n:=7) rfl (off:=o) (lim:=m)
   have j0:=g2.pi.i0;have j1:=g2.pi.i1;have j2:=g2.pi.s1
   simp -implicitDefEqProofs (disch:=omega) [hs4,h44,L4]
   refine O4.st_i (by omega) fun h5 O5 F5=>?_
   have hge:=(g1.trans g2 e1).ge
   have hss:(P.blanks (val y).2).s=y.s:=g2.s.trans g1.s
   exact Kn _ _ _ (by show ((P.blanks (val y).2).s.length-((P.blanks (val y).2).i+1)).toNat<_;rw [hss];omega) ⟨fu,_,_,w,rfl,by show ((P.blanks (val y).2).s.length-((P.blanks (val y).2).i+1)).toNat<_;rw [hss];omega,rfl,O5,S4.fz F5 (Nat.le_refl _) (by decide),F04.trans F5 (Nat.le_refl _) (by omega) (by decide),b1.g g123 hz.1,fun _=>by rw [g123.d];exact hf1 hc.1,by show ((ps++[(val y).1]).length:Int)≤(P.blanks (val y).2).i+1;simp;omega,hL⟩
  ·rw [if_neg h44] at hL
   simp -implicitDefEqProofs (disch:=omega) [hs4,h44]
   refine Kx _ _ _ ?_
   unfold j_parser_list_4
   simp -implicitDefEqProofs (disch:=omega)
   exact fin _ _ _ _ O4 g2.pi S4 F04 hL.symm
 ·rw [if_neg hc] at hL
  have cond:∀ K:KX,j_parser_list_0 (run tbl (n+6)) big (f8 v (pp p) V.u V.u V.u V.u V.u V.u) h1 K=K (X.x 0) (f8 v (pp p) V.u V.u V.u V.u V.u V.u) h1:=by
   intro K
   unfold j_parser_list_0
   by_cases he:y.e=0
   ·have h0:¬ 0<ps.length:=fun q=>hc ⟨he,.inl q⟩
    have h93:P.see y=93:=by
     by_cases q:P.see y=93
     ·exact q
     ·exact absurd ⟨he,.inr q⟩ hc
    simp -implicitDefEqProofs (disch:=omega) [L1,he,hlen,h0,hs,h93]
   ·simp -implicitDefEqProofs (disch:=omega) [L1,he]
  simp -implicitDefEqProofs (disch:=omega) [cond]
  refine Kx _ _ _ ?_
  unfold j_parser_list_4
  simp -implicitDefEqProofs (disch:=omega)
  exact fin _ _ _ _ O1 b1.pi S1 F1 hL.symm
end
end Go.Bvm.JN
set_option linter.unusedVariables false
set_option linter.unusedSimpArgs false
set_option maxRecDepth 20000
namespace Go.Bvm.JN
open Go.Bvm
theorem swap_o {A B W:List Nat} {c:Nat} {h:H} {p:Nat} {x:St} (O:json_parserO (A++(B++W)) c h p x):json_parserO (B++(A++W)) c h p x:=
 O.xm (fun i a b=>absurd (by simp only [List.mem_append] at a ⊢;rcases a with a | a | a <;> simp [a]) b) fun j a=>O.2.1.2 j (by simp only [List.mem_append] at a ⊢;rcases a with a | a | a <;> simp [a])
noncomputable abbrev fm (a b:V) (p:Nat):L8:=f8 a b (pp p) V.u V.u V.u V.u V.u
theorem pairs_w {W:List Nat} {c:Nat} {h:H} {p:Nat} {x:St} {k:KV} {n:Nat} (O:json_parserO W c h p x) {f:Nat} {val:P.VF} (hF:f≤100) (b:P.Bd x) (hf:x.e=0→9≤f+x.depth) (VB0:P.VB f val) (VV:VSpec (n+6) f val) (K:∀ h' u w,json_parserO W c h' p (P.pairs val x).2→SlO W h.next h' u (P.pairs val x).1.1→SlO W h.next h' w (P.pairs val x).1.2→Fz c h.next MP h h'→k (.x .tup (vl [u,w]) V.nil) h'=true):run tbl (n+7) Nf_j_parser_pairs (vl [pp p]) h k=true:=by
 have q0:=P.blanks_q x b.pi
 have hb0:=b.q q0 (by rw [P.blanks_e];exact id)
 rw [run_succ,tbl_j_parser_pairs]
 unfold T_j_parser_pairs j_parser_pairs_5
 simp -implicitDefEqProofs (disch:=omega)
 refine blanks_w O b.pi fun h0 O0 F0=>?_
 have hcp:=O.1
 have hn0:=F0.nx
 refine loop_w (fun m e h'=>∃ (fu:Nat) (y:St) (ks:List Str) (ps:List Int) (u v:V),m=(y.s.length-y.i).toNat∧m<fu∧e=fm u v p∧json_parserO (rids u++(rids v++W)) c h' p y∧SlO W h.next h' u ks∧SlO W h.next h' v ps∧Fz c h.next MP h h'∧P.Bd y∧(y.e=0→9≤f+y.depth)∧(ps.length:Int)≤y.i∧ks.length=ps.length∧P.pairsL val fu y ks ps=P.pairsL val 4000 (P.blanks x) [] []) ?_ big ((P.blanks x).s.length-(P.blanks x).i).toNat _ _ ⟨4000,P.blanks x,[],[],slnil,slnil,rfl,by have:=hb0.pi.s1;have:=hb0.pi.i0;omega,rfl,O0,SlO.nil _ _ _,SlO.nil _ _ _,F0,hb0,by rw [P.blanks_e,q0.d];exact hf,by have:=hb0.pi.i0;simpa using this,rfl,rfl⟩ (by have:=hb0.pi.s1;have:=hb0.pi.i0;unfold big;omega)
 rintro m e h1 ⟨fu,y,ks,ps,u,v,rfl,hm,rfl,O1,SK1,SP1,F1,b1,hf1,hps,hks,hL⟩ K' Kn Kx Kr
 have i0:=b1.pi.i0;have i1:=b1.pi.i1;have s1:=b1.pi.s1
 have nx1:=F1.nx
 obtain ⟨fu,rfl⟩ : ∃ z,fu=z+1:=⟨fu-1,by omega⟩
 have O1':=O1
 obtain ⟨hp1,hX1,v1,B1,f0,f1,f2,f3,f4,f5,f6⟩:=O1'
 have L1:=fun {o m}=>B1.ld (n:=7) rfl (off:=o) (lim:=m)
 have hs:=see_eq O1 b1.pi (n:=n+5)
 have hlen:=SP1.sl.lenL
 have fin:∀ (z:St) (rs:List Str) (qs:List Int) (u w:V) (h4:H),json_parserO (rids u++(rids w++W)) c h4 p z→PI z→SlO W h.next h4 u rs→SlO W h.next h4 w qs→Fz c h.next MP h h4→P.pairsL val 4000 (P.blanks x) [] []=(z,rs,qs)→run tbl (n+6) Nf_j_parser_take (vl [pp p,vy 125]) h4 (fun _ h'=>k (.x .tup (vl [u,w]) V.nil) h')=true:=by
  intro z rs qs u w h4 O4 I4 SK4 SP4 F4 e
  have O5:=O4.xm (X':=W) (fun i a b=>absurd (by simp [a]) b) fun j hj=>O4.2.1.2 j (by simp [hj])
  refine take_w O5 I4 fun h5 O6 F5=>?_
  have:P.pairs val x=((rs,qs),P.take z 125):=by unfold P.pairs;rw [e]
  rw [this] at K
  exact K h5 u w O6 (SK4.fz F5 (Nat.le_refl _) (by decide)) (SP4.fz F5 (Nat.le_refl _) (by decide)) (F4.trans F5 (Nat.le_refl _) F4.nx (by decide))
 unfold P.pairsL at hL
 by_cases hc:y.e=0∧(0<ps.length∨P.see y≠125)
 ·rw [if_pos hc] at hL
  dsimp only at hL
  have cond:∀ K:KX,j_parser_pairs_0 (run tbl (n+6)) big (fm u v p) h1 K=K X.n (fm u v p) h1:=by
   intro K
   unfold j_parser_pairs_0
   by_cases h0:0<ps.length
   ·simp -implicitDefEqProofs (disch:=omega) [L1,hc.1,hlen,h0]
   ·have h93:=hc.2.resolve_left h0
    simp -implicitDefEqProofs (disch:=omega) [L1,hc.1,hlen,h0,hs,h93]
  have h9:=hf1 hc.1
  have d8:=b1.d hc.1
  obtain ⟨qn,hnl⟩:=P.name_q y ks b1.pi
  have bn:=b1.q qn P.name_e
  have gn:=P.name_g y ks b1.pi
  obtain ⟨g1,gi,ga0,ga1⟩:=VB0 (P.name y ks).2 bn (fun _=>by rw [qn.d];exact h9) (fun _=>by omega)
  unfold j_parser_pairs_3
  simp -implicitDefEqProofs (disch:=omega) [cond]
  refine name_w O1 b1.pi SK1.sl (by omega) fun h2 O2 F2=>?_
  have nx2:=F2.nx
  have F02:=F1.trans F2 (Nat.le_refl _) nx1 (by decide)
  have SK2:=SK1.fz F2 (Nat.le_refl _) (by decide)
  have SP2:=SP1.fz F2 (Nat.le_refl _) (by decide)
  have hX2:∀ j,j∈W→j<h2.next:=fun j hj=>O2.2.1.2 j (by simp [hj])
  simp -implicitDefEqProofs (disch:=omega)
  refine SK2.app1 (x:=(P.name y ks).1) ⟨rfl,Nat.le_trans hnl (by decide)⟩ (by decide) rfl (by decide) (by show (ks.length+1)*1≤_;omega) (by omega) hX2 (by decide) fun h3 u3 SK3 g3 gw3 F3=>?_
  have nx3:=g3.1
  have SP3:=SP2.fz F3 (Nat.le_refl _) (by decide)
  have O3:=grown_o O2 g3 gw3 (fun j hj=>(SK3.rids hj).2.1) fun j hj=>O2.2.1.2 j (List.mem_append.2 (.inr hj))
  have F03:Fz c h.next MP h h3:=F02.loc F3 (by omega) (Nat.le_refl _)
  refine VV _ _ _ _ _ _ O3 bn (fun _=>by rw [qn.d];exact h9) (fun _=>by omega) fun h4 O4 F4=>?_
  have nx4:=F4.nx
  have F04:=F03.trans F4 (Nat.le_refl _) (by omega) (by decide)
  have SK4:=SK3.fz F4 (Nat.le_refl _) (by decide)
  have SP4:=SP3.fz F4 (Nat.le_refl _) (by decide)
  have hb2:=g1.l1;have hb3:=bn.l;have hi2:=g1.pi.i1
  rw [g1.s] at hi2
  have hX4:∀ j,j∈W→j<h4.next:=fun j hj=>O4.2.1.2 j (by simp [hj])
  have hs1:=bn.pi.s1
  simp -implicitDefEqProofs (disch:=omega)
  refine SP4.app1 (x:=(val (P.name y ks).2).1) ⟨rfl,by omega⟩ (by decide) rfl (by decide) (by show (ps.length+1)*1≤_;omega) (by omega) hX4 (by decide) fun h5 w SP5 g5 gw5 F5=>?_
  have nx5:=g5.1
  have SK5:=SK4.fz F5 (Nat.le_refl _) (by decide)
  have O5:=swap_o (grown_o (swap_o O4) g5 gw5 (fun j hj=>(SP5.rids hj).2.1) fun j hj=>O4.2.1.2 j (by simp only [List.mem_append] at hj ⊢;rcases hj with hj | hj <;> simp [hj]))
  have F05:Fz c h.next MP h h5:=F04.loc F5 (by omega) (Nat.le_refl _)
  refine blanks_w O5 g1.pi fun h6 O6 F6=>?_
  have nx6:=F6.nx
  have F06:=F05.trans F6 (Nat.le_refl _) (by omega) (by decide)
  have SK6:=SK5.fz F6 (Nat.le_refl _) (by decide)
  have SP6:=SP5.fz F6 (Nat.le_refl _) (by decide)
  have g2:=P.blanks_g _ g1.pi
  have hs4:=see_eq O6 g2.pi (n:=n+5)
  unfold j_parser_pairs_1 j_parser_pairs_2
  by_cases h44:P.see (P.blanks (val (P.name y ks).2).2)=44
  ·rw [if_pos h44] at hL
   have hz:=P.see_lt g2.pi (by rw [h44];decide)
   have e1:(val (P.name y ks).2).2.e=0:=by rw [← P.blanks_e];exact hz.1
   have g3':=P.next_g g2.pi (by rw [h44];decide)
   have g12:=(gn.trans g1 (g1.e e1)).trans g2 e1
   have g123:=g12.trans g3' hz.1
   have O6':=O6
   obtain ⟨_,_,w4,B4,_⟩:=O6'
   have L4:=fun {o m}=>B4.ld (n:=7) rfl (off:=o) (lim:=m)
   have j0:=g2.pi.i0;have j1:=g2.pi.i1;have j2:=g2.pi.s1
   simp -implicitDefEqProofs (disch:=omega) [hs4,h44,L4]
   refine O6.st_i (by omega) fun h7 O7 F7=>?_
   have hge:=g12.ge
   have hss:(P.blanks (val (P.name y ks).2).2).s=y.s:=g12.s
   have hz2:=hz.2
   rw [hss] at hz2 j1
   exact Kn _ _ _ (by show ((P.blanks (val (P.name y ks).2).2).s.length-((P.blanks (val (P.name y ks).2).2).i+1)).toNat<_;rw [hss];omega) ⟨fu,_,_,_,u3,w,rfl,by show ((P.blanks (val (P.name y ks).2).2).s.length-((P.blanks (val (P.name y ks).2).2).i+1)).toNat<_;rw [hss];omega,rfl,O7,SK6.fz F7 (Nat.le_refl _) (by decide),SP6.fz F7 (Nat.le_refl _) (by decide),F06.trans F7 (Nat.le_refl _) (by omega) (by decide),b1.g g123 hz.1,fun _=>by rw [g123.d];exact h9,by show ((ps++[(val (P.name y ks).2).1]).length:Int)≤(P.blanks (val (P.name y ks).2).2).i+1;simp;omega,by simp [hks],hL⟩
  ·rw [if_neg h44] at hL
   simp -implicitDefEqProofs (disch:=omega) [hs4,h44]
   refine Kx _ _ _ ?_
   unfold j_parser_pairs_4
   simp -implicitDefEqProofs (disch:=omega)
   exact fin _ _ _ _ _ _ O6 g2.pi SK6 SP6 F06 hL.symm
 ·rw [if_neg hc] at hL
  have cond:∀ K:KX,j_parser_pairs_0 (run tbl (n+6)) big (fm u v p) h1 K=K (X.x 0) (fm u v p) h1:=by
   intro K
   unfold j_parser_pairs_0
   by_cases he:y.e=0
   ·have h0:¬ 0<ps.length:=fun q=>hc ⟨he,.inl q⟩
    have h93:P.see y=125:=by
     by_cases q:P.see y=125
     ·exact q
     ·exact absurd ⟨he,.inr q⟩ hc
    simp -implicitDefEqProofs (disch:=omega) [L1,he,hlen,h0,hs,h93]
   ·simp -implicitDefEqProofs (disch:=omega) [L1,he]
  simp -implicitDefEqProofs (disch:=omega) [cond]
  refine Kx _ _ _ ?_
  unfold j_parser_pairs_4
  simp -implicitDefEqProofs (disch:=omega)
  exact fin _ _ _ _ _ _ O1 b1.pi SK1 SP1 F1 hL.symm
end Go.Bvm.JN
set_option linter.unusedVariables false
set_option linter.unusedSimpArgs false
set_option maxRecDepth 20000
namespace Go.Bvm.JN
open Go.Bvm
theorem repJ {W:List Nat} {h:H} {a b:Int} {s:Str} {ks:List Str} {ps:List Int} {u v:V} (ha:inR a) (hb:inR b) (hs:s.length≤maxB) (U:SlO W 0 h u ks) (V:SlO W 0 h v ps):Enc.rep W h [wz a,wz b,vs s,u,v] (⟨a,b,s,ks,ps⟩ : api_Json):=⟨u,v,rfl,ha,hb,hs,U,V⟩
theorem nested_w {W:List Nat} {c:Nat} {h:H} {p:Nat} {x:St} {k:KV} {n:Nat} (O:json_parserO W c h p x) {f:Nat} {val:P.VF} (hF:f≤100) {cc:UInt8} (hc:cc=91∨cc=123) (he:x.e=0) (b:P.Bd x) (hf:x.e=0→9≤f+1+x.depth) (VB0:P.VB f val) (VV:VSpec (n+6) f val) (K:∀ h' cs,Enc.rep W h' cs (P.nested val x cc).1→json_parserO W c h' p (P.nested val x cc).2→Fz c h.next MP h h'→k (.x .agg (vl cs) V.nil) h'=true):run tbl (n+8) Nf_j_parser_nested (vl [pp p,vy cc]) h k=true:=by
 have hcp:=O.1
 have hc0:cc≠0:=by rcases hc with e | e <;> (rw [e];decide)
 obtain ⟨o1,o2,o3,o4,o5,o6,o7⟩:=P.open_q x cc hc0 b.pi
 have hb:=b.b he;have hd8:=b.d he;have hb0:=b.b0;have hd0:=b.d0;have hl:=b.l;have hi:=b.pi.i1
 rw [run_succ,tbl_j_parser_nested]
 unfold T_j_parser_nested j_parser_nested_3
 simp -implicitDefEqProofs (disch:=omega)
 refine newA_w rfl (by decide) (by decide) fun h1 n1 B1 x1=>?_
 have E1:Ex h h1:=x1.ex (Nat.le_refl _)
 have hn1:h1.next=h.next+1:=n1
 have O1:=O.fz E1 (Nat.le_refl _) (by decide)
 have F1:Fz c h.next MP h h1:=(Fz.refl c h.next MP h).ex E1 (by omega) (Nat.le_refl _)
 refine begin_w O1 b.pi (by omega) fun h2 O2 F2=>?_
 have q2:=P.begin_q x true b.pi
 refine take_w O2 q2.1 fun h3 O3 F3=>?_
 have q3:=P.take_q _ cc hc0 q2.1
 have nx2:=F2.nx;have nx3:=F3.nx
 have O3':=O3
 obtain ⟨_,_,w3,B3,_,_,_,_,f3,_⟩:=O3'
 have L3:=fun {o m}=>B3.ld (n:=7) rfl (off:=o) (lim:=m)
 have d3:(P.take (P.begin_ x true) cc).depth=x.depth:=q3.d.trans q2.2.2.2.2.2
 simp -implicitDefEqProofs (disch:=omega) [L3,d3]
 refine O3.st_depth (by omega) fun h4 O4 F4=>?_
 have O4:json_parserO W c h4 p (P.open_ x cc):=by
  have:P.open_ x cc={ P.take (P.begin_ x true) cc with depth:=x.depth+1 }:=by unfold P.open_;dsimp only;rw [d3]
  rw [this];exact O4
 have nx4:=F4.nx
 have F04:=((F1.trans F2 (Nat.le_refl _) (by omega) (by decide)).trans F3 (Nat.le_refl _) (by omega) (by decide)).trans F4 (Nat.le_refl _) (by omega) (by decide)
 have B4:=((B1.fz F2 (by omega) (by decide)).fz F3 (by omega) (by decide)).fz F4 (by omega) (by decide)
 unfold j_parser_nested_2
 simp -implicitDefEqProofs (disch:=omega)
 refine newA_w rfl (by decide) (by decide) fun h5 n5 B5 x5=>?_
 have E5:Ex h4 h5:=x5.ex (Nat.le_refl _)
 have hn5:h5.next=h4.next+1:=n5
 refine sta_w B5 rfl (by simp) (by decide) fun h6 n6 B6 x6=>?_
 have E6:Fz h4.next h4.next [] h4 h6:=E5.put x6 (Nat.le_refl _) (.inl (Nat.le_refl _))
 have O6:=O4.fz E6 (Nat.le_refl _) (by decide)
 have F06:=F04.ex E6 (by omega) (by omega)
 have A6:=B4.fz E6 (by omega) (by decide)
 have hlp:lput [wz 0,wz 0,vs [],slnil,slnil] 0 [wz 6,wz 0,vs [],slnil,slnil]=[wz 6,wz 0,vs [],slnil,slnil]:=rfl
 rw [hlp] at B6
 have hn6:h6.next=h4.next+1:=by omega
 have fin:∀ (r:St) (y:api_Json) (cs:List V) (h7:H),json_parserO W c h7 p r→Bk h7 h4.next 0 0 Ty_api_Json true true cs→Bk h7 h.next 0 0 Ty_api_Json true true [wz 0,wz 0,vs [],slnil,slnil]→Enc.rep W h7 cs y→Fz c h.next MP h h7→h4.next<h7.next→P.nested val x cc=(y,{ r with depth:=r.depth-1 })→r.depth=x.depth+1→j_parser_nested_1 (run tbl (n+7)) big (f8 (.p h.next 0 5 0) (pp p) (.p h4.next 0 5 0) V.u V.u V.u V.u V.u) h7 (fun q e' h'=>finK (fun e h k=>lda 5 e.c0.c0 h k) k q e' h')=true:=by
  intro r y cs h7 O7 B7 A7 Y7 F7 hn7 e hd
  have hcs:cs.length=5:=Enc.len Y7
  have O7':=O7
  obtain ⟨_,_,w7,C7,_,_,_,_,g7,_⟩:=O7'
  have L7:=fun {o m}=>C7.ld (n:=7) rfl (off:=o) (lim:=m)
  unfold j_parser_nested_1
  simp -implicitDefEqProofs (disch:=omega) [L7]
  refine O7.st_depth (by omega) fun h8 O8 F8=>?_
  have nx8:=F8.nx
  have B8:=B7.fz F8 (by omega) (by decide)
  have A8:=A7.fz F8 (by omega) (by decide)
  have Y8:=Enc.fz Y7 F8 (Nat.le_refl _) (by decide)
  have LA:=B8.lda hcs (n:=5) (off:=0) (lim:=5) (by decide) (by decide)
  rw [List.drop_zero,List.take_of_length_le (by omega)] at LA
  simp -implicitDefEqProofs (disch:=omega) [LA]
  refine sta_w A8 hcs (by simp [hcs]) (by decide) fun h9 n9 A9 x9=>?_
  have F9:Fz h.next h.next [kO Ty_api_Json] h8 h9:=(Fz.refl h.next h.next _ h8).put x9 (Nat.le_refl _) (.inl (Nat.le_refl _))
  have F89:Fz 0 h8.next [kO Ty_api_Json] h8 h9:=(Fz.refl 0 h8.next _ h8).put x9 (Nat.zero_le _) (.inr (by rw [A8.kd];exact List.mem_cons_self))
  have O9:=O8.fz F89 (Nat.le_refl _) (by decide)
  have Y9:=Enc.fz Y8 F89 (Nat.le_refl _) (by decide)
  have e9:lput [wz 0,wz 0,vs [],slnil,slnil] 0 cs=cs:=by unfold lput;simp [hcs]
  rw [e9] at A9
  have LB:=A9.lda hcs (n:=5) (off:=0) (lim:=5) (by decide) (by decide)
  rw [List.drop_zero,List.take_of_length_le (by omega)] at LB
  simp -implicitDefEqProofs (disch:=omega) [LB]
  rw [e] at K
  exact K h9 cs Y9 O9 ((F7.trans F8 (Nat.le_refl _) F7.nx (by decide)).loc F9 (by omega) (Nat.le_refl _))
 have bo:P.Bd (P.open_ x cc):=by
  exact ⟨o1,by rw [o4,o3];omega,by omega,fun e=>by have:=(o7 e).2.1;rw [o3];omega,by omega,by omega,fun e=>by have:=(o7 e).2.2.2;omega⟩
 have ho:(P.open_ x cc).e=0→9≤f+(P.open_ x cc).depth:=fun e=>by have:=hf (o7 e).1;omega
 have f6:∀ {r:St},((P.open_ x cc).e=0→P.G (2*f+2) (P.open_ x cc) r)→((P.open_ x cc).e≠0→r=P.open_ x cc)→r.depth=x.depth+1:=by
  intro r h1 h2
  by_cases q:(P.open_ x cc).e=0
  ·rw [(h1 q).d,o6]
  ·rw [h2 q,o6]
 unfold j_parser_nested_0
 have nx6:=F06.nx
 by_cases c1:cc=91
 ·simp -implicitDefEqProofs (disch:=omega) [c1]
  subst c1
  refine list_w O6 hF bo ho VB0 VV fun h7 w O7 S7 F7=>?_
  have nx7:=F7.nx
  have B7:=B6.fz F7 (by omega) (by decide)
  have A7:=A6.fz F7 (by omega) (by decide)
  refine st_w B7 (by simp) (by decide) S7.sl.one fun h8 n8 B8 x8=>?_
  have F8:Fz h4.next h4.next [kO Ty_api_Json] h7 h8:=(Fz.refl h4.next h4.next _ h7).put x8 (Nat.le_refl _) (.inl (Nat.le_refl _))
  have F8':Fz 0 h7.next [kO Ty_api_Json] h7 h8:=(Fz.refl 0 h7.next _ h7).put x8 (Nat.zero_le _) (.inr (by rw [B7.kd];exact List.mem_cons_self))
  refine fin _ _ _ h8 (O7.fz F8' (Nat.le_refl _) (by decide)) B8 (A7.only x8 (by omega)) (repJ (by omega) (by omega) (by simp) (SlO.nil _ _ _) ((S7.fz F8' (Nat.le_refl _) (by decide)).mono (Nat.zero_le _))) ((F06.trans F7 (Nat.le_refl _) nx6 (by decide)).loc F8 (by omega) (by omega)) (by omega) ?_ ?_
  ·unfold P.nested;rw [if_pos rfl]
  ·exact f6 (fun q=>P.list_g VB0 _ bo ho) fun q=>by rw [P.err_list q]
 ·simp -implicitDefEqProofs (disch:=omega) [c1]
  refine st_w B6 (by simp) (by decide) rfl fun h7 n7 B7 x7=>?_
  have F7:Fz h4.next h4.next [kO Ty_api_Json] h6 h7:=(Fz.refl h4.next h4.next _ h6).put x7 (Nat.le_refl _) (.inl (Nat.le_refl _))
  have F7':Fz 0 h6.next [kO Ty_api_Json] h6 h7:=(Fz.refl 0 h6.next _ h6).put x7 (Nat.zero_le _) (.inr (by rw [B6.kd];exact List.mem_cons_self))
  have O7:=O6.fz F7' (Nat.le_refl _) (by decide)
  have A7:=A6.only x7 (by omega)
  refine pairs_w O7 hF bo ho VB0 VV fun h8 u w O8 SK SP F8=>?_
  have nx8:=F8.nx
  have B8:=B7.fz F8 (by omega) (by decide)
  have A8:=A7.fz F8 (by omega) (by decide)
  simp -implicitDefEqProofs (disch:=omega)
  refine st_w B8 (by simp) (by decide) SK.sl.one fun h9 n9 B9 x9=>?_
  refine st_w B9 (by simp) (by decide) SP.sl.one fun h10 n10 B10 x10=>?_
  have F9:Fz h4.next h4.next [kO Ty_api_Json] h8 h10:=((Fz.refl h4.next h4.next _ h8).put x9 (Nat.le_refl _) (.inl (Nat.le_refl _))).put x10 (Nat.le_refl _) (.inl (Nat.le_refl _))
  have F9':Fz 0 h8.next [kO Ty_api_Json] h8 h10:=((Fz.refl 0 h8.next _ h8).put x9 (Nat.zero_le _) (.inr (by rw [B8.kd];exact List.mem_cons_self))).put x10 (Nat.zero_le _) (.inr (by rw [B9.kd];exact List.mem_cons_self))
  refine fin _ _ _ h10 (O8.fz F9' (Nat.le_refl _) (by decide)) B10 ((A8.only x9 (by omega)).only x10 (by omega)) (repJ (by omega) (by omega) (by simp) ((SK.fz F9' (Nat.le_refl _) (by decide)).mono (Nat.zero_le _)) ((SP.fz F9' (Nat.le_refl _) (by decide)).mono (Nat.zero_le _))) (((F06.loc F7 (by omega) (by omega)).trans F8 (Nat.le_refl _) (by omega) (by decide)).loc F9 (by omega) (by omega)) (by omega) ?_ ?_
  ·unfold P.nested;rw [if_neg c1]
  ·exact f6 (fun q=>P.pairs_g VB0 _ bo ho) fun q=>by rw [P.err_pairs q]
end Go.Bvm.JN
set_option linter.unusedVariables false
set_option linter.unusedSimpArgs false
set_option maxRecDepth 20000
namespace Go.Bvm.JN
open Go.Bvm
theorem tbl_idx (cf:CallF):tbl cf Nf_ba_IndexByteString=extIdx:=rfl
theorem indexByte_eq {c:UInt8} {j:Int} (hc:(c=110∧j=0)∨(c=102∧j=1)∨(c=116∧j=2)) {n:Nat} (h:H) (k:KV):run tbl (n+3) Nf_st_IndexByte (vl [vs [110,102,116],vy c]) h k=k (wz j) h:=by
 have e:∀ k,run tbl (n+1) Nf_ba_IndexByteString (vl [vs [110,102,116],vy c]) h k=k (wz j) h:=by
  intro k
  rw [run_succ,tbl_idx]
  rcases hc with ⟨rfl,rfl⟩ | ⟨rfl,rfl⟩ | ⟨rfl,rfl⟩ <;> rfl
 have e2:∀ k,run tbl (n+2) Nf_sl_IndexByte (vl [vs [110,102,116],vy c]) h k=k (wz j) h:=by
  intro k
  rw [run_succ,tbl_sl_IndexByte]
  unfold T_sl_IndexByte sl_IndexByte_0
  simp -implicitDefEqProofs (disch:=omega) [e]
 rw [run_succ,tbl_st_IndexByte]
 unfold T_st_IndexByte st_IndexByte_0
 simp -implicitDefEqProofs (disch:=omega) [e2]
theorem value_step {f:Nat} {n:Nat} (hF:f≤100) (VV:VSpec (n+6) f (P.value f)):VSpec (n+9) (f+1) (P.value (f+1)):=by
 intro W c h p x k O b h9 h1 K
 have hcp:=O.1
 have q0:=P.blanks_q x b.pi
 have b0:=b.q q0 (by rw [P.blanks_e];exact id)
 have gb:=(P.body_g (P.value_g f) (P.blanks x) b0 (by rw [P.blanks_e,q0.d];intro e;have:=h9 e;omega)).g
 rw [run_succ,tbl_j_parser_value]
 unfold T_j_parser_value j_parser_value_8 j_parser_value_7
 simp -implicitDefEqProofs (disch:=omega)
 refine blanks_w O b.pi fun h1 O1 F1=>?_
 have nx1:=F1.nx
 refine newA_w rfl (by decide) (by decide) fun h2 n2 B2 x2=>?_
 have E2:Ex h1 h2:=x2.ex (Nat.le_refl _)
 have hn2:h2.next=h1.next+1:=n2
 refine sta_w B2 rfl (by simp) (by decide) fun h3 n3 B3 x3=>?_
 have hlp:lput [wz 0,wz 0,vs [],slnil,slnil] 0 [wz 0,wz 0,vs [],slnil,slnil]=[wz 0,wz 0,vs [],slnil,slnil]:=rfl
 rw [hlp] at B3
 have E3:Fz h1.next h1.next [] h1 h3:=E2.put x3 (Nat.le_refl _) (.inl (Nat.le_refl _))
 have O3:=O1.fz E3 (Nat.le_refl _) (by decide)
 have F3:=F1.ex E3 (by omega) (by omega)
 have hs:=see_eq O3 b0.pi (n:=n+7)
 have O3':=O3
 obtain ⟨_,_,w3,C3,f0,f1,f2,f3,f4,f5,f6⟩:=O3'
 have L3:=fun {o m}=>C3.ld (n:=7) rfl (off:=o) (lim:=m)
 have fin:∀ (y:api_Json) (cs:List V) (r:St) (h4:H),json_parserO W c h4 p r→Bk h4 h1.next 0 0 Ty_api_Json true true cs→Enc.rep W h4 cs y→Fz c h.next MP h h4→P.body (P.value f) (P.blanks x)=(y,r)→j_parser_value_6 (run tbl (n+8)) big (f8 (wz 0) (pp p) (.p h1.next 0 5 0) V.u V.u V.u V.u V.u) h4 (fun q e h=>finK (fun e h k=>k e.c0.c0) k q e h)=true:=by
  intro y cs r h4 O4 B4 Y4 F4 e
  have hcs:cs.length=5:=Enc.len Y4
  have LA:=B4.lda hcs (n:=5) (off:=0) (lim:=5) (by decide) (by decide)
  rw [List.drop_zero,List.take_of_length_le (by omega)] at LA
  rw [e] at gb
  have g1:=gb.l1;have g2:=gb.ge;have g3:=b0.l;have g4:=gb.pi.i1
  rw [gb.s] at g4
  dsimp only at g1 g2 g4
  unfold j_parser_value_6
  simp -implicitDefEqProofs (disch:=omega) [LA]
  refine add_w O4 rfl Y4 (by omega) fun h5 O5 F5=>?_
  have:P.value (f+1) x=((r.l.length:Int),P.add r y):=by show (let r:=P.body (P.value f) (P.blanks x);((r.2.l.length:Int),P.add r.2 r.1))=_;rw [e]
  rw [this] at K
  exact K h5 O5 (F4.trans F5 (Nat.le_refl _) F4.nx (by decide))
 have put:∀ (y:api_Json) (cs:List V) (r:St) (h4:H),json_parserO W c h4 p r→Bk h4 h1.next 0 0 Ty_api_Json true true [wz 0,wz 0,vs [],slnil,slnil]→Enc.rep W h4 cs y→Fz c h.next MP h h4→P.body (P.value f) (P.blanks x)=(y,r)→st false 5 (.p h1.next 0 5 0) (.x .agg (vl cs) V.nil) h4 (fun _ h'=>j_parser_value_6 (run tbl (n+8)) big (f8 (wz 0) (pp p) (.p h1.next 0 5 0) V.u V.u V.u V.u V.u) h' (fun q e h=>finK (fun e h k=>k e.c0.c0) k q e h))=true:=by
  intro y cs r h4 O4 B4 Y4 F4 e
  have hcs:cs.length=5:=Enc.len Y4
  refine sta_w B4 hcs (by simp [hcs]) (by decide) fun h5 n5 B5 x5=>?_
  have e5:lput [wz 0,wz 0,vs [],slnil,slnil] 0 cs=cs:=by unfold lput;simp [hcs]
  rw [e5] at B5
  have F5:Fz h1.next h1.next [kO Ty_api_Json] h4 h5:=(Fz.refl h1.next h1.next _ h4).put x5 (Nat.le_refl _) (.inl (Nat.le_refl _))
  have F5':Fz 0 h4.next [kO Ty_api_Json] h4 h5:=(Fz.refl 0 h4.next _ h4).put x5 (Nat.zero_le _) (.inr (by rw [B4.kd];exact List.mem_cons_self))
  exact fin y cs r h5 (O4.fz F5' (Nat.le_refl _) (by decide)) B5 (Enc.fz Y4 F5' (Nat.le_refl _) (by decide)) (F4.loc F5 (by omega) nx1) e
 have nx3:=F3.nx
 have hn3:h3.next=h1.next+1:=by omega
 have begun0:0≤(P.blanks x).begun∧(P.blanks x).begun≤1000000:=⟨b0.b0,b0.b1⟩
 have qb:=P.begin_q (P.blanks x) false b0.pi
 unfold j_parser_value_5 j_parser_value_4
 by_cases c1:P.see (P.blanks x)=91∨P.see (P.blanks x)=123
 ·have he:(P.blanks x).e=0:=(P.see_lt b0.pi (by rcases c1 with e | e <;> (rw [e];decide))).1
  have eb:P.body (P.value f) (P.blanks x)=P.nested (P.value f) (P.blanks x) (P.see (P.blanks x)):=by unfold P.body;dsimp only;rw [if_pos c1]
  have go:run tbl (n+8) Nf_j_parser_nested (vl [pp p,vy (P.see (P.blanks x))]) h3 (fun v h'=>st false 5 (.p h1.next 0 5 0) v h' fun _ h'=>j_parser_value_6 (run tbl (n+8)) big (f8 (wz 0) (pp p) (.p h1.next 0 5 0) V.u V.u V.u V.u V.u) h' (fun q e h=>finK (fun e h k=>k e.c0.c0) k q e h))=true:=by
   refine nested_w O3 hF c1 he b0 (fun _=>by have:=h9 (by rw [← P.blanks_e];exact he);rw [q0.d];omega) (P.value_g f) VV fun h4 cs Y4 O4 F4=>?_
   exact put _ _ _ h4 O4 (B3.fz F4 (by omega) (by decide)) Y4 (F3.trans F4 (Nat.le_refl _) nx3 (by decide)) eb
  rcases c1 with e | e
  ·rw [e] at go
   simp -implicitDefEqProofs (disch:=omega) [hs,e]
   exact go
  ·rw [e] at go
   simp -implicitDefEqProofs (disch:=omega) [hs,e]
   exact go
 have d1:¬ P.see (P.blanks x)=91:=fun e=>c1 (.inl e)
 have d2:¬ P.see (P.blanks x)=123:=fun e=>c1 (.inr e)
 unfold j_parser_value_3
 by_cases c2:P.see (P.blanks x)=34
 ·have eb:P.body (P.value f) (P.blanks x)=(⟨5,0,(P.text (P.begin_ (P.blanks x) false)).1,[],[]⟩,(P.text (P.begin_ (P.blanks x) false)).2):=by unfold P.body;dsimp only;rw [if_neg c1,if_pos c2]
  simp -implicitDefEqProofs (disch:=omega) [hs,d1,d2,c2]
  refine begin_w O3 b0.pi begun0 fun h4 O4 F4=>?_
  refine text_w O4 qb.1 fun h5 O5 F5=>?_
  have nx4:=F4.nx
  have tl:=(P.text_q _ qb.1).2
  simp -implicitDefEqProofs (disch:=omega)
  exact put _ _ _ h5 O5 ((B3.fz F4 (by omega) (by decide)).fz F5 (by omega) (by decide)) (repJ (by omega) (by omega) (Nat.le_trans tl (by decide)) (SlO.nil _ _ _) (SlO.nil _ _ _)) ((F3.trans F4 (Nat.le_refl _) nx3 (by decide)).trans F5 (Nat.le_refl _) (by omega) (by decide)) eb
 unfold j_parser_value_2
 by_cases c3:P.see (P.blanks x)=45∨isDig (P.see (P.blanks x))=true
 ·have eb:P.body (P.value f) (P.blanks x)=(⟨4,(P.number (P.begin_ (P.blanks x) false)).1,[],[],[]⟩,(P.number (P.begin_ (P.blanks x) false)).2):=by unfold P.body;dsimp only;rw [if_neg c1,if_neg c2,if_pos c3]
  have go:run tbl (n+8) Nf_j_parser_begin (vl [pp p,.t false]) h3 (fun _ h'=>run tbl (n+8) Nf_j_parser_number (vl [pp p]) h' fun v h'=>part 0 true 1 (wz 4) (vl [wz 0,wz 0,vs [],slnil,slnil]) fun l=>part 1 true 1 v l fun l=>st false 5 (.p h1.next 0 5 0) (.x .agg l V.nil) h' fun _ h'=>j_parser_value_6 (run tbl (n+8)) big (f8 (wz 0) (pp p) (.p h1.next 0 5 0) V.u V.u V.u V.u V.u) h' (fun q e h=>finK (fun e h k=>k e.c0.c0) k q e h))=true:=by
   refine begin_w O3 b0.pi begun0 fun h4 O4 F4=>?_
   refine number_w O4 qb.1 fun h5 O5 F5=>?_
   have nx4:=F4.nx
   have hv:=numV_bd ((P.begin_ (P.blanks x) false).s.drop (P.begin_ (P.blanks x) false).i.toNat)
   have hv':(P.number (P.begin_ (P.blanks x) false)).1=numV ((P.begin_ (P.blanks x) false).s.drop (P.begin_ (P.blanks x) false).i.toNat):=rfl
   simp -implicitDefEqProofs (disch:=omega)
   exact put _ _ _ h5 O5 ((B3.fz F4 (by omega) (by decide)).fz F5 (by omega) (by decide)) (repJ (by omega) (by omega) (by simp) (SlO.nil _ _ _) (SlO.nil _ _ _)) ((F3.trans F4 (Nat.le_refl _) nx3 (by decide)).trans F5 (Nat.le_refl _) (by omega) (by decide)) eb
  have gd:=fun k=>digit_n (P.see (P.blanks x)) (n+8) (by omega) h3 k
  by_cases c4:P.see (P.blanks x)=45
  ·simp -implicitDefEqProofs (disch:=omega) [hs,d1,d2,c2,c4]
   simpa using go
  ·have c5:=c3.resolve_left c4
   rw [c5] at gd
   simp -implicitDefEqProofs (disch:=omega) [hs,d1,d2,c2,c4,gd]
   simpa using go
 have d3:¬ P.see (P.blanks x)=45:=fun e=>c3 (.inl e)
 have d4:isDig (P.see (P.blanks x))=false:=by
  cases e:isDig (P.see (P.blanks x)) with
  | false=>rfl
  | true=>exact absurd (.inr e) c3
 have gd:=fun k=>digit_n (P.see (P.blanks x)) (n+8) (by omega) h3 k
 rw [d4] at gd
 unfold j_parser_value_1
 by_cases c6:P.see (P.blanks x)=110∨P.see (P.blanks x)=102∨P.see (P.blanks x)=116
 ·have eb:P.body (P.value f) (P.blanks x)=(⟨P.kindOf (P.see (P.blanks x)),0,[],[],[]⟩,P.literal (P.begin_ (P.blanks x) false) (P.wordOf (P.see (P.blanks x)))):=by unfold P.body;dsimp only;rw [if_neg c1,if_neg c2,if_neg c3,if_pos c6]
  have go:∀ j:Int,(P.see (P.blanks x)=110∧j=0)∨(P.see (P.blanks x)=102∧j=1)∨(P.see (P.blanks x)=116∧j=2)→run tbl (n+8) Nf_j_parser_begin (vl [pp p,.t false]) h3 (fun _ h'=>j_parser_value_0 (run tbl (n+8)) big (vy (P.see (P.blanks x))) h' (.p h1.next 0 5 0) (pp p) (fun q e' h'=>X.rec (motive:=fun _=>Bool) (j_parser_value_6 (run tbl (n+8)) big e' h' fun q e h=>finK (fun e h k=>k e.c0.c0) k q e h) (fun i=>finK (fun e h k=>k e.c0.c0) k (.x i) e' h') (finK (fun e h k=>k e.c0.c0) k .r e' h') (unX 0 q)) (f8 (wz 0) (pp p) (.p h1.next 0 5 0) V.u V.u V.u V.u V.u))=true:=by
   intro j hj
   have hk:P.kindOf (P.see (P.blanks x))=1+j∧0≤j∧j≤2:=by
    unfold P.kindOf
    rcases hj with ⟨e,rfl⟩ | ⟨e,rfl⟩ | ⟨e,rfl⟩ <;> (rw [e];decide)
   refine begin_w O3 b0.pi begun0 fun h4 O4 F4=>?_
   have nx4:=F4.nx
   have B4:=B3.fz F4 (by omega) (by decide)
   unfold j_parser_value_0
   simp -implicitDefEqProofs (disch:=omega) [indexByte_eq hj]
   refine st_w B4 (by simp) (by decide) rfl fun h5 n5 B5 x5=>?_
   have F5:Fz h1.next h1.next [kO Ty_api_Json] h4 h5:=(Fz.refl h1.next h1.next _ h4).put x5 (Nat.le_refl _) (.inl (Nat.le_refl _))
   have F5':Fz 0 h4.next [kO Ty_api_Json] h4 h5:=(Fz.refl 0 h4.next _ h4).put x5 (Nat.zero_le _) (.inr (by rw [B4.kd];exact List.mem_cons_self))
   have O5:=O4.fz F5' (Nat.le_refl _) (by decide)
   have G5:=(F3.trans F4 (Nat.le_refl _) nx3 (by decide)).loc F5 (by omega) nx1
   have L5:=fun {o m}=>B5.ld (n:=5) rfl (off:=o) (lim:=m)
   refine bslA_w rfl (by simp) fun h6 n6 B6 x6=>?_
   have E6:Ex h5 h6:=x6.ex (Nat.le_refl _)
   have hn6:h6.next=h5.next+1:=n6
   have O6:=O5.fz E6 (Nat.le_refl _) (by decide)
   have B56:=B5.fz E6 (by omega) (by decide)
   have L6:=fun {o m}=>B56.ld (n:=5) rfl (off:=o) (lim:=m)
   have M6:=fun {o m}=>B6.ld (n:=3) rfl (off:=o) (lim:=m)
   have w0:=P.wordOf_0 (P.see (P.blanks x))
   have lw:∀ k:V→Bool,ld1 (.p h5.next ((1+j).toNat-1) 3 0) h6 k=k (vs (P.wordOf (P.see (P.blanks x)))):=by
    intro k
    unfold P.wordOf
    rcases hj with ⟨e,rfl⟩ | ⟨e,rfl⟩ | ⟨e,rfl⟩ <;> (rw [e];exact (M6 (by decide) (by decide) k).trans rfl)
   simp -implicitDefEqProofs (disch:=omega) [L6]
   rw [lw]
   refine literal_w O6 qb.1 w0.1 (by omega) fun h7 O7 F7=>?_
   refine fin _ _ _ h7 O7 (B56.fz F7 (by omega) (by decide)) (repJ (by omega) (by omega) (by simp) (SlO.nil _ _ _) (SlO.nil _ _ _)) ((G5.ex E6 (by omega) (by omega)).trans F7 (Nat.le_refl _) (by omega) (by decide)) ?_
   rw [eb,hk.1]
  rcases c6 with e | e | e
  ·have:=go 0 (.inl ⟨e,rfl⟩)
   rw [e] at this gd
   simp -implicitDefEqProofs (disch:=omega) [hs,d1,d2,c2,d3,gd,e]
   simpa using this
  ·have:=go 1 (.inr (.inl ⟨e,rfl⟩))
   rw [e] at this gd
   simp -implicitDefEqProofs (disch:=omega) [hs,d1,d2,c2,d3,gd,e]
   simpa using this
  ·have:=go 2 (.inr (.inr ⟨e,rfl⟩))
   rw [e] at this gd
   simp -implicitDefEqProofs (disch:=omega) [hs,d1,d2,c2,d3,gd,e]
   simpa using this
 ·have eb:P.body (P.value f) (P.blanks x)=(⟨0,0,[],[],[]⟩,P.bad (P.blanks x) 4 (P.blanks x).i):=by unfold P.body;dsimp only;rw [if_neg c1,if_neg c2,if_neg c3,if_neg c6]
  have e1:¬ P.see (P.blanks x)=110:=fun e=>c6 (.inl e)
  have e2:¬ P.see (P.blanks x)=102:=fun e=>c6 (.inr (.inl e))
  have e3:¬ P.see (P.blanks x)=116:=fun e=>c6 (.inr (.inr e))
  have i0:=b0.pi.i0;have i1:=b0.pi.i1;have s1:=b0.pi.s1
  simp -implicitDefEqProofs (disch:=omega) [hs,d1,d2,c2,d3,gd,e1,e2,e3,L3]
  refine bad_w O3 (by omega) (by omega) fun h4 O4 F4=>?_
  exact fin _ _ _ h4 O4 (B3.fz F4 (by omega) (by decide)) (repJ (by omega) (by omega) (by simp) (SlO.nil _ _ _) (SlO.nil _ _ _)) (F3.trans F4 (Nat.le_refl _) nx3 (by decide)) eb
theorem value_spec (n:Nat):∀ f,f≤100→VSpec (n+3*f+6) f (P.value f)
 | 0,_=>by
  intro W c h p x k O b h9 h1 K
  by_cases e:x.e=0
  ·have:=h9 e;have:=b.d e;omega
  ·have:=h1 e;omega
 | f+1,hf=>value_step (by omega) (value_spec n f (by omega))
end Go.Bvm.JN
set_option linter.unusedVariables false
set_option linter.unusedSimpArgs false
set_option maxRecDepth 20000
namespace Go.Bvm.JN
open Go.Bvm
namespace P
def init (s:Str):St:=⟨s,0,[],0,0,0,0⟩
def last (x:St):St:=if x.i<x.s.length then bad x 4 x.i else x
def fin (s:Str):St:=last (blanks (value 9 (init s)).2)
def Read (s:Str):List api_Json×Int×Int:=if 3000<s.length then ([],0,2) else if (fin s).e≠0 then ([],(fin s).at_,(fin s).e) else ((fin s).l,0,0)
end P
noncomputable abbrev tup3 (v:V) (a e:Int):V:=.x .tup (vl [v,wz a,wz e]) V.nil
theorem Read_w {h:H} {s:Str} {k:KV} {n:Nat} (hs:s.length≤maxB) (K:∀ h' v,SlO [] h.next h' v (P.Read s).1→inR (P.Read s).2.1→inR (P.Read s).2.2→Ex h h'→k (tup3 v (P.Read s).2.1 (P.Read s).2.2) h'=true):run tbl (n+34) Nf_j_Read (vl [vs s]) h k=true:=by
 rw [run_succ,tbl_j_Read]
 unfold T_j_Read j_Read_5 j_Read_0
 have hmB:s.length≤140737488355328:=hs
 by_cases hl':(3000:Int)<s.length
 ·have e:P.Read s=([],0,2):=by unfold P.Read;rw [if_pos (by omega)]
  rw [e] at K
  have:=K h slnil (.nil _ _ _) (by decide) (by decide) (Fz.refl _ _ _ h)
  simp -implicitDefEqProofs (disch:=omega) [hl']
  exact this
 ·unfold j_Read_4
  simp -implicitDefEqProofs (disch:=omega) [hl']
  refine newA_w rfl (by decide) (by decide) fun h1 n1 B1 x1=>?_
  have E1:Ex h h1:=x1.ex (Nat.le_refl _)
  have hn1:h1.next=h.next+1:=n1
  have O1:json_parserO [] h.next h1 h.next (P.init s):=⟨⟨by omega,Nat.le_refl _⟩,⟨by simp,by simp⟩,slnil,B1,hs,by show inR 0;decide,.nil _ _ _,by show inR 0;decide,by show inR 0;decide,by show inR 0;decide,by show inR 0;decide⟩
  have b1:P.Bd (P.init s):=by
   refine ⟨⟨by show (0:Int)≤0;decide,by show (0:Int)≤(s.length:Int);omega,by show s.length≤3000;omega⟩,?_,by show (0:Int)≤0;decide,?_,by show (0:Int)≤1000000;decide,by show (0:Int)≤0;decide,fun _=>by show (0:Int)≤8;decide⟩
   ·show ((0:Nat):Int)+30*((s.length:Int)-0)≤200000
    omega
   ·intro _
    show (0:Int)+30*((s.length:Int)-0)≤200000
    omega
  refine value_spec n 9 (by decide) [] h.next h1 h.next (P.init s) _ O1 b1 (fun _=>by show (9:Int)≤9+0;decide) (fun _=>by decide) fun h2 O2 F2=>?_
  have gv:=(P.value_g 9 (P.init s) b1 (fun _=>by show (9:Int)≤9+0;decide) (fun _=>by decide)).1
  have nx2:=F2.nx
  refine blanks_w (n:=n+31) O2 gv.pi fun h3 O3 F3=>?_
  have nx3:=F3.nx
  have qb:=P.blanks_q _ gv.pi
  have G3:Ex h h3:=(E1.loc F2 (Nat.le_refl _) (Nat.le_refl _)).loc F3 (Nat.le_refl _) (Nat.le_refl _)
  unfold j_Read_1
  have O3':=O3
  obtain ⟨_,_,w3,C3,f0,f1,f2,f3,f4,f5,f6⟩:=O3'
  have L3:=fun {o m}=>C3.ld (n:=7) rfl (off:=o) (lim:=m)
  have i0:=qb.pi.i0;have i1:=qb.pi.i1;have s1:=qb.pi.s1;have hS:(P.blanks (P.value 9 (P.init s)).2).s=s:=by rw [qb.s,gv.s];rfl
  have tail:∀ (r:St) (h4:H),json_parserO [] h.next h4 h.next r→Ex h h4→P.fin s=r→seqM (j_Read_2 (run tbl (n+33)) big) (j_Read_3 (run tbl (n+33)) big) (f8 slnil (wz 0) (wz 0) (vs s) (pp h.next) V.u V.u V.u) h4 (fun q e h'=>finK (fun e h k=>k (.x .tup (vl [e.c0.c0,e.c0.c1,e.c0.c2]) V.nil)) k q e h')=true:=by
   intro r h4 O4 F4 e
   obtain ⟨_,_,w4,C4,g0,g1,g2,g3,g4,g5,g6⟩:=O4
   have L4:=fun {o m}=>C4.ld (n:=7) rfl (off:=o) (lim:=m)
   have e':P.Read s=if r.e≠0 then ([],r.at_,r.e) else (r.l,0,0):=by unfold P.Read;rw [if_neg (by omega),e]
   unfold j_Read_2 j_Read_3
   by_cases he:r.e=0
   ·rw [if_neg (by simp [he])] at e'
    rw [e'] at K
    have:=K h4 w4 (g2.mono (Nat.le_refl _)) (by show inR 0;decide) (by show inR 0;decide) F4
    simp -implicitDefEqProofs (disch:=omega) [L4,he]
    exact this
   ·rw [if_pos he] at e'
    rw [e'] at K
    have:=K h4 slnil (.nil _ _ _) g6 g5 F4
    simp -implicitDefEqProofs (disch:=omega) [L4,he]
    exact this
  by_cases hi:(P.blanks (P.value 9 (P.init s)).2).i<s.length
  ·simp -implicitDefEqProofs (disch:=omega) [L3,hi]
   refine bad_w O3 (by decide) (by have:=hmB;unfold inR;omega) fun h4 O4 F4=>?_
   have G4:Ex h h4:=G3.loc F4 (Nat.le_refl _) (Nat.le_refl _)
   have e:P.fin s=P.bad (P.blanks (P.value 9 (P.init s)).2) 4 (P.blanks (P.value 9 (P.init s)).2).i:=by unfold P.fin P.last;rw [if_pos (by rw [hS];exact hi)]
   exact tail _ h4 O4 G4 e
  ·have e:P.fin s=P.blanks (P.value 9 (P.init s)).2:=by unfold P.fin P.last;rw [if_neg (by rw [hS];exact hi)]
   have:=tail _ h3 O3 G3 e
   simp -implicitDefEqProofs (disch:=omega) [L3,hi]
   exact this
end Go.Bvm.JN
