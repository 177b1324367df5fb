/- Functions run by the abstract machine on values that are not all known. Conditions: stated in each theorem. -/
import Derived.Test.YtacpnpdggbfkgaaDoorJRb
set_option linter.unusedVariables false
set_option linter.unusedSimpArgs false
set_option linter.unusedVariables false
set_option linter.unusedSimpArgs false
set_option maxRecDepth 20000
namespace Go.Bvm.JN
open Go.Bvm
abbrev RS:=amanuensisref1_reader
abbrev MR:List Nat:=[kO Ty_amanuensisref1_reader,kR Ty_api_Json]
noncomputable abbrev pr (p:Nat):V:=.p p 0 6 0
namespace R
def see (y:RS):UInt8:=y.s.getD y.at_.toNat 0
def fails (y:RS) (e a:Int):RS:=if y.err=0 then { y with err:=e,where_:=a } else y
def takes (y:RS) (c:UInt8):RS:=if y.err≠0 then y else if y.s.length≤y.at_∨see y≠c then fails y 4 y.at_ else { y with at_:=y.at_+1 }
def blanks (y:RS):RS:={ y with at_:=P.skip y.s y.at_ }
def add (y:RS) (n:api_Json):RS:=if y.err=0 then { y with l:=y.l++[n] } else y
end R
structure RI (y:RS):Prop where
 i0:0≤y.at_
 i1:y.at_≤y.s.length
 s1:y.s.length≤3000
section
variable {W:List Nat} {c:Nat} {h:H} {p:Nat} {x:RS} {k:KV} {n:Nat} (O:amanuensisref1_readerO W c h p x) (I:RI x)
include O
theorem rsee_eq (I:RI x) (k:KV):run tbl (n+1) Nf_r_reader_see (vl [pr p]) h k=k (vy (R.see x)) h:=by
 obtain ⟨hp,hX,v1,B,f0,f1,f2,f3,f4,f5⟩:=O
 obtain ⟨i0,i1,s1⟩:=I
 have L:=fun {o m}=>B.ld (n:=6) rfl (off:=o) (lim:=m)
 rw [run_succ,tbl_r_reader_see]
 unfold T_r_reader_see r_reader_see_2 r_reader_see_1 r_reader_see_0 R.see
 by_cases hi:x.at_<(x.s.length:Int)
 ·simp -implicitDefEqProofs (disch:=omega) [L,hi]
 ·have:x.s.getD x.at_.toNat 0=0:=by rw [List.getD_eq_getElem?_getD,List.getElem?_eq_none (by omega)];rfl
  simp -implicitDefEqProofs (disch:=omega) [L,hi,this]
theorem fails_w {e a:Int} (he:inR e) (ha:inR a) (K:∀ h',amanuensisref1_readerO W c h' p (R.fails x e a)→Fz c h.next MR h h'→k tup0 h'=true):run tbl (n+1) Nf_r_reader_fails (vl [pr p,wz e,wz a]) h k=true:=by
 have O':=O
 obtain ⟨hp,hX,v1,B,f0,f1,f2,f3,f4,f5⟩:=O'
 have L:=fun {o m}=>B.ld (n:=6) rfl (off:=o) (lim:=m)
 rw [run_succ,tbl_r_reader_fails]
 unfold T_r_reader_fails r_reader_fails_0
 unfold R.fails at K
 by_cases hx:x.err=0
 ·simp -implicitDefEqProofs (disch:=omega) [L,hx]
  refine O.st_err he fun h1 O1 F1=>?_
  refine O1.st_where ha fun h2 O2 F2=>?_
  rw [if_pos hx] at K
  exact K h2 O2 ((F1.mono (Nat.le_refl _) (Nat.le_refl _) (by decide)).trans F2 (Nat.le_refl _) F1.nx (by decide))
 ·simp -implicitDefEqProofs (disch:=omega) [L,hx]
  rw [if_neg hx] at K
  exact K h O (Fz.refl _ _ _ _)
theorem takes_w (I:RI x) {y:UInt8} (K:∀ h',amanuensisref1_readerO W c h' p (R.takes x y)→Fz c h.next MR h h'→k tup0 h'=true):run tbl (n+2) Nf_r_reader_takes (vl [pr p,vy y]) h k=true:=by
 have O':=O
 obtain ⟨hp,hX,v1,B,f0,f1,f2,f3,f4,f5⟩:=O'
 obtain ⟨i0,i1,s1⟩:=I
 have L:=fun {o m}=>B.ld (n:=6) rfl (off:=o) (lim:=m)
 rw [run_succ,tbl_r_reader_takes]
 unfold T_r_reader_takes r_reader_takes_0 r_reader_takes_2 r_reader_takes_3 r_reader_takes_1
 unfold R.takes at K
 by_cases he:x.err=0
 ·rw [if_neg (by simp [he])] at K
  by_cases hi:(x.s.length:Int)≤x.at_
  ·rw [if_pos (.inl hi)] at K
   simp -implicitDefEqProofs (disch:=omega) [L,he,hi]
   exact fails_w O (by omega) (by omega) K
  ·have hlt:x.at_.toNat<x.s.length:=by omega
   have hg:R.see x=x.s[x.at_.toNat]:=by unfold R.see;rw [List.getD_eq_getElem?_getD,List.getElem?_eq_getElem hlt];rfl
   by_cases hx:R.see x=y
   ·rw [if_neg (by simp [hi,hx])] at K
    have hx':x.s[x.at_.toNat]=y:=by rw [← hg];exact hx
    simp -implicitDefEqProofs (disch:=omega) [L,he,hi,hx']
    refine O.st_at (by omega) fun h1 O1 F1=>?_
    exact K h1 O1 (F1.mono (Nat.le_refl _) (Nat.le_refl _) (by decide))
   ·rw [if_pos (.inr hx)] at K
    have hx':¬ x.s[x.at_.toNat]=y:=by rw [← hg];exact hx
    simp -implicitDefEqProofs (disch:=omega) [L,he,hi,hx']
    exact fails_w O (by omega) (by omega) K
 ·rw [if_pos he] at K
  simp -implicitDefEqProofs (disch:=omega) [L,he]
  exact K h O (Fz.refl _ _ _ _)
theorem radd_w {v:V} {y:api_Json} {cs:List V} (hv:v=.x .agg (vl cs) V.nil) (Y:Enc.rep W h cs y) (hl:x.l.length≤1000000) (K:∀ h',amanuensisref1_readerO W c h' p (R.add x y)→Fz c h.next MR h h'→k tup0 h'=true):run tbl (n+1) Nf_r_reader_add (vl [pr p,v]) h k=true:=by
 subst hv
 have O':=O
 obtain ⟨hp,hX,v1,B,f0,f1,f2,f3,f4,f5⟩:=O'
 have hcs:cs.length=5:=Enc.len Y
 rw [run_succ,tbl_r_reader_add]
 unfold T_r_reader_add r_reader_add_1 r_reader_add_0
 unfold R.add at K
 simp -implicitDefEqProofs (disch:=omega)
 refine newA_w hcs (by decide) (by decide) fun h1 n1 B1 o1=>?_
 have E1:Ex h h1:=o1.ex (Nat.le_refl _)
 have O1:=O.fz E1 (Nat.le_refl _) (by decide)
 have O1':=O1
 have Y1:=Enc.fz Y E1 (Nat.le_refl _) (by decide)
 obtain ⟨hp1,hX1,w1,B2,g0,g1,g2,g3,g4,g5⟩:=O1
 have L:=fun {o m}=>B2.ld (n:=6) rfl (off:=o) (lim:=m)
 have LA:=B1.lda hcs (n:=5) (off:=0) (lim:=5) (by decide) (by decide)
 have e5:(cs.drop 0).take 5=cs:=by rw [List.drop_zero];exact List.take_of_length_le (by omega)
 rw [e5] at LA
 have hn1:h.next<h1.next:=by have:h1.next=h.next+1:=n1;omega
 by_cases he:x.err=0
 ·rw [if_pos he] at K
  simp -implicitDefEqProofs (disch:=omega) [L,LA,hcs,he]
  rw [part_all cs _ _ _ hcs rfl]
  refine g2.app1 Y1 (by decide) rfl (by decide) (by show (x.l.length+1)*5≤_;omega) (by omega) (fun j hj=>by have:=hX.2 j hj;omega) (by decide) fun h2 w S2 _ _ F2=>?_
  have F02:Fz c h.next MR h h2:=((Fz.refl c h.next MR h).ex E1 (by omega) (Nat.le_refl _)).trans F2 (Nat.le_refl _) E1.nx (by decide)
  have B2':=B2.fz F2 hp1.1 (by decide)
  refine st_w B2' (by simp) (by decide) S2.sl.one fun h3 n3 B3 o3=>?_
  have F3:Fz c h2.next [kO Ty_amanuensisref1_reader] h2 h3:=(Fz.refl c h2.next _ h2).put o3 hp.2 (.inr (by rw [B2'.kd];exact List.mem_cons_self))
  exact K h3 ⟨⟨by have:=F2.nx;omega,hp.2⟩,⟨hX.1,fun j hj=>by have:=hX.2 j hj;have:=F2.nx;omega⟩,w,B3,g0,g1,S2.fz F3 (Nat.le_refl _) (by decide),g3,g4,g5⟩ (F02.trans F3 (Nat.le_refl _) F02.nx (by decide))
 ·rw [if_neg he] at K
  simp -implicitDefEqProofs (disch:=omega) [L,he]
  exact K h1 O1' ((Fz.refl c h.next MR h).ex E1 (by omega) (Nat.le_refl _))
theorem rblanks_w (I:RI x) (K:∀ h',amanuensisref1_readerO W c h' p (R.blanks x)→Fz c h.next MR h h'→k tup0 h'=true):run tbl (n+2) Nf_r_reader_blanks (vl [pr p]) h k=true:=by
 rw [run_succ,tbl_r_reader_blanks]
 unfold T_r_reader_blanks
 unfold R.blanks at K
 have sv:∀ j,R.see { x with at_:=j }=x.s.getD j.toNat 0:=fun j=>rfl
 simp -implicitDefEqProofs (disch:=omega)
 refine loop_w (fun m e h'=>∃ j:Int,x.at_≤j∧j≤x.s.length∧m=(x.s.length-j).toNat∧e=f8 (pr p) V.u V.u V.u V.u V.u V.u V.u∧amanuensisref1_readerO W c h' p { x with at_:=j }∧Fz c h.next MR h h'∧P.skip x.s j=P.skip x.s x.at_) ?_ big (x.s.length-x.at_).toNat _ _ ⟨x.at_,Int.le_refl _,I.i1,rfl,rfl,O,Fz.refl _ _ _ _,rfl⟩ (by have:=I.s1;have:=I.i0;unfold big;omega)
 rintro m e h1 ⟨j,hj0,hj1,rfl,rfl,O1,F1,hsk⟩ K' Kn Kx Kr
 have i0:=I.i0;have s1:=I.s1
 unfold r_reader_blanks_5 r_reader_blanks_4 r_reader_blanks_3 r_reader_blanks_2 r_reader_blanks_1 r_reader_blanks_0 r_reader_blanks_6
 have O2:=O1
 obtain ⟨_,_,_,B1,_⟩:=O2
 have L1:=fun {o m}=>B1.ld (n:=6) rfl (off:=o) (lim:=m)
 have stop:P.skip x.s j=j→K' (X.x 0) (f8 (pr p) V.u V.u V.u V.u V.u V.u V.u) h1=true:=fun e1=>by
  refine Kx _ _ _ ?_
  simp -implicitDefEqProofs (disch:=omega)
  rw [← hsk,e1] at K
  exact K h1 O1 F1
 by_cases hi:j<(x.s.length:Int)
 ·have hlt:j.toNat<x.s.length:=by omega
  have hd:x.s.drop j.toNat=x.s[j.toNat]::x.s.drop (j+1).toNat:=by
   rw [show (j+1).toNat=j.toNat+1 from by omega]
   exact List.drop_eq_getElem_cons hlt
  by_cases hb:P.blankB x.s[j.toNat]=true
  ·have hsk':P.skip x.s (j+1)=P.skip x.s x.at_:=by
    rw [← hsk]
    unfold P.skip
    rw [hd,List.takeWhile_cons,hb,if_pos rfl,List.length_cons]
    omega
   have go:st true 1 (.p p 1 6 0) (wz (j+1)) h1 (fun _ h'=>K' X.n (f8 (pr p) V.u V.u V.u V.u V.u V.u V.u) h')=true:=by
    refine O1.st_at (by omega) fun h2 O2 F2=>?_
    exact Kn _ _ _ (by omega) ⟨j+1,by omega,by omega,rfl,rfl,O2,F1.trans F2 (Nat.le_refl _) F1.nx (by decide),hsk'⟩
   unfold P.blankB at hb
   simp only [Bool.or_eq_true,decide_eq_true_eq] at hb
   rcases hb with ((hb | hb) | hb) | hb <;> (simp -implicitDefEqProofs (maxSteps:=3000000) (disch:=omega) [L1,hi,hb];exact go)
  ·have e1:P.skip x.s j=j:=by
    unfold P.skip
    rw [hd,List.takeWhile_cons,if_neg (by simpa using hb)];simp
   have:=stop e1
   unfold P.blankB at hb
   simp only [Bool.or_eq_true,decide_eq_true_eq,not_or] at hb
   simp -implicitDefEqProofs (maxSteps:=3000000) (disch:=omega) [L1,hi,hb.1.1.1,hb.1.1.2,hb.1.2,hb.2]
   exact this
 ·have e1:P.skip x.s j=j:=by
   unfold P.skip
   rw [List.drop_eq_nil_of_le (by omega)];simp
  have:=stop e1
  simp -implicitDefEqProofs (disch:=omega) [L1,hi]
  exact this
end
end Go.Bvm.JN
set_option linter.unusedVariables false
set_option linter.unusedSimpArgs false
set_option maxRecDepth 20000
namespace Go.Bvm.JN
open Go.Bvm
structure RR (x:St) (y:RS):Prop where
 ri:RI y
 pi:PI x
 s:y.s=x.s
 err:y.err=x.e
 l:y.l.length≤1000000
 b:0≤y.begun∧y.begun≤1000000
 at_:x.e=0→y.at_=x.i
 ok:x.e=0→y.l=x.l∧y.begun=x.begun
 er:x.e≠0→y.where_=x.at_
namespace R
def literal (y:RS) (w:Str):RS:=w.foldl takes y
theorem blanks_ri {y:RS} (I:RI y):RI (blanks y):=by
 have:=P.skip_bd y.s y.at_ I.i0 I.i1
 exact ⟨by show 0≤P.skip y.s y.at_;have:=I.i0;omega,this.2,I.s1⟩
end R
namespace P
end P
theorem RR.see {x:St} {y:RS} (r:RR x y) (h:x.e=0):R.see y=P.see x:=by
 unfold R.see P.see
 rw [if_neg (by simp [h]),r.s,r.at_ h]
theorem RR.see0 {x:St} {y:RS} (r:RR x y) (h:x.e≠0):P.see x=0:=by
 unfold P.see;rw [if_pos h]
theorem RR.fails {x:St} {y:RS} (r:RR x y) {e a b:Int} (he:e≠0) (hab:x.e=0→b=a):RR (P.bad x e a) (R.fails y e b):=by
 have h1:=r.err
 by_cases h:x.e=0
 ·have e1:P.bad x e a={ x with e:=e,at_:=a }:=by unfold P.bad;rw [if_pos h]
  have e2:R.fails y e b={ y with err:=e,where_:=b }:=by unfold R.fails;rw [if_pos (by rw [h1];exact h)]
  rw [e1,e2]
  exact ⟨⟨r.ri.i0,r.ri.i1,r.ri.s1⟩,⟨r.pi.i0,r.pi.i1,r.pi.s1⟩,r.s,rfl,r.l,r.b,fun q=>absurd q he,fun q=>absurd q he,fun _=>hab h⟩
 ·have e1:P.bad x e a=x:=P.err_bad h
  have e2:R.fails y e b=y:=by unfold R.fails;rw [if_neg (by rw [h1];exact h)]
  rw [e1,e2];exact r
theorem RR.blanks {x:St} {y:RS} (r:RR x y):RR (P.blanks x) (R.blanks y):=by
 by_cases h:x.e=0
 ·have e1:P.blanks x={ x with i:=P.skip x.s x.i }:=by unfold P.blanks;rw [if_neg (by simp [h])]
  refine ⟨R.blanks_ri r.ri,(P.blanks_q x r.pi).pi,?_,?_,r.l,r.b,?_,?_,?_⟩ <;> rw [e1]
  ·exact r.s
  ·exact r.err
  ·intro _;show P.skip y.s y.at_=P.skip x.s x.i;rw [r.s,r.at_ h]
  ·exact r.ok
  ·exact r.er
 ·rw [P.err_blanks h]
  exact ⟨R.blanks_ri r.ri,r.pi,r.s,r.err,r.l,r.b,fun q=>absurd q h,r.ok,r.er⟩
theorem RR.takes {x:St} {y:RS} (r:RR x y) {c:UInt8} (hc:c≠0):RR (P.take x c) (R.takes y c):=by
 have h1:=r.err
 by_cases h:x.e=0
 ·have ht:R.takes y c=if (y.s.length:Int)≤y.at_∨R.see y≠c then R.fails y 4 y.at_ else { y with at_:=y.at_+1 }:=by unfold R.takes;rw [if_neg (by rw [h1];simp [h])]
  rw [ht,r.see h]
  unfold P.take
  by_cases q:P.see x=c
  ·have lt:=(P.see_lt r.pi (by rw [q];exact hc)).2
   rw [if_neg (by simp [q]),if_neg (by rw [r.s,r.at_ h];simp [q];omega)]
   exact ⟨⟨by show 0≤y.at_+1;have:=r.ri.i0;omega,by show y.at_+1≤(y.s.length:Int);rw [r.at_ h,r.s];omega,r.ri.s1⟩,⟨by show 0≤x.i+1;have:=r.pi.i0;omega,by show x.i+1≤(x.s.length:Int);omega,r.pi.s1⟩,r.s,r.err,r.l,r.b,fun _=>by show y.at_+1=x.i+1;rw [r.at_ h],r.ok,r.er⟩
  ·rw [if_pos q,if_pos (.inr q)]
   exact r.fails (by decide) fun h=>r.at_ h
 ·rw [P.err_take hc h]
  have:R.takes y c=y:=by unfold R.takes;rw [if_pos (by rw [h1];exact h)]
  rw [this];exact r
theorem RR.add {x:St} {y:RS} (r:RR x y) {n:api_Json} (hl:x.e=0→x.l.length<1000000):RR (P.add x n) (R.add y n):=by
 have h1:=r.err
 by_cases h:x.e=0
 ·have e2:R.add y n={ y with l:=y.l++[n] }:=by unfold R.add;rw [if_pos (by rw [h1];exact h)]
  rw [e2]
  have h2:=(r.ok h).1
  exact ⟨⟨r.ri.i0,r.ri.i1,r.ri.s1⟩,⟨r.pi.i0,r.pi.i1,r.pi.s1⟩,r.s,r.err,by show (y.l++[n]).length≤1000000;rw [h2];simp;have:=hl h;omega,r.b,r.at_,fun _=>⟨by show y.l++[n]=x.l++[n];rw [h2],(r.ok h).2⟩,r.er⟩
 ·have e2:R.add y n=y:=by unfold R.add;rw [if_neg (by rw [h1];exact h)]
  rw [e2]
  exact ⟨r.ri,⟨r.pi.i0,r.pi.i1,r.pi.s1⟩,r.s,r.err,r.l,r.b,fun q=>absurd q h,fun q=>absurd q h,r.er⟩
theorem RR.literal:∀ (w:Str) {x:St} {y:RS},RR x y→(∀ b∈w,b≠0)→RR (P.literal x w) (R.literal y w)
 | [],_,_,r,_=>r
 | b::w,x,y,r,hw=>RR.literal w (r.takes (hw b List.mem_cons_self)) fun c hc=>hw c (List.mem_cons_of_mem _ hc)
theorem repK {W:List Nat} {h:H} {kd:Int} (hk:inR kd):Enc.rep W h [wz kd,wz 0,vs [],slnil,slnil] (⟨kd,0,[],[],[]⟩ : api_Json):=
 repJ hk (by decide) (by simp) (SlO.nil _ _ _) (SlO.nil _ _ _)
section
variable {W:List Nat} {c:Nat} {h:H} {p:Nat} {x:St} {y:RS} {k:KV} {n:Nat} (O:amanuensisref1_readerO W c h p y)
include O
theorem word_w (r:RR x y) {w:Str} (hw:∀ b∈w,b≠0) (hl:w.length≤100) {kd:Int} (hk:inR kd) (K:∀ h',amanuensisref1_readerO W c h' p (R.add (R.literal y w) ⟨kd,0,[],[],[]⟩)→Fz c h.next MR h h'→k tup0 h'=true):run tbl (n+3) Nf_r_reader_word (vl [pr p,vs w,wz kd]) h k=true:=by
 rw [run_succ,tbl_r_reader_word]
 unfold T_r_reader_word r_reader_word_3 r_reader_word_4
 simp -implicitDefEqProofs (disch:=omega)
 refine loop_w (fun m e h'=>∃ (j:Nat) (q:Str) (x2:St) (y2:RS),m=q.length∧w.drop j=q∧j+q.length=w.length∧e=f8 (wz j) (vs w) (pr p) (wz kd) V.u V.u V.u V.u∧amanuensisref1_readerO W c h' p y2∧RR x2 y2∧Fz c h.next MR h h'∧R.literal y2 q=R.literal y w) ?_ big w.length _ _ ⟨0,w,x,y,rfl,rfl,by omega,rfl,O,r,Fz.refl _ _ _ _,rfl⟩ (by unfold big;omega)
 rintro m e h1 ⟨j,q,x2,y2,rfl,hr,hj,rfl,O1,r1,F1,hlit⟩ K' Kn Kx Kr
 unfold r_reader_word_0
 cases q with
 | nil=>
  have hj2:¬ (j:Int)<w.length:=by simp at hj;omega
  simp -implicitDefEqProofs (disch:=omega) [hj2]
  refine Kx _ _ _ ?_
  simp -implicitDefEqProofs (disch:=omega)
  refine radd_w O1 (v:=.x .agg (vl [wz kd,wz 0,vs [],slnil,slnil]) V.nil) rfl (repK hk) r1.l fun h2 O2 F2=>?_
  exact K h2 (by rw [← hlit];exact O2) (F1.trans F2 (Nat.le_refl _) F1.nx (by decide))
 | cons b q=>
  have hj2:(j:Int)<w.length:=by simp at hj;omega
  have hb:b≠0:=hw b (List.mem_of_mem_drop (by rw [hr];exact List.mem_cons_self))
  have hd:w.drop (j+1)=q:=by rw [← List.drop_drop,hr];rfl
  unfold r_reader_word_1 r_reader_word_2
  simp -implicitDefEqProofs (disch:=omega) [hj2,sidx_at (i:=(j:Int)) (s:=w) hr]
  refine takes_w O1 r1.ri fun h2 O2 F2=>?_
  exact Kn _ _ _ (by simp) ⟨j+1,q,P.take x2 b,R.takes y2 b,rfl,hd,by simp at hj;omega,by simp,O2,r1.takes hb,F1.trans F2 (Nat.le_refl _) F1.nx (by decide),hlit⟩
end
end Go.Bvm.JN
set_option linter.unusedVariables false
set_option linter.unusedSimpArgs false
set_option maxRecDepth 20000
namespace Go.Bvm.JN
open Go.Bvm
@[simp] theorem negV_z {a:Int} (k:V→Bool) (ha:-9223372036854775808<a∧a<9223372036854775808):negV (wz a) k=k (wz (-a)):=by
 show k (.w ((36893488147419103232-(a+9223372036854775808).toNat) % 18446744073709551616))=_
 have e:(36893488147419103232-(a+9223372036854775808).toNat) % 18446744073709551616=(-a+9223372036854775808).toNat:=by omega
 rw [e];rfl
def valF:Int→Str→Int
 | n,[]=>n
 | n,c::r=>valF (10*n+(c-48).toNat) r
theorem isDig_bd {c:UInt8} (h:isDig c=true):(48:UInt8)≤c∧c≤57∧(c-48).toNat≤9∧(c≠48→1≤(c-48).toNat):=by
 unfold isDig at h
 simp only [Bool.and_eq_true,decide_eq_true_eq] at h
 refine ⟨h.1,h.2,?_,?_⟩
 ·rw [UInt8.toNat_sub_of_le _ _ h.1]
  have:=UInt8.le_iff_toNat_le.1 h.2
  simp at this ⊢;omega
 ·intro e
  rw [UInt8.toNat_sub_of_le _ _ h.1]
  have h1:=UInt8.le_iff_toNat_le.1 h.1
  have h2:c.toNat≠48:=fun q=>e (UInt8.toNat_inj.1 (by rw [q];rfl))
  simp at h1 ⊢;omega
theorem valF_ge:∀ (l:Str) (n:Int),l.all isDig=true→0≤n→n*((10:Nat) ^ l.length:Nat)≤valF n l
 | [],n,_,_=>by simp [valF]
 | c::r,n,ha,h0=>by
  simp only [List.all_cons,Bool.and_eq_true] at ha
  have:=valF_ge r (10*n+(c-48).toNat) ha.2 (by omega)
  unfold valF
  refine Int.le_trans ?_ this
  rw [List.length_cons,Nat.pow_succ]
  have h1:n*(((10:Nat) ^ r.length*10:Nat):Int)=(10*n)*(((10:Nat) ^ r.length:Nat):Int):=by
   rw [Int.natCast_mul];
   rw [Int.mul_comm 10 n,Int.mul_assoc,Int.mul_comm (((10:Nat) ^ r.length:Nat):Int)];rfl
  rw [h1]
  exact Int.mul_le_mul_of_nonneg_right (by omega) (Int.natCast_nonneg _)
theorem satF_stay:∀ (l:Str) (n:Int),1073741824<n→satF n l=n
 | [],n,h=>rfl
 | c::r,n,h=>by unfold satF;rw [if_neg (by omega)];exact satF_stay r n h
theorem sat_val:∀ (l:Str) (n:Int),l.all isDig=true→0≤n→satF n l=valF n l∨(1073741824<satF n l∧1073741824<valF n l)
 | [],n,_,_=>.inl rfl
 | c::r,n,ha,h0=>by
  have ha':=ha
  simp only [List.all_cons,Bool.and_eq_true] at ha
  by_cases h:n≤1073741824
  ·unfold satF valF
   rw [if_pos h,Int.mul_comm n 10]
   exact sat_val r _ ha.2 (by omega)
  ·refine .inr ⟨by rw [satF_stay _ _ (by omega)];omega,?_⟩
   have:=valF_ge (c::r) n ha' h0
   have h1:(1:Int)≤((10:Nat) ^ (c::r).length:Nat):=by
    have:0<(10:Nat) ^ (c::r).length:=Nat.pow_pos (by decide)
    omega
   have h2:n*1≤n*((10:Nat) ^ (c::r).length:Nat):=Int.mul_le_mul_of_nonneg_left h1 h0
   omega
def wordS (neg:Bool) (ds:Str):Str:=if neg then 45::ds else ds
def intOk (neg:Bool) (ds:Str):Bool:=!(decide (ds.length=0) || decide (10<ds.length) || decide (ds.getD 0 0=48∧wordS neg ds≠[48]) || decide (1073741824<valF 0 ds))
def intV (neg:Bool) (ds:Str):Int:=if intOk neg ds then (if neg then -valF 0 ds else valF 0 ds) else 0
theorem Int_w {neg:Bool} {ds:Str} (hd:ds.all isDig=true) (hl:ds.length≤3000) {n:Nat} {h:H} {k:KV} (K:k (.x .tup (vl [wz (intV neg ds),.t (intOk neg ds)]) V.nil) h=true):run tbl (n+1) Nf_r_Int (vl [vs (wordS neg ds)]) h k=true:=by
 rw [run_succ,tbl_r_Int]
 unfold T_r_Int r_Int_12
 have no:intOk neg ds=false→k (.x .tup (vl [wz 0,.t false]) V.nil) h=true:=fun e=>by
  unfold intV at K
  rw [e] at K
  exact K
 have first:r_Int_0 (run tbl n) big (vs (wordS neg ds))=r_Int_0 (run tbl n) big (vs (wordS neg ds)):=rfl
 have rest:seqM (r_Int_2 (run tbl n) big) (r_Int_11 (run tbl n) big) (f8 (wz 0) (.t false) (vs ds) (vs (wordS neg ds)) V.u V.u V.u V.u) h (fun x e h=>finK (fun e h k=>k (V.x .tup (vl [e.c0.c0,e.c0.c1]) V.nil)) k x e h)=true:=by
  unfold r_Int_2 r_Int_1 r_Int_11
  cases ds with
  | nil=>
   have:=no (by simp [intOk])
   simp -implicitDefEqProofs (disch:=omega)
   exact this
  | cons c r=>
   have hll:((c::r).length:Int)=(r.length:Int)+1:=by simp
   have hr0:r.length+1≤3000:=hl
   have hne:¬ (r.length:Int)+1=0:=by omega
   have hq45:(45::c::r).length≤4000:=by simp;omega
   have s0:∀ k,sidxV (vs (c::r)) (wz 0) k=k (vy c):=fun k=>sidx_at (i:=0) (s:=c::r) rfl (by decide) k
   by_cases h10:10<(c::r).length
   ·have:=no (by unfold intOk;rw [decide_eq_true h10];simp)
    have h10':(10:Int)<(r.length:Int)+1:=by omega
    simp -implicitDefEqProofs (disch:=omega) [h10',hne]
    exact this
   ·have h10':¬ (10:Int)<(r.length:Int)+1:=by omega
    have loop:¬ (c=48∧wordS neg (c::r)≠[48])→seqM (r_Int_7 (run tbl n) big) (seqM (r_Int_8 (run tbl n) big) (seqM (r_Int_9 (run tbl n) big) (r_Int_10 (run tbl n) big))) (f8 (wz 0) (.t false) (vs (c::r)) (vs (wordS neg (c::r))) V.u (wz 0) V.u V.u) h (fun x e h=>finK (fun e h k=>k (V.x .tup (vl [e.c0.c0,e.c0.c1]) V.nil)) k x e h)=true:=by
     intro hz
     unfold r_Int_7
     simp -implicitDefEqProofs (disch:=omega)
     refine loop_w (fun m e h'=>∃ (j:Nat) (q:Str) (z:Int),m=q.length∧(c::r).drop j=q∧j+q.length=(c::r).length∧e=f8 (wz 0) (.t false) (vs (c::r)) (vs (wordS neg (c::r))) (wz j) (wz z) V.u V.u∧h'=h∧0≤z∧z<((10:Nat) ^ j:Nat)∧valF z q=valF 0 (c::r)) ?_ big (c::r).length _ _ ⟨0,c::r,0,rfl,rfl,by omega,rfl,rfl,by omega,by decide,rfl⟩ (by unfold big;omega)
     rintro m e h1 ⟨j,q,z,rfl,hr,hj,rfl,rfl,hz0,hz1,hv⟩ K' Kn Kx Kr
     unfold r_Int_3
     have p10:(10:Nat) ^ 10=10000000000:=by decide
     have pj:(10:Nat) ^ j≤10 ^ 10:=Nat.pow_le_pow_right (by decide) (by omega)
     cases q with
     | nil=>
      have hj2:¬ (j:Int)<(c::r).length:=by simp at hj ⊢;omega
      have hj3:¬ (j:Int)<(r.length:Int)+1:=by omega
      have hv':z=valF 0 (c::r):=hv
      simp -implicitDefEqProofs (disch:=omega) [hj3]
      refine Kx _ _ _ ?_
      unfold r_Int_8 r_Int_9 r_Int_10
      have ok:intOk neg (c::r)=!decide (1073741824<z):=by
       unfold intOk
       rw [hv',decide_eq_false (show ¬ 10<(c::r).length by omega),decide_eq_false (show ¬ (c::r).length=0 by simp),decide_eq_false (show ¬ ((c::r).getD 0 0=48∧wordS neg (c::r)≠[48]) from hz)]
       simp
      by_cases h3:(1073741824:Int)<z
      ·have:=no (by rw [ok];simp [h3])
       simp -implicitDefEqProofs (disch:=omega) [h3]
       exact this
      ·have ok':intOk neg (c::r)=true:=by rw [ok];simp [h3]
       unfold intV at K
       rw [ok',← hv'] at K
       cases neg with
       | true=>
        have hw:wordS true (c::r)=45::c::r:=rfl
        have hlt:(r.length:Int)<(r.length:Int)+1:=by omega
        simp -implicitDefEqProofs (disch:=omega) [h3,hw,hlt]
        simpa using K
       | false=>
        have hw:wordS false (c::r)=c::r:=rfl
        simp -implicitDefEqProofs (disch:=omega) [h3,hw]
        simpa using K
     | cons d q=>
      have hj3:(j:Int)<(r.length:Int)+1:=by simp at hj;omega
      have hdd:isDig d=true:=List.all_eq_true.1 hd d (List.mem_of_mem_drop (by rw [hr];exact List.mem_cons_self))
      obtain ⟨b1,b2,b3,_⟩:=isDig_bd hdd
      have hdr:(c::r).drop (j+1)=q:=by rw [← List.drop_drop,hr];rfl
      have y1:yLt d 48=false:=decide_eq_false (by rw [UInt8.not_lt];exact b1)
      have y2:yLt 57 d=false:=decide_eq_false (by rw [UInt8.not_lt];exact b2)
      have hzb:z<10000000000:=by
       have:(((10:Nat) ^ j:Nat):Int)≤((10000000000:Nat):Int):=Int.ofNat_le.2 (by rw [← p10];exact pj)
       omega
      have hsub:(d-48).toNat=d.toNat-48:=UInt8.toNat_sub_of_le _ _ b1
      have b4:d.toNat-48≤9:=by rw [← hsub];exact b3
      have pj':(10:Nat) ^ (j+1)=10 ^ j*10:=Nat.pow_succ 10 j
      unfold r_Int_4 r_Int_5 r_Int_6
      simp -implicitDefEqProofs (disch:=omega) [hj3,sidx_at (i:=(j:Int)) (s:=c::r) hr,y1,y2,b1]
      exact Kn _ _ _ (by simp) ⟨j+1,q,10*z+(d-48).toNat,rfl,hdr,by simp at hj ⊢;omega,by rw [hsub];simp,rfl,by omega,by omega,hv⟩
    have nz:(c=48∧wordS neg (c::r)≠[48])→k (.x .tup (vl [wz 0,.t false]) V.nil) h=true:=fun q=>no (by unfold intOk;rw [decide_eq_true (show ((c::r).getD 0 0=48∧wordS neg (c::r)≠[48]) from q)];simp)
    have hw1:(wordS neg (c::r)).length≤4000:=by unfold wordS;split <;> simp <;> omega
    revert loop nz hw1
    generalize wordS neg (c::r)=w
    intro loop nz hw1
    by_cases c1:c=48
    ·by_cases c2:w=[48]
     ·have:=loop (by simp [c2])
      simp -implicitDefEqProofs (disch:=omega) [h10',hne,s0,eq_true c1,c2]
      rw [c2] at this
      simp -implicitDefEqProofs (disch:=omega) at this
      exact this
     ·have:=nz ⟨c1,c2⟩
      simp -implicitDefEqProofs (disch:=omega) [h10',hne,s0,eq_true c1,c2]
      exact this
    ·have:=loop (by simp [c1])
     simp -implicitDefEqProofs (disch:=omega) [h10',hne,s0,c1]
     simp -implicitDefEqProofs (disch:=omega) at this
     exact this
 unfold r_Int_0
 cases neg with
 | true=>
  have hw:wordS true ds=45::ds:=rfl
  rw [hw] at rest ⊢
  have hq:(45::ds).length≤4000:=by simp;omega
  have hq1:1≤(45::ds).length:=by simp
  have s0:∀ k,sidxV (vs (45::ds)) (wz 0) k=k (vy 45):=fun k=>sidx_at (i:=0) (s:=45::ds) rfl (by decide) k
  have hd1:((45:UInt8)::ds).drop (1:Int).toNat=ds:=rfl
  simp -implicitDefEqProofs (disch:=omega) [s0,hd1]
  simp -implicitDefEqProofs (disch:=omega) at rest
  exact rest
 | false=>
  have hw:wordS false ds=ds:=rfl
  rw [hw] at rest ⊢
  cases ds with
  | nil=>
   simp -implicitDefEqProofs (disch:=omega)
   simp -implicitDefEqProofs (disch:=omega) at rest
   exact rest
  | cons c r=>
   have hc:¬ c=45:=fun e=>by
    have:=List.all_eq_true.1 hd c List.mem_cons_self
    rw [e] at this
    exact absurd this (by decide)
   have s0:∀ k,sidxV (vs (c::r)) (wz 0) k=k (vy c):=fun k=>sidx_at (i:=0) (s:=c::r) rfl (by decide) k
   simp -implicitDefEqProofs (disch:=omega) [hc,s0]
   simp -implicitDefEqProofs (disch:=omega) at rest
   exact rest
end Go.Bvm.JN
set_option linter.unusedVariables false
set_option linter.unusedSimpArgs false
set_option maxRecDepth 20000
namespace Go.Bvm.JN
open Go.Bvm
theorem b2s_w {h:H} {v:V} {l:Str} (S:Sl [] h v l) (hl:l.length≤1000000000) (k:V→Bool):b2s v h k=k (vs l):=by
 obtain ⟨cs,⟨hn,hm,e⟩,A⟩:=S
 have hA:=A.1
 have hf:=bytes_flat A
 rcases e with ⟨rfl,rfl⟩ | ⟨id,off,ver,frz,ex,own,m,rfl,hid,B,hlen,hdt⟩
 ·have:l=[]:=List.eq_nil_of_length_eq_zero (by rw [← hA];rfl)
  subst this
  rfl
 ·obtain ⟨_,⟨c,h2,h3,h4⟩,_⟩:=B
  have n1:Enc.n UInt8=1:=rfl
  rw [n1,Nat.mul_one] at hlen hdt
  show both (Nat.beq 1 1) (onBk (hget id h.tr) fun c _ bver _ _ _ _=>both (Nat.beq ver bver) (packA c cs.length off fun r=>k (.s cs.length r)))=_
  rw [h2,onBk_bk,beq_dec,beq_dec,bothd rfl,bothd rfl,hA]
  refine packA_ok l off _ fun j hj=>?_
  rw [h4 (off+j) (by omega)]
  have e1:((m.drop off).take cs.length)[j]?=some (vy l[j]):=by rw [hdt,hf];simp [hj]
  rw [List.getElem?_take_of_lt (by omega),List.getElem?_drop] at e1
  rw [List.getElem?_eq_getElem (by omega)] at e1
  simpa using e1
namespace P
def qtext (x:St):Str×St:=if see x=34 then text x else ([],bad x 4 x.i)
end P
theorem RR.failed {x:St} {y:RS} (r:RR x y) (he:x.e=0) {j:Int} (h0:0≤j) (h1:j≤x.s.length):RR (P.bad x 4 x.i) { y with at_:=j,err:=4,where_:=x.i }:=by
 have e1:P.bad x 4 x.i={ x with e:=4,at_:=x.i }:=by unfold P.bad;rw [if_pos he]
 rw [e1]
 exact ⟨⟨h0,by show j≤(y.s.length:Int);rw [r.s];exact h1,r.ri.s1⟩,⟨r.pi.i0,r.pi.i1,r.pi.s1⟩,r.s,rfl,r.l,r.b,fun q=>absurd q (by show ¬ (4:Int)=0;decide),fun q=>absurd q (by show ¬ (4:Int)=0;decide),fun _=>rfl⟩
theorem RR.moved {x:St} {y:RS} (r:RR x y) (he:x.e=0) {j:Int} (h0:0≤j) (h1:j≤x.s.length):RR { x with i:=j } { y with at_:=j }:=
 ⟨⟨h0,by show j≤(y.s.length:Int);rw [r.s];exact h1,r.ri.s1⟩,⟨h0,h1,r.pi.s1⟩,r.s,r.err,r.l,r.b,fun _=>rfl,r.ok,r.er⟩
section
variable {W:List Nat} {c:Nat} {h:H} {p:Nat} {x:St} {y:RS} {k:KV} {n:Nat} (O:amanuensisref1_readerO W c h p y)
include O
theorem rtext_w (r:RR x y) (K:∀ h' y' s,amanuensisref1_readerO W c h' p y'→RR (P.qtext x).2 y'→(x.e=0→(P.qtext x).2.e=0→s=(P.qtext x).1)→s.length≤3000→Fz c h.next MR h h'→k (vs s) h'=true):run tbl (n+3) Nf_r_reader_text (vl [pr p]) h k=true:=by
 have hc:=O.1
 have O':=O
 obtain ⟨hp,hX,v1,B,f0,f1,f2,f3,f4,f5⟩:=O'
 have L:=fun {o m}=>B.ld (n:=6) rfl (off:=o) (lim:=m)
 have i0:=r.ri.i0;have i1:=r.ri.i1;have s1:=r.ri.s1;have sx:x.s.length≤3000:=r.pi.s1
 rw [run_succ,tbl_r_reader_text]
 unfold T_r_reader_text r_reader_text_12
 simp -implicitDefEqProofs (disch:=omega) [L]
 refine takes_w O r.ri fun h1 O1 F1=>?_
 have nx1:=F1.nx
 have herr:=r.err
 by_cases ok:x.e=0∧P.see x=34
 ·have hat:=r.at_ ok.1
  have hs:=r.s
  have lt:=(P.see_lt r.pi (by rw [ok.2];decide)).2
  have ht:R.takes y 34={ y with at_:=x.i+1 }:=by
   unfold R.takes
   rw [if_neg (by rw [herr];simp [ok.1]),if_neg (by rw [r.see ok.1,hs,hat];simp [ok.2];omega),hat]
  have eq:P.qtext x=P.text x:=by unfold P.qtext;rw [if_pos ok.2]
  rw [eq] at K
  rw [ht] at O1
  obtain ⟨g,hg⟩ : ∃ g,g=strF (x.s.drop x.i.toNat):=⟨_,rfl⟩
  have htN:g=none→P.text x=([],P.bad x 4 x.i):=fun e=>by unfold P.text;rw [← hg,e]
  have htS:∀ z,g=some z→P.text x=(z.1,{ x with i:=x.i+z.2 }):=fun z e=>by unfold P.text;rw [← hg,e]
  have bad:g=none→∀ (h2:H) (j:Int),0≤j→j≤x.s.length→amanuensisref1_readerO W c h2 p { y with at_:=j,err:=4,where_:=x.i }→Fz c h.next MR h h2→k (vs []) h2=true:=by
   intro e h2 j j0 j1 O2 F2
   rw [htN e] at K
   refine K h2 _ [] O2 (r.failed ok.1 j0 j1) (fun _ q=>?_) (by simp) F2
   rfl
  refine loop_w (fun m e h'=>∃ (cv v:V),e=f8 (vs []) (pr p) (wz x.i) v cv V.u V.u V.u∧Fz c h.next MR h h'∧((∃ (j:Int) (q acc:Str),m=q.length+1∧x.i<j∧j≤x.s.length∧x.s.drop j.toNat=q∧amanuensisref1_readerO W c h' p { y with at_:=j }∧SlO [] h.next h' v acc∧scanS q acc (j-x.i)=g∧acc.length≤j)∨(m=0∧g=none∧∃ j:Int,0≤j∧j≤x.s.length∧amanuensisref1_readerO W c h' p { y with at_:=j,err:=4,where_:=x.i }))) ?_ big ((x.s.drop (x.i+1).toNat).length+1) _ _ ⟨V.u,slnil,by rw [hat],F1,.inl ⟨x.i+1,_,[],rfl,by omega,by omega,rfl,O1,.nil _ _ _,?_,by simp;omega⟩⟩ (by rw [List.length_drop];unfold big;omega)
  ·rintro m e h2 ⟨cv,v,rfl,F2,⟨j,q,acc,rfl,j0,j1,hq,O2,S2,hsc,hac⟩ | ⟨rfl,hgn,j,j0,j1,O2⟩⟩ K' Kn Kx Kr
   ·have L2':=O2
    obtain ⟨_,_,w2,B2,_⟩:=L2'
    have L2:=fun {o m}=>B2.ld (n:=6) rfl (off:=o) (lim:=m)
    have hl3:x.s.length≤3000:=r.pi.s1
    have he0:y.err=0:=by rw [herr];exact ok.1
    have nx2:=F2.nx
    have failE:g=none→∀ (h3:H) (j':Int),0≤j'→j'≤x.s.length→amanuensisref1_readerO W c h3 p { y with at_:=j' }→Fz c h.next MR h h3→∀ K2:KV,(∀ h4,amanuensisref1_readerO W c h4 p { y with at_:=j',err:=4,where_:=x.i }→Fz c h.next MR h h4→Fz c h3.next MR h3 h4→K2 tup0 h4=true)→run tbl (n+2) Nf_r_reader_fails (vl [pr p,wz 4,wz x.i]) h3 K2=true:=by
     intro e h3 j' j0' j1' O3 F3 K2 hK
     have hxi:inR x.i:=by have:=r.pi.i0;have:=r.pi.i1;unfold inR;omega
     refine fails_w (n:=n+1) O3 (by decide) hxi fun h4 O4 F4=>?_
     have:R.fails { y with at_:=j' } 4 x.i={ y with at_:=j',err:=4,where_:=x.i }:=by unfold R.fails;rw [if_pos he0]
     rw [this] at O4
     exact hK h4 O4 (F3.trans F4 (Nat.le_refl _) F3.nx (by decide)) F4
    have stop:∀ (h3:H) (v' cv':V) (j':Int),g=none→0≤j'→j'≤x.s.length→amanuensisref1_readerO W c h3 p { y with at_:=j',err:=4,where_:=x.i }→Fz c h.next MR h h3→K' (X.x 0) (f8 (vs []) (pr p) (wz x.i) v' cv' V.u V.u V.u) h3=true:=by
     intro h3 v' cv' j' e j0' j1' O3 F3
     refine Kx _ _ _ ?_
     unfold r_reader_text_11
     simp -implicitDefEqProofs (disch:=omega)
     exact bad e h3 j' j0' j1' O3 F3
    unfold r_reader_text_0 r_reader_text_1
    cases q with
    | nil=>
     have hjl:(x.s.length:Int)≤j:=by have:=List.drop_eq_nil_iff.1 hq;omega
     have hgn:g=none:=by rw [← hsc];rfl
     simp -implicitDefEqProofs (disch:=omega) [L2,he0,hs,hjl]
     refine failE hgn h2 j (by omega) j1 O2 F2 _ fun h3 O3 F3 _=>?_
     exact stop h3 _ _ j hgn (by omega) j1 O3 F3
    | cons d q=>
     have hjl:¬ (x.s.length:Int)≤j:=by
      have:¬ x.s.length≤j.toNat:=fun e=>by rw [List.drop_eq_nil_of_le e] at hq;simp at hq
      omega
     have hdq:x.s.drop (j+1).toNat=q:=by rw [show (j+1).toNat=j.toNat+1 from by omega,← List.drop_drop,hq];rfl
     rw [scanS_c] at hsc
     unfold r_reader_text_10
     simp -implicitDefEqProofs (disch:=omega) [L2,he0,hs,hjl,sidx_at (i:=j) (s:=x.s) hq]
     refine O2.st_at (y:=j+1) (by omega) fun h3 O3 F3=>?_
     have nx3:=F3.nx
     have F03:=F2.trans F3 (Nat.le_refl _) nx2 (by decide)
     have S3:=S2.fz F3 (Nat.le_refl _) (by decide)
     have L3':=O3
     obtain ⟨_,_,w3,B3,_⟩:=L3'
     have L3:=fun {o m}=>B3.ld (n:=6) rfl (off:=o) (lim:=m)
     have more:∀ (h4:H) (j':Int) (b:UInt8) (q':Str),amanuensisref1_readerO W c h4 p { y with at_:=j' }→SlO [] h.next h4 v acc→Fz c h.next MR h h4→x.i<j'→j'≤x.s.length→j<j'→x.s.drop j'.toNat=q'→q'.length<(d::q).length→scanS q' (acc++[b]) (j'-x.i)=g→r_reader_text_9 (run tbl (n+2)) big (f8 (vs []) (pr p) (wz x.i) v (vy b) V.u V.u V.u) h4 (fun x e h'=>K' x e h')=true:=by
      intro h4 j' b q' O4 S4 F4 j0' j1' jj hq' hlt hsc'
      unfold r_reader_text_9
      simp -implicitDefEqProofs (disch:=omega)
      have nx4:=F4.nx
      refine S4.app1 (x:=b) rfl (by decide) rfl (by decide) (by show (acc.length+1)*1≤_;omega) nx4 (by simp) (by decide) fun h5 w S5 _ _ F5=>?_
      exact Kn _ _ _ (by omega) ⟨_,_,rfl,F4.loc F5 (by omega) (Nat.le_refl _),.inl ⟨j',q',acc++[b],rfl,j0',j1',hq',O4.fz F5 (Nat.le_refl _) (by decide),S5,hsc',by simp;omega⟩⟩
     have over:∀ (h4:H) (j':Int) (b:UInt8),amanuensisref1_readerO W c h4 p { y with at_:=j',err:=4,where_:=x.i }→SlO [] h.next h4 v acc→Fz c h.next MR h h4→0≤j'→j'≤x.s.length→g=none→r_reader_text_9 (run tbl (n+2)) big (f8 (vs []) (pr p) (wz x.i) v (vy b) V.u V.u V.u) h4 (fun x e h'=>K' x e h')=true:=by
      intro h4 j' b O4 S4 F4 j0' j1' hgn
      unfold r_reader_text_9
      simp -implicitDefEqProofs (disch:=omega)
      have nx4:=F4.nx
      refine S4.app1 (x:=b) rfl (by decide) rfl (by decide) (by show (acc.length+1)*1≤_;omega) nx4 (by simp) (by decide) fun h5 w S5 _ _ F5=>?_
      exact Kn _ _ _ (by omega) ⟨_,_,rfl,F4.loc F5 (by omega) (Nat.le_refl _),.inr ⟨rfl,hgn,j',j0',j1',O4.fz F5 (Nat.le_refl _) (by decide)⟩⟩
     unfold r_reader_text_2
     by_cases c1:d=34
     ·rw [if_pos c1] at hsc
      have hts:=htS _ hsc.symm
      rw [hts] at K
      simp -implicitDefEqProofs (disch:=omega) [c1]
      rw [b2s_w S3.sl (by omega)]
      refine Kr _ _ ?_
      simp -implicitDefEqProofs (disch:=omega)
      have ej:x.i+(j-x.i+1)=j+1:=by omega
      refine K h3 _ acc O3 ?_ (fun _ _=>rfl) (by omega) F03
      show RR { x with i:=x.i+(j-x.i+1) } _
      rw [ej]
      exact r.moved ok.1 (by omega) (by omega)
     ·rw [if_neg c1] at hsc
      unfold r_reader_text_7 r_reader_text_8
      have bigger:d<32∨126<d→g=none→¬ d=92→(run tbl (n+2) Nf_r_reader_fails (vl [pr p,wz 4,wz x.i]) h3 fun _ h'=>r_reader_text_9 (run tbl (n+2)) big (f8 (vs []) (pr p) (wz x.i) v (vy d) V.u V.u V.u) h' (fun x e h'=>K' x e h'))=true:=by
       intro _ hgn _
       refine failE hgn h3 (j+1) (by omega) (by omega) O3 F03 _ fun h4 O4 F4 G4=>?_
       have S4:SlO [] h.next h4 v acc:=S3.fz G4 (Nat.le_refl _) (by decide)
       exact over h4 (j+1) d O4 S4 F4 (by omega) (by omega) hgn
      by_cases c2:d<32
      ·rw [if_pos c2] at hsc
       have c4:¬ d=92:=fun e=>by rw [e] at c2;exact absurd c2 (by decide)
       have y1:yLt d 32=true:=decide_eq_true c2
       have:=bigger (.inl c2) hsc.symm c4
       simp -implicitDefEqProofs (disch:=omega) [c1,c4,y1]
       exact this
      ·rw [if_neg c2] at hsc
       have y1:yLt d 32=false:=decide_eq_false c2
       by_cases c3:126<d
       ·rw [if_pos c3] at hsc
        have c4:¬ d=92:=fun e=>by rw [e] at c3;exact absurd c3 (by decide)
        have y2:yLt 126 d=true:=decide_eq_true c3
        have:=bigger (.inr c3) hsc.symm c4
        simp -implicitDefEqProofs (disch:=omega) [c1,c4,y1,y2]
        exact this
       ·rw [if_neg c3] at hsc
        have y2:yLt 126 d=false:=decide_eq_false c3
        by_cases c4:d=92
        ·rw [if_pos c4] at hsc
         unfold r_reader_text_5 r_reader_text_4 r_reader_text_3
         cases q with
         | nil=>
          have hjl2:(x.s.length:Int)≤j+1:=by have:=List.drop_eq_nil_iff.1 hdq;omega
          dsimp only at hsc
          simp -implicitDefEqProofs (disch:=omega) [c4,L3,hs,hjl2]
          refine failE hsc.symm h3 (j+1) (by omega) (by omega) O3 F03 _ fun h4 O4 F4 _=>?_
          exact stop h4 _ _ (j+1) hsc.symm (by omega) (by omega) O4 F4
         | cons d2 q=>
          have hjl2:¬ (x.s.length:Int)≤j+1:=by
           have:¬ x.s.length≤(j+1).toNat:=fun e=>by rw [List.drop_eq_nil_of_le e] at hdq;simp at hdq
           omega
          have hdq2:x.s.drop (j+2).toNat=q:=by rw [show (j+2).toNat=(j+1).toNat+1 from by omega,← List.drop_drop,hdq];rfl
          dsimp only at hsc
          by_cases d34:d2=34∨d2=92
          ·rw [if_pos d34] at hsc
           have z1:yLt d2 32=false:=by rcases d34 with e | e <;> (rw [e];decide)
           have z2:yLt 126 d2=false:=by rcases d34 with e | e <;> (rw [e];decide)
           have go:st true 1 (.p p 1 6 0) (wz (j+1+1)) h3 (fun _ h'=>r_reader_text_9 (run tbl (n+2)) big (f8 (vs []) (pr p) (wz x.i) v (vy d2) V.u V.u V.u) h' (fun x e h'=>K' x e h'))=true:=by
            refine O3.st_at (y:=j+1+1) (by omega) fun h4 O4 F4=>?_
            have ej:j+1+1=j+2:=by omega
            rw [ej] at O4
            exact more h4 (j+2) d2 q O4 (S3.fz F4 (Nat.le_refl _) (by decide)) (F03.trans F4 (Nat.le_refl _) F03.nx (by decide)) (by omega) (by omega) (by omega) hdq2 (by simp;omega) (by rw [← hsc];congr 1;omega)
           unfold r_reader_text_6
           rcases d34 with e | e
           ·simp -implicitDefEqProofs (disch:=omega) [c4,L3,hs,hjl2,sidx_at (i:=j+1) (s:=x.s) hdq,eq_true e,z1,z2]
            exact go
           ·have e':¬ d2=34:=by rw [e];decide
            simp -implicitDefEqProofs (disch:=omega) [c4,L3,hs,hjl2,sidx_at (i:=j+1) (s:=x.s) hdq,eq_true e,e',z1,z2]
            exact go
          ·rw [if_neg d34] at hsc
           have e1:¬ d2=34:=fun e=>d34 (.inl e)
           have e2:¬ d2=92:=fun e=>d34 (.inr e)
           simp -implicitDefEqProofs (disch:=omega) [c4,L3,hs,hjl2,sidx_at (i:=j+1) (s:=x.s) hdq,e1,e2]
           refine failE hsc.symm h3 (j+1) (by omega) (by omega) O3 F03 _ fun h4 O4 F4 _=>?_
           exact stop h4 _ _ (j+1) hsc.symm (by omega) (by omega) O4 F4
        ·rw [if_neg c4] at hsc
         simp -implicitDefEqProofs (disch:=omega) [c1,c4,y1,y2]
         exact more h3 (j+1) d q O3 S3 F03 (by omega) (by omega) (by omega) hdq (by simp) (by rw [← hsc];congr 1;omega)
   ·unfold r_reader_text_0
    obtain ⟨_,_,w2,B2,_⟩:=id O2
    have L2:=fun {o m}=>B2.ld (n:=6) rfl (off:=o) (lim:=m)
    simp -implicitDefEqProofs (disch:=omega) [L2]
    refine Kx _ _ _ ?_
    unfold r_reader_text_11
    simp -implicitDefEqProofs (disch:=omega)
    exact bad hgn h2 j j0 j1 O2 F2
  ·rw [hg]
   unfold strF
   rw [List.drop_drop,show x.i+1-x.i=1 from by omega,show x.i.toNat+1=(x.i+1).toNat from by omega]
 ·have eq:P.qtext x=([],P.bad x 4 x.i):=by
   unfold P.qtext
   by_cases e:P.see x=34
   ·have:=(P.see_lt r.pi (by rw [e];decide)).1
    exact absurd ⟨this,e⟩ ok
   ·rw [if_neg e]
  rw [eq] at K
  have r1:RR (P.bad x 4 x.i) (R.takes y 34):=by
   by_cases he:x.e=0
   ·have:P.take x 34=P.bad x 4 x.i:=by unfold P.take;rw [if_pos (fun e=>ok ⟨he,e⟩)]
    rw [← this]
    exact r.takes (by decide)
   ·have:P.bad x 4 x.i=P.take x 34:=by rw [P.err_bad he,P.err_take (by decide) he]
    rw [this]
    exact r.takes (by decide)
  have hne:(R.takes y 34).err≠0:=by
   rw [r1.err]
   by_cases he:x.e=0
   ·unfold P.bad;rw [if_pos he];show (4:Int)≠0;decide
   ·rw [P.err_bad he];exact he
  have O1':=O1
  obtain ⟨_,_,w1,B1,_⟩:=O1'
  have L1:=fun {o m}=>B1.ld (n:=6) rfl (off:=o) (lim:=m)
  refine loop_w (fun m e h'=>e=f8 (vs []) (pr p) (wz y.at_) slnil V.u V.u V.u V.u∧h'=h1) ?_ big 0 _ _ ⟨rfl,rfl⟩ (by unfold big;omega)
  rintro m e h2 ⟨rfl,rfl⟩ K' Kn Kx Kr
  unfold r_reader_text_0
  simp -implicitDefEqProofs (disch:=omega) [L1,hne]
  refine Kx _ _ _ ?_
  unfold r_reader_text_11
  simp -implicitDefEqProofs (disch:=omega)
  exact K h2 _ [] O1 r1 (fun _ _=>rfl) (by simp) F1
end
end Go.Bvm.JN
set_option linter.unusedVariables false
set_option linter.unusedSimpArgs false
set_option maxRecDepth 20000
namespace Go.Bvm.JN
open Go.Bvm
theorem has_w {W:List Nat} {h:H} {v:V} {xs:List Str} {s:Str} {k:KV} (A:Sl W h v xs) (hl:xs.length≤1000000) {n:Nat} (K:k (.t (decide (s∈xs))) h=true):run tbl (n+1) Nf_z_Has (vl [v,vs s]) h k=true:=by
 rw [run_succ,tbl_z_Has]
 unfold T_z_Has z_Has_5 z_Has_3
 simp -implicitDefEqProofs (disch:=omega)
 refine loop_w (fun m e h'=>∃ j:Nat,j≤xs.length∧m=xs.length-j∧e=f8 (.t false) (wz j) v (vs s) V.u V.u V.u V.u∧h'=h∧(s∈xs.drop j↔s∈xs)) ?_ big xs.length _ _ ⟨0,by omega,rfl,rfl,rfl,Iff.rfl⟩ (by unfold big;omega)
 rintro m e h1 ⟨j,hj,rfl,rfl,rfl,hi⟩ K' Kn Kx Kr
 unfold z_Has_0
 by_cases hj2:j<xs.length
 ·obtain ⟨ra,L⟩:=at_Str A hj2
  have hj3:(j:Int)<xs.length:=by omega
  rw [drop_cons hj2,List.mem_cons] at hi
  unfold z_Has_1 z_Has_2
  by_cases e:xs[j]=s
  ·have:s∈xs:=hi.1 (.inl e.symm)
   rw [decide_eq_true this] at K
   simp -implicitDefEqProofs (disch:=omega) [A.lenL,hj3,L,e]
   refine Kr _ _ ?_
   simp -implicitDefEqProofs (disch:=omega)
   exact K
  ·have e':¬ s=xs[j]:=fun q=>e q.symm
   simp -implicitDefEqProofs (disch:=omega) [A.lenL,hj3,L,e]
   exact Kn _ _ _ (by omega) ⟨j+1,by omega,rfl,by simp,rfl,by rw [← hi];simp [e']⟩
 ·have hj3:¬ (j:Int)<xs.length:=by omega
  rw [List.drop_eq_nil_of_le (by omega)] at hi
  have:¬ s∈xs:=fun q=>by have:=hi.2 q;simp at this
  rw [decide_eq_false this] at K
  simp -implicitDefEqProofs (disch:=omega) [A.lenL,hj3]
  refine Kx _ _ _ ?_
  unfold z_Has_4
  simp -implicitDefEqProofs (disch:=omega)
  exact K
theorem eqV_sl (a b c d e:Nat):eqV (.sl a b c d e) (.sl a b c d e)=true:=by
 show both (Nat.beq a a) _=true
 simp only [beq_dec,decide_true,both_t]
theorem _root_.Go.Bvm.SlO.eqV {α:Type} [Enc α] {X:List Nat} {c:Nat} {h:H} {v:V} {xs:List α} (S:SlO X c h v xs):Go.Bvm.eqV v v=true:=by
 obtain ⟨cs,⟨_,_,⟨rfl,_⟩ | ⟨id,ver,rfl,_⟩⟩,_⟩:=S
 ·rfl
 ·exact eqV_sl _ _ _ _ _
namespace P
theorem tw_drop (p:UInt8→Bool):∀ l:Str,(l.drop (l.takeWhile p).length).takeWhile p=[]
 | []=>rfl
 | c::r=>by
  rw [List.takeWhile_cons]
  by_cases h:p c=true
  ·rw [if_pos h,List.length_cons,List.drop_succ_cons];exact tw_drop p r
  ·rw [if_neg h];show (c::r).takeWhile p=[];rw [List.takeWhile_cons,if_neg h]
theorem skip_skip (s:Str) (i:Int) (h:0≤i):skip s (skip s i)=skip s i:=by
 have:(skip s i).toNat=i.toNat+((s.drop i.toNat).takeWhile blankB).length:=by unfold skip;omega
 show skip s i+((s.drop (skip s i).toNat).takeWhile blankB).length=skip s i
 rw [this,← List.drop_drop,tw_drop]
 simp
theorem blanks_blanks (x:St) (h:0≤x.i):blanks (blanks x)=blanks x:=by
 by_cases e:x.e=0
 ·have e1:blanks x={ x with i:=skip x.s x.i }:=by unfold blanks;rw [if_neg (by simp [e])]
  rw [e1]
  have:blanks { x with i:=skip x.s x.i }={ x with i:=skip x.s (skip x.s x.i) }:=by unfold blanks;rw [if_neg (by simp [e])]
  rw [this,skip_skip _ _ h]
 ·rw [err_blanks e,err_blanks e]
end P
def RSpec (m f:Nat) (val:P.VF):Prop:=∀ (W:List Nat) (c:Nat) (h:H) (p:Nat) (x:St) (y:RS) (dp:Int) (k:KV),amanuensisref1_readerO W c h p y→RR (P.blanks x) y→P.Bd x→(x.e=0→dp=x.depth)→inR dp→(x.e=0→9≤f+x.depth)→(x.e≠0→1≤f)→(∀ h' y' z,amanuensisref1_readerO W c h' p y'→RR (val x).2 y'→inR z→((val x).2.e=0→z=(val x).1)→Fz c h.next MR h h'→k (wz z) h'=true)→run tbl m Nf_r_reader_value (vl [pr p,wz dp]) h k=true
theorem _root_.Go.Bvm.RowO.app1r {X:List Nat} {c:Nat} {h:H} {x:V} {ty n i:Nat} {cs:List (List V)} (R:RowO X c h x ty n cs) {e:List V} {k:KV} (he:e.length=n) (hn:1≤n) (hi:i<h.next) (hiX:i∈X) (hn2:n≤4096) (hl:(cs.length+1)*n≤17179869184) (hc:c≤h.next) (hX:∀ j,j∈X→j<h.next)
  (K:∀ h' w,RowO X c h' w ty n (cs++[e])→h.next≤h'.next→(∀ j,j<h.next→j∉rids x→j≠i→hget j h'.tr=hget j h.tr)→(∀ j,j∈rids w→j∈rids x∨h.next≤j)→k w h'=true):bslA i 1 n ty (vl e) h (fun v h1=>app n ty x v h1 k)=true:=by
 obtain ⟨hcn,hcl,q⟩:=R
 have hmB:maxB=140737488355328:=rfl
 have hcn':∀ d∈cs++[e],d.length=n:=fun d hd=>by
  simp only [List.mem_append,List.mem_cons,List.not_mem_nil,or_false] at hd
  rcases hd with z | rfl
  ·exact hcn d z
  ·exact he
 have hlen:cs.length+1≤17179869184:=Nat.le_trans (Nat.le_mul_of_pos_right _ hn) hl
 refine bslA_w (by omega) (by omega) fun h1 n1 b1 o1=>?_
 rcases q with ⟨rfl,rfl⟩ | ⟨id,ver,rfl,hci,hid,B⟩
 ·refine app_nil_w b1 hn (Nat.le_refl _) (by omega) (by simpa using hl) fun h2 n2 b2 o2=>K h2 _ ⟨hcn',by simp;omega,.inr ⟨h1.next,0,rfl,by omega,⟨by omega,fun k=>by have:=hX _ k;omega⟩,?_⟩⟩ (by omega) (fun j hj _ hji=>?_) (fun j hj=>.inr (by simp at hj;omega))
  ·rw [Nat.one_mul,List.drop_zero,List.take_of_length_le (by omega)] at b2
   simpa using b2
  ·rw [o2.2 j (by omega),o1.2 j hji]
 ·have hne:id≠i:=fun e=>hid.2 (e ▸ hiX)
  have B1:=B.only (h':=h1) (id:=i) o1 hne
  have hfl:=flat_len hcn
  refine app_row_w b1 B1 hn (Nat.le_refl _) (by omega) (by omega) (by rw [hfl,← Nat.add_mul];exact hl) fun h2 n2 b2 o2=>K h2 _ ⟨hcn',by simp;omega,.inr ⟨id,ver+1,by simp,hci,⟨by omega,hid.2⟩,?_⟩⟩ (by omega) (fun j hj hx hji=>?_) (fun j hj=>.inl hj)
  ·rw [Nat.one_mul,List.drop_zero,List.take_of_length_le (by omega)] at b2
   simpa using b2
  ·rw [o2.2 j (by simpa using hx),o1.2 j hji]
theorem cons_new {A:List Nat} {n:Nat} (i:Nat) (a:i∈n::A) (b:i∉A):n≤i:=by
 rcases List.mem_cons.1 a with e | e
 ·omega
 ·exact absurd e b
theorem cons_lt {A:List Nat} {n m:Nat} (hA:∀ j,j∈A→j<n) (hm:n<m) (j:Nat) (a:j∈n::A):j<m:=by
 rcases List.mem_cons.1 a with e | e
 ·omega
 ·have:=hA j e;omega
noncomputable abbrev fr (p q:Nat) (ec:UInt8) (nm:Bool) (s4:V) (dp:Int):L8:=f8 (pr p) (.p q 0 5 0) (vy ec) (.t nm) s4 (wz dp) V.u V.u
theorem part_w {W:List Nat} {c:Nat} {h0 h1:H} {p q:Nat} {x:St} {y:RS} {n f:Nat} {val:P.VF} (VV:RSpec (n+6) f val) {ec:UInt8} {nm:Bool} {s4 vk v:V} {dp:Int} {ps:List Int} {kdv:Int} {K3:KX}
  (O1:amanuensisref1_readerO (rids v++W) c h1 p y) (r:RR (P.blanks x) y) (b:P.Bd x) (hdp:x.e=0→dp+1=x.depth) (hdr:inR dp∧inR (dp+1)) (h9:x.e=0→9≤f+x.depth) (hf1:x.e≠0→1≤f) (B1:Bk h1 q 0 0 Ty_api_Json true true [wz kdv,wz 0,vs [],vk,v]) (hq0:h0.next≤q) (hq1:q<h1.next) (hpq:p≠q)
  (S1:SlO W h0.next h1 v ps) (F1:Fz c h0.next MR h0 h1) (hc0:c≤h0.next) (hps:ps.length≤100000) (pb:P.VB f val)
  (K:∀ h' y' z w,amanuensisref1_readerO (rids w++W) c h' p y'→RR (P.blanks (val x).2) y'→((val x).2.e=0→z=(val x).1)→inR z→Bk h' q 0 0 Ty_api_Json true true [wz kdv,wz 0,vs [],vk,w]→SlO W h0.next h' w (ps++[z])→Fz c h0.next MR h0 h'→Fz c h1.next (kR Ty_int::kO Ty_api_Json::MR) h1 h'→seqM (r_reader_many_6 (run tbl (n+6)) big) (r_reader_many_7 (run tbl (n+6)) big) (fr p q ec nm s4 dp) h' K3=true) :
  r_reader_many_8 (run tbl (n+6)) big (fr p q ec nm s4 dp) h1 K3=true:=by
 have nx1:=F1.nx
 obtain ⟨hdr1,hdr2⟩:=hdr
 have L1:=fun {o m}=>B1.ld (n:=5) rfl (off:=o) (lim:=m)
 have hX1:=O1.2.1.2
 have OA:amanuensisref1_readerO (h1.next::(rids v++W)) c ⟨h1.next+1,h1.tr⟩ p y:=O1.gxx (Nat.le_succ _) cons_new (cons_lt hX1 (Nat.lt_succ_self _)) fun _ _ _ _=>rfl
 have SA:SlO (h1.next::W) h0.next ⟨h1.next+1,h1.tr⟩ v ps:=S1.gxx (Nat.le_succ _) cons_new fun _ _ _ _=>rfl
 have BA:Bk ⟨h1.next+1,h1.tr⟩ q 0 0 Ty_api_Json true true [wz kdv,wz 0,vs [],vk,v]:=B1
 have LA:=fun {o m}=>BA.ld (n:=5) rfl (off:=o) (lim:=m)
 unfold r_reader_many_8
 simp -implicitDefEqProofs (disch:=omega) [L1,LA]
 refine VV _ _ _ _ x y _ _ OA r b hdp hdr2 h9 hf1 fun h2 y2 z O2 r2 hz hzv F2=>?_
 have nx2:=F2.nx
 have nxA:(⟨h1.next+1,h1.tr⟩ : H).next=h1.next+1:=rfl
 rw [nxA] at nx2
 have B2:=BA.fz F2 (by show q<h1.next+1;omega) (by decide)
 have S2:=SA.fz F2 (Nat.le_refl _) (by decide)
 have L2:=fun {o m}=>B2.ld (n:=5) rfl (off:=o) (lim:=m)
 simp -implicitDefEqProofs (disch:=omega) [L2,S2.eqV]
 obtain ⟨cs2,R2,A2⟩:=S2
 refine R2.app1r (e:=[wz z]) rfl (by decide) (by omega) List.mem_cons_self (by decide) (by rw [A2.1];show (ps.length+1)*1≤_;omega) (by omega) (fun j hj=>?_) fun h3 w R3 n3 g3 gw=>?_
 ·have:=cons_lt (n:=h1.next) (m:=h1.next+1) (fun j hj=>hX1 j (List.mem_append.2 (.inr hj))) (Nat.lt_succ_self _) j hj
  omega
 ·have hqv:q∉rids v:=fun hm=>by
   have e1:=(R2.rids hm).2.2.2
   have e2:=B2.kd
   rw [e2] at e1
   exact absurd e1 (by decide)
  have g3':∀ j,j<h2.next→j∉h1.next::(rids v++W)→hget j h3.tr=hget j h2.tr:=fun j a b=>g3 j a (fun e=>b (List.mem_cons_of_mem _ (List.mem_append.2 (.inl e)))) fun e=>b (e ▸ List.mem_cons_self)
  have hw3:∀ j,j∈rids w→j<h3.next:=fun j hj=>(R3.rids hj).2.1
  have O3:amanuensisref1_readerO (rids w++W) c h3 p y2:=O2.gxx n3 (fun i a b=>by
   rcases List.mem_append.1 a with e | e
   ·rcases gw i e with e | e
    ·exact absurd (List.mem_cons_of_mem _ (List.mem_append.2 (.inl e))) b
    ·exact e
   ·exact absurd (List.mem_cons_of_mem _ (List.mem_append.2 (.inr e))) b) (fun j a=>by
   rcases List.mem_append.1 a with e | e
   ·exact hw3 j e
   ·have:=hX1 j (List.mem_append.2 (.inr e));omega) fun id a b _=>g3' id a b
  have B3:=B2.eq (g3 q (by omega) hqv (by omega))
  have A3:All (h1.next::W) h3 (cs2++[[wz z]]) (ps++[z]):=A2.snoc ⟨rfl,hz⟩
  have S3:SlO W h0.next h3 w (ps++[z]):=(show SlO (h1.next::W) h0.next h3 w (ps++[z]) from ⟨_,R3,A3⟩).xm fun i a b=>absurd (List.mem_cons_of_mem _ a) b
  refine st_w B3 (by simp) (by decide) R3.one fun h4 n4 B4 x4=>?_
  have F4:Fz 0 h3.next [kO Ty_api_Json] h3 h4:=(Fz.refl 0 h3.next _ h3).put x4 (Nat.zero_le _) (.inr (by rw [B3.kd];exact List.mem_cons_self))
  have O4:=O3.fz F4 (Nat.le_refl _) (by decide)
  have S4:=S3.fz F4 (Nat.le_refl _) (by decide)
  have nx3:h3.next≤h4.next:=F4.nx
  refine rblanks_w O4 r2.ri fun h5 O5 F5=>?_
  have nx5:=F5.nx
  have Fa:Fz c h1.next (kR Ty_int::kO Ty_api_Json::MR) h1 h2:=⟨by omega,fun i hi=>F2.lo i hi,fun i hi hk=>F2.hi i (by show i<h1.next+1;omega) fun e=>hk (List.mem_cons_of_mem _ (List.mem_cons_of_mem _ e))⟩
  have hrv:∀ j,j∈rids v→h0.next≤j∧kd (hget j h2.tr)=kR Ty_int:=fun j hj=>⟨(R2.rids hj).1,(R2.rids hj).2.2.2⟩
  have h24:∀ j,j<h2.next→j∉rids v→j≠h1.next→j≠q→hget j h4.tr=hget j h2.tr:=fun j a b d e=>(x4.2 j e).trans (g3 j a b d)
  have Fb:Fz c h1.next (kR Ty_int::kO Ty_api_Json::MR) h2 h4:=⟨by omega,fun i hi=>h24 i (by omega) (fun e=>by have:=(hrv i e).1;omega) (by omega) (by omega),fun i hi hk=>h24 i (by omega) (fun e=>hk (by rw [(hrv i e).2];exact List.mem_cons_self)) (by omega) (fun e=>hk (by rw [e,B2.kd];exact List.mem_cons_of_mem _ List.mem_cons_self))⟩
  have Fa':Fz c h1.next MR h1 h2:=⟨by omega,fun i hi=>F2.lo i hi,fun i hi hk=>F2.hi i (by show i<h1.next+1;omega) hk⟩
  have Fd:Fz h0.next h0.next [] h2 h4:=⟨by omega,fun i hi=>h24 i (by omega) (fun e=>by have:=(hrv i e).1;omega) (by omega) (by omega),fun i hi _=>h24 i (by omega) (fun e=>by have:=(hrv i e).1;omega) (by omega) (by omega)⟩
  have Fc:Fz c h0.next MR h0 h4:=(F1.trans Fa' (Nat.le_refl _) nx1 (fun _ k=>k)).loc Fd hc0 (Nat.le_refl _)
  exact K h5 _ z w O5 r2.blanks hzv hz (B4.fz F5 (by omega) (by decide)) (S4.fz F5 (Nat.le_refl _) (by decide)) (Fc.trans F5 (Nat.le_refl _) Fc.nx (by decide)) ((Fa.trans Fb (Nat.le_refl _) (by omega) (fun _ k=>k)).trans F5 (Nat.le_refl _) (by omega) (by decide))
end Go.Bvm.JN
set_option linter.unusedVariables false
set_option linter.unusedSimpArgs false
set_option maxRecDepth 20000
namespace Go.Bvm.JN
open Go.Bvm
theorem RR.addE {x:St} {y:RS} (r:RR x y) (h:x.e≠0) {n m:api_Json}:RR (P.add x n) (R.add y m):=by
 have e2:R.add y m=y:=by unfold R.add;rw [if_neg (by rw [r.err];exact h)]
 rw [e2]
 exact ⟨r.ri,⟨r.pi.i0,r.pi.i1,r.pi.s1⟩,r.s,r.err,r.l,r.b,fun q=>absurd q h,fun q=>absurd q h,r.er⟩
theorem rlist_w {W:List Nat} {c:Nat} {h0 h1:H} {p q:Nat} {x:St} {y:RS} {n f:Nat} {val:P.VF} (VV:RSpec (n+6) f val) (VB0:P.VB f val) {dp:Int} {k:KV} (s4:V)
  (O1:amanuensisref1_readerO W c h1 p y) (r:RR (P.blanks x) y) (b:P.Bd x) (hx:x.e=0) (hdp:dp+1=x.depth) (h9:9≤f+x.depth) (B1:Bk h1 q 0 0 Ty_api_Json true true [wz 6,wz 0,vs [],slnil,slnil]) (hq0:h0.next≤q) (hq1:q<h1.next) (hpq:p≠q)
  (F1:Fz c h0.next MR h0 h1) (hc0:c≤h0.next)
  (K:∀ h' y',amanuensisref1_readerO W c h' p y'→RR (P.add (P.list val x).2 ⟨6,0,[],[],(P.list val x).1⟩) y'→Fz c h0.next MR h0 h'→k tup0 h'=true) :
  seqM (blockM 0 (loopM big (seqM (r_reader_many_2 (run tbl (n+6)) big) (blockM 1 (seqM (r_reader_many_5 (run tbl (n+6)) big) (r_reader_many_8 (run tbl (n+6)) big)))))) (r_reader_many_9 (run tbl (n+6)) big) (fr p q 93 false s4 dp) h1 (fun x e h=>finK (fun e h k=>k tup0) k x e h)=true:=by
 have q0:=P.blanks_q x b.pi
 have hb0:=b.q q0 (by rw [P.blanks_e];exact id)
 have hd8:=b.d hx
 have hd0:=b.d0
 have hgl:=P.list_g VB0 x b fun _=>h9
 have hlb:(P.list val x).2.e=0→(P.list val x).2.l.length<1000000:=fun e=>by
  have h1:=hgl.l0 e;have h2:=b.l;have h3:=hgl.pi.i1;rw [hgl.s] at h3;omega
 have fin:∀ (y4:RS) (qs:List Int) (w:V) (h4:H),amanuensisref1_readerO (rids w++W) c h4 p y4→RI y4→RR (P.list val x).2 (R.takes y4 93)→((P.list val x).2.e=0→qs=(P.list val x).1)→Bk h4 q 0 0 Ty_api_Json true true [wz 6,wz 0,vs [],slnil,w]→SlO W h0.next h4 w qs→Fz c h0.next MR h0 h4→q<h4.next→r_reader_many_9 (run tbl (n+6)) big (fr p q 93 false s4 dp) h4 (fun x e h=>finK (fun e h k=>k tup0) k x e h)=true:=by
  intro y4 qs w h4 O4 I4 r4 hqs B4 S4 F4 hq4
  have O4':=O4.xm (X':=W) (fun i a b=>absurd (List.mem_append.2 (.inr a)) b) fun j hj=>O4.2.1.2 j (List.mem_append.2 (.inr hj))
  unfold r_reader_many_9
  simp -implicitDefEqProofs (disch:=omega)
  refine takes_w O4' I4 fun h5 O5 F5=>?_
  have nx5:=F5.nx
  have B5:=B4.fz F5 (by omega) (by decide)
  have S5:=S4.fz F5 (Nat.le_refl _) (by decide)
  have LA:=B5.lda rfl (n:=5) (off:=0) (lim:=5) (by simp) (by decide)
  rw [List.drop_zero,List.take_of_length_le (by simp)] at LA
  have F05:=F4.trans F5 (Nat.le_refl _) F4.nx (by decide)
  simp -implicitDefEqProofs (disch:=omega) [LA]
  refine radd_w O5 rfl (repJ (ks:=[]) (ps:=qs) (by decide) (by decide) (by simp) (SlO.nil _ _ _) (S5.mono (Nat.zero_le _))) r4.l fun h6 O6 F6=>?_
  refine K h6 _ O6 ?_ (F05.trans F6 (Nat.le_refl _) F05.nx (by decide))
  by_cases e:(P.list val x).2.e=0
  ·rw [hqs e]
   exact r4.add hlb
  ·exact r4.addE e
 have hb1:=hb0.pi.i0;have hb2:=hb0.pi.i1;have hb3:=hb0.pi.s1
 simp -implicitDefEqProofs (disch:=omega)
 refine loop_w (fun m e h'=>∃ (ys:RS) (v:V) (ps:List Int),e=fr p q 93 false s4 dp∧amanuensisref1_readerO (rids v++W) c h' p ys∧Bk h' q 0 0 Ty_api_Json true true [wz 6,wz 0,vs [],slnil,v]∧SlO W h0.next h' v ps∧Fz c h0.next MR h0 h'∧q<h'.next∧ps.length≤5000∧
  ((∃ (fu:Nat) (xs:St),m=(xs.s.length-xs.i).toNat+1∧m≤fu∧RR (P.blanks xs) ys∧P.Bd xs∧xs.e=0∧xs.depth=x.depth∧(ps.length:Int)≤xs.i∧(ps.length=0→P.blanks xs=xs)∧P.listL val fu xs ps=P.listL val 4000 (P.blanks x) [])
   ∨(m=0∧ys.err≠0∧RR (P.list val x).2 ys))) ?_ big (((P.blanks x).s.length-(P.blanks x).i).toNat+1) _ _ ⟨y,slnil,[],rfl,O1,B1,SlO.nil _ _ _,F1,hq1,by simp,.inl ⟨4000,P.blanks x,rfl,by omega,by rw [P.blanks_blanks x b.pi.i0];exact r,hb0,by rw [P.blanks_e];exact hx,q0.d,by simpa using hb1,fun _=>P.blanks_blanks x b.pi.i0,rfl⟩⟩ (by unfold big;omega)
 rintro m e h2 ⟨ys,v,ps,rfl,O2,B2,S2,F2,hq2,hpl,⟨fu,xs,rfl,hfu,r2,b2,he2,hd2,hpi,hps0,hL⟩ | ⟨rfl,herr,r2⟩⟩ K' Kn Kx Kr
 ·obtain ⟨fu,rfl⟩ : ∃ z,fu=z+1:=⟨fu-1,by omega⟩
  have O2':=O2
  obtain ⟨_,_,w2,C2,_⟩:=O2'
  have L2:=fun {o m}=>C2.ld (n:=6) rfl (off:=o) (lim:=m)
  have N2:=fun {o m}=>B2.ld (n:=5) rfl (off:=o) (lim:=m)
  have hes:ys.err=0:=by rw [r2.err,P.blanks_e];exact he2
  have hlen:=S2.sl.lenL
  have hs:=rsee_eq O2 r2.ri (n:=n+5)
  have hsee:R.see ys=P.see (P.blanks xs):=r2.see (by rw [P.blanks_e];exact he2)
  rw [hsee] at hs
  obtain ⟨L0,hL0⟩ : ∃ L0,L0=P.listL val 4000 (P.blanks x) []:=⟨_,rfl⟩
  rw [← hL0] at hL
  have hlist:P.list val x=(L0.2,P.take L0.1 93):=by unfold P.list;rw [← hL0]
  unfold P.listL at hL
  unfold r_reader_many_2 r_reader_many_1 r_reader_many_5
  by_cases hc:0<ps.length∨P.see xs≠93
  ·rw [if_pos ⟨he2,hc⟩] at hL
   dsimp only at hL
   have h94:9≤f+xs.depth:=by rw [hd2];exact h9
   have d8:=b2.d he2
   obtain ⟨g1,gi,ga0,ga1⟩:=VB0 xs b2 (fun _=>h94) (fun q=>absurd he2 q)
   have gp:=P.blanks_g _ g1.pi
   have go:r_reader_many_8 (run tbl (n+6)) big (fr p q 93 false s4 dp) h2 (fun x e' h'=>K' (unX 1 x) e' h')=true:=by
    refine part_w VV (ec:=93) (nm:=false) (kdv:=6) O2 r2 b2 (fun _=>by rw [hd2];exact hdp) ⟨by unfold inR;omega,by unfold inR;omega⟩ (fun _=>h94) (fun e=>absurd he2 e) B2 hq0 hq2 hpq S2 F2 hc0 (by omega) VB0 fun h3 y3 z w O3 r3 hzr hzi B3 S3 F3 G3=>?_
    have g12:=g1.l0
    have O3':=O3
    obtain ⟨_,_,w3,C3,_⟩:=O3'
    have L3:=fun {o m}=>C3.ld (n:=6) rfl (off:=o) (lim:=m)
    have hs3:=rsee_eq O3 r3.ri (n:=n+5)
    have nx3:=G3.nx
    unfold r_reader_many_6 r_reader_many_7
    by_cases he3:(val xs).2.e=0
    ·have heb:(P.blanks (val xs).2).e=0:=by rw [P.blanks_e];exact he3
     have hey:y3.err=0:=by rw [r3.err];exact heb
     rw [r3.see heb] at hs3
     rw [hzr he3] at S3
     have g2:=g1.trans gp he3
     have bb:=b2.g g2 heb
     by_cases h93:P.see (P.blanks (val xs).2)=93
     ·rw [if_neg (by rw [h93];decide)] at hL
      rw [← hL] at hlist
      have:=fin y3 _ w h3 O3 r3.ri (by rw [hlist];exact r3.takes (by decide)) (fun _=>by rw [hlist]) B3 S3 F3 (by omega)
      simp -implicitDefEqProofs (disch:=omega) [L3,hey,hs3,h93]
      refine Kx _ _ _ ?_
      simp -implicitDefEqProofs (disch:=omega)
      exact this
     ·simp -implicitDefEqProofs (disch:=omega) [L3,hey,hs3,h93]
      refine takes_w O3 r3.ri fun h4 O4 F4=>?_
      have r4:=r3.takes (c:=44) (by decide)
      refine rblanks_w O4 r4.ri fun h5 O5 F5=>?_
      have r5:=r4.blanks
      have F45:=F4.trans F5 (Nat.le_refl _) F4.nx (by decide)
      have nx5:=F45.nx
      have B5:=B3.fz F45 (by omega) (by decide)
      have S5:=S3.fz F45 (Nat.le_refl _) (by decide)
      have F05:=F3.trans F45 (Nat.le_refl _) F3.nx (by decide)
      have j0:=gp.pi.i0;have j1:=gp.pi.i1;have j2:=gp.pi.s1
      have hss:(P.blanks (val xs).2).s=xs.s:=g2.s
      have hge:=g2.ge
      have hsl:(P.blanks (val xs).2).s.length=xs.s.length:=by rw [hss]
      have hgi:=gi he2 he3
      have hge2:=gp.ge
      by_cases h44:P.see (P.blanks (val xs).2)=44
      ·rw [if_pos h44] at hL
       have e4:P.take (P.blanks (val xs).2) 44={ P.blanks (val xs).2 with i:=(P.blanks (val xs).2).i+1 }:=by unfold P.take;rw [if_neg (by simp [h44])]
       rw [e4] at r5
       have hz1:=P.see_lt gp.pi (by rw [h44];decide)
       have g3:=P.next_g gp.pi (by rw [h44];decide)
       have g123:=g2.trans g3 heb
       have bx:=b2.g g123 heb
       exact Kn _ _ _ (by show ((P.blanks (val xs).2).s.length-((P.blanks (val xs).2).i+1)).toNat+1<_;omega) ⟨_,w,_,rfl,O5,B5,S5,F05,by omega,by simp;omega,.inl ⟨fu,_,rfl,by show ((P.blanks (val xs).2).s.length-((P.blanks (val xs).2).i+1)).toNat+1≤_;omega,r5,bx,heb,by rw [g123.d];exact hd2,by show ((ps++[(val xs).1]).length:Int)≤(P.blanks (val xs).2).i+1;simp;omega,fun q=>by simp at q,by rw [← hL0];exact hL⟩⟩
      ·rw [if_neg h44] at hL
       rw [← hL] at hlist
       have e4:P.take (P.blanks (val xs).2) 44=P.bad (P.blanks (val xs).2) 4 (P.blanks (val xs).2).i:=by unfold P.take;rw [if_pos h44]
       have e93:P.take (P.blanks (val xs).2) 93=P.bad (P.blanks (val xs).2) 4 (P.blanks (val xs).2).i:=by unfold P.take;rw [if_pos h93]
       have hbad:(P.bad (P.blanks (val xs).2) 4 (P.blanks (val xs).2).i).e≠0:=P.bad_e (by decide)
       rw [e4,P.err_blanks hbad] at r5
       exact Kn 0 _ _ (by omega) ⟨_,w,_,rfl,O5,B5,S5,F05,by omega,by simp;omega,.inr ⟨rfl,by rw [r5.err];exact hbad,by rw [hlist];dsimp only;rw [e93];exact r5⟩⟩
    ·have heb:(P.blanks (val xs).2).e≠0:=by rw [P.blanks_e];exact he3
     have hey:¬ y3.err=0:=by rw [r3.err];exact heb
     have s0:P.see (P.blanks (val xs).2)=0:=r3.see0 heb
     rw [if_neg (by rw [s0];decide)] at hL
     rw [← hL] at hlist
     have:=fin y3 _ w h3 O3 r3.ri (by rw [hlist];exact r3.takes (by decide)) (fun e=>by
      rw [hlist] at e
      exact absurd e (by rw [P.err_take (by decide) heb];exact heb)) B3 S3 F3 (by omega)
     simp -implicitDefEqProofs (disch:=omega) [L3,hey]
     refine Kx _ _ _ ?_
     simp -implicitDefEqProofs (disch:=omega)
     exact this
   by_cases hz:0<ps.length
   ·have hz':(0:Int)<ps.length:=by omega
    simp -implicitDefEqProofs (disch:=omega) [L2,N2,hes,hlen,hz]
    exact go
   ·have h93:P.see xs≠93:=hc.resolve_left hz
    have hbx:=hps0 (by omega)
    rw [hbx] at hs
    simp -implicitDefEqProofs (disch:=omega) [L2,N2,hes,hlen,hz,hs,h93]
    exact go
  ·rw [if_neg (fun q=>hc q.2)] at hL
   rw [not_or] at hc
   have hz:ps.length=0:=by omega
   have hbx:=hps0 hz
   have h93:P.see (P.blanks xs)=93:=by rw [hbx];exact Decidable.not_not.1 hc.2
   have hz':¬ (0:Int)<ps.length:=by omega
   rw [← hL] at hlist
   have:=fin ys ps v h2 O2 r2.ri (by rw [hlist];have:=r2.takes (c:=93) (by decide);rw [hbx] at this;exact this) (fun _=>by rw [hlist]) B2 S2 F2 hq2
   simp -implicitDefEqProofs (disch:=omega) [L2,N2,hes,hlen,hz,hs,h93]
   refine Kx _ _ _ ?_
   simp -implicitDefEqProofs (disch:=omega)
   exact this
 ·have O2':=O2
  obtain ⟨_,_,w2,C2,_⟩:=O2'
  have L2:=fun {o m}=>C2.ld (n:=6) rfl (off:=o) (lim:=m)
  unfold r_reader_many_2 r_reader_many_1
  have ht:R.takes ys 93=ys:=by unfold R.takes;rw [if_pos herr]
  have:=fin ys ps v h2 O2 r2.ri (by rw [ht];exact r2) (fun e=>absurd (by rw [r2.err];exact e) herr) B2 S2 F2 hq2
  simp -implicitDefEqProofs (disch:=omega) [L2,herr]
  refine Kx _ _ _ ?_
  simp -implicitDefEqProofs (disch:=omega)
  exact this
end Go.Bvm.JN
set_option linter.unusedVariables false
set_option linter.unusedSimpArgs false
set_option maxRecDepth 20000
namespace Go.Bvm.JN
open Go.Bvm
theorem rswap_o {A B W:List Nat} {c:Nat} {h:H} {p:Nat} {x:RS} (O:amanuensisref1_readerO (A++(B++W)) c h p x):amanuensisref1_readerO (B++(A++W)) c h p x:=
 O.xm (fun i a b=>absurd (by simp only [List.mem_append] at a ⊢;rcases a with a | a | a <;> simp [a]) b) fun j a=>O.2.1.2 j (by simp only [List.mem_append] at a ⊢;rcases a with a | a | a <;> simp [a])
theorem rgrown_o {W:List Nat} {c:Nat} {h h':H} {p:Nat} {x:RS} {v w:V} (O:amanuensisref1_readerO (rids v++W) c h p x) (g:Grown v h h') (gw:∀ j,j∈rids w→j∈rids v∨h.next≤j) (hw:∀ j,j∈rids w→j<h'.next) (hW:∀ j,j∈W→j<h.next):amanuensisref1_readerO (rids w++W) c h' p x:=by
 have n1:=g.1
 refine O.gxx n1 (fun i a b=>?_) (fun j a=>?_) fun id a b k=>g.2 id a fun q=>b (List.mem_append.2 (.inl q))
 ·rcases List.mem_append.1 a with q | q
  ·rcases gw i q with z | z
   ·exact absurd (List.mem_append.2 (.inl z)) b
   ·exact z
  ·exact absurd (List.mem_append.2 (.inr q)) b
 ·rcases List.mem_append.1 a with q | q
  ·exact hw j q
  ·have:=hW j q;omega
theorem rname_w {W:List Nat} {c:Nat} {h0 h1:H} {p q:Nat} {x:St} {y:RS} {n:Nat} {s4 u v:V} {dp:Int} {ks:List Str} {K3:KX}
  (O1:amanuensisref1_readerO (rids u++W) c h1 p y) (r:RR (P.blanks x) y) (hx:x.e=0) (B1:Bk h1 q 0 0 Ty_api_Json true true [wz 7,wz 0,vs [],u,v]) (hq0:h0.next≤q) (hq1:q<h1.next)
  (S1:SlO W h0.next h1 u ks) (F1:Fz c h0.next MR h0 h1) (hc0:c≤h0.next) (hks:ks.length≤100000)
  (K:∀ h' y' s w,amanuensisref1_readerO (rids w++W) c h' p y'→RR (P.blanks (P.name x ks).2) y'→((P.name x ks).2.e=0→s=(P.name x ks).1)→Bk h' q 0 0 Ty_api_Json true true [wz 7,wz 0,vs [],w,v]→SlO W h0.next h' w (ks++[s])→Fz c h0.next MR h0 h'→Fz c h1.next (kR Ty_string::kO Ty_api_Json::MR) h1 h'→K3 X.n (fr p q 125 true (vs s) dp) h'=true) :
  r_reader_many_5 (run tbl (n+6)) big (fr p q 125 true s4 dp) h1 K3=true:=by
 have nx1:=F1.nx
 have hX1:=O1.2.1.2
 have O1':=O1
 obtain ⟨_,_,w1,C1,_⟩:=O1'
 have L1:=fun {o m}=>C1.ld (n:=6) rfl (off:=o) (lim:=m)
 obtain ⟨xb,hxb⟩ : ∃ xb,xb=P.blanks x:=⟨_,rfl⟩
 rw [← hxb] at r
 have hbe:xb.e=0:=by rw [hxb,P.blanks_e];exact hx
 have hat:=r.at_ hbe
 obtain ⟨z1,hz1⟩ : ∃ z1,z1=if P.see xb=34 then (if (P.text xb).1∈ks then P.bad (P.text xb).2 4 xb.i else (P.text xb).2) else P.bad xb 4 xb.i:=⟨_,rfl⟩
 have hnm:(P.name x ks).2=P.take (P.blanks z1) 58:=by
  unfold P.name
  dsimp only
  rw [← hxb,hz1]
  by_cases e:P.see xb=34
  ·rw [if_pos e,if_pos e]
  ·rw [if_neg e,if_neg e,P.err_blanks (P.bad_e (by decide)),P.err_take (by decide) (P.bad_e (by decide))]
 have hnm1:P.see xb=34→(P.name x ks).1=(P.text xb).1:=fun e=>by
  unfold P.name
  dsimp only
  rw [← hxb,if_pos e]
 have tail:∀ (h3:H) (y3:RS) (s:Str),amanuensisref1_readerO (rids u++W) c h3 p y3→RR z1 y3→(z1.e=0→s=(P.name x ks).1)→s.length≤3000→Fz c h1.next MR h1 h3→r_reader_many_4 (run tbl (n+6)) big (fr p q 125 true (vs s) dp) h3 K3=true:=by
  intro h3 y3 s O3 r3 hs hsl F3
  have nx3:=F3.nx
  have B3:=B1.fz F3 (by omega) (by decide)
  have S3:=S1.fz F3 (Nat.le_refl _) (by decide)
  have N3:=fun {o m}=>B3.ld (n:=5) rfl (off:=o) (lim:=m)
  have hX3:=O3.2.1.2
  unfold r_reader_many_4
  simp -implicitDefEqProofs (disch:=omega) [N3]
  refine S3.app1 (x:=s) ⟨rfl,Nat.le_trans hsl (by decide)⟩ (by decide) rfl (by decide) (by show (ks.length+1)*1≤_;omega) (by omega) (fun j hj=>hX3 j (List.mem_append.2 (.inr hj))) (by decide) fun h4 w S4 g4 gw4 F4=>?_
  have nx4:=g4.1
  have O4:=rgrown_o O3 g4 gw4 (fun j hj=>(S4.rids hj).2.1) fun j hj=>hX3 j (List.mem_append.2 (.inr hj))
  have B4:=B3.fz F4 (by omega) (by decide)
  refine st_w B4 (by simp) (by decide) S4.sl.one fun h5 n5 B5 x5=>?_
  have F5:Fz 0 h4.next [kO Ty_api_Json] h4 h5:=(Fz.refl 0 h4.next _ h4).put x5 (Nat.zero_le _) (.inr (by rw [B4.kd];exact List.mem_cons_self))
  have F5':Fz h0.next h4.next [kO Ty_api_Json] h4 h5:=(Fz.refl h0.next h4.next _ h4).put x5 hq0 (.inr (by rw [B4.kd];exact List.mem_cons_self))
  have O5:=O4.fz F5 (Nat.le_refl _) (by decide)
  have S5:=S4.fz F5 (Nat.le_refl _) (by decide)
  have nx5:h4.next≤h5.next:=F5.nx
  refine rblanks_w (n:=n+4) O5 r3.ri fun h6 O6 F6=>?_
  have r6:=r3.blanks
  have nx6:=F6.nx
  refine takes_w (n:=n+4) O6 r6.ri fun h7 O7 F7=>?_
  have r7:=r6.takes (c:=58) (by decide)
  have nx7:=F7.nx
  refine rblanks_w (n:=n+4) O7 r7.ri fun h8 O8 F8=>?_
  have r8:=r7.blanks
  rw [← hnm] at r8
  have F58:=(F6.trans F7 (Nat.le_refl _) nx6 (by decide)).trans F8 (Nat.le_refl _) (by omega) (by decide)
  have nx8:=F58.nx
  refine K h8 _ s w O8 r8 (fun e=>hs ?_) (B5.fz F58 (by omega) (by decide)) (S5.fz F58 (Nat.le_refl _) (by decide)) ?_ ?_
  ·rw [hnm] at e
   have:=(P.take_e e).1
   rwa [P.blanks_e] at this
  ·exact ((((F1.trans F3 (Nat.le_refl _) nx1 (by decide)).loc (F4.mono (c:=h0.next) (b:=h0.next) (Nat.le_refl _) (by omega) (fun _ k=>k)) hc0 (Nat.le_refl _)).loc F5' hc0 (Nat.le_refl _))).trans F58 (Nat.le_refl _) (by omega) (by decide)
  ·exact (((Fz.refl c h1.next (kR Ty_string::kO Ty_api_Json::MR) h1).trans F3 (Nat.le_refl _) (Nat.le_refl _) (fun _ k=>List.mem_cons_of_mem _ (List.mem_cons_of_mem _ k))).trans F4 hc0 (by omega) (by decide)).trans F5' hc0 (by omega) (by decide) |>.trans F58 (Nat.le_refl _) (by omega) (fun _ k=>List.mem_cons_of_mem _ (List.mem_cons_of_mem _ k))
 unfold r_reader_many_5
 simp -implicitDefEqProofs (disch:=omega) [L1]
 refine rtext_w (n:=n+3) O1 r fun h2 y2 s O2 r2 hs2 hsl F2=>?_
 have nx2:=F2.nx
 have O2':=O2
 obtain ⟨_,_,w2,C2,_⟩:=O2'
 have L2:=fun {o m}=>C2.ld (n:=6) rfl (off:=o) (lim:=m)
 have B2:=B1.fz F2 (by omega) (by decide)
 have N2:=fun {o m}=>B2.ld (n:=5) rfl (off:=o) (lim:=m)
 have S2:=S1.fz F2 (Nat.le_refl _) (by decide)
 unfold r_reader_many_3
 by_cases e2:(P.qtext xb).2.e=0
 ·have c34:P.see xb=34:=by
   by_cases e:P.see xb=34
   ·exact e
   ·unfold P.qtext at e2
    rw [if_neg e] at e2
    exact absurd e2 (P.bad_e (by decide))
  have hq:P.qtext xb=P.text xb:=by unfold P.qtext;rw [if_pos c34]
  have hs:=hs2 hbe e2
  rw [hq] at r2 hs e2
  rw [if_pos c34] at hz1
  have hes:y2.err=0:=by rw [r2.err];exact e2
  by_cases hin:s∈ks
  ·have hhas:∀ k,k (.t true) h2=true→run tbl (n+6) Nf_z_Has (vl [u,vs s]) h2 k=true:=fun k hk=>has_w (n:=n+5) S2.sl (by omega) (by rw [decide_eq_true hin];exact hk)
   simp -implicitDefEqProofs (disch:=omega) [L2,N2,hes]
   refine hhas _ ?_
   simp -implicitDefEqProofs (disch:=omega)
   rw [hat]
   have:=r.ri.i0;have:=r.ri.i1;have:=r.ri.s1
   refine fails_w (n:=n+5) O2 (by decide) (by unfold inR;omega) fun h3 O3 F3=>?_
   exact tail h3 _ s O3 (by rw [hz1,if_pos (by rw [← hs];exact hin)];exact r2.fails (by decide) fun _=>rfl) (fun _=>by rw [hnm1 c34];exact hs) hsl (F2.trans F3 (Nat.le_refl _) nx2 (by decide))
  ·have hhas:∀ k,k (.t false) h2=true→run tbl (n+6) Nf_z_Has (vl [u,vs s]) h2 k=true:=fun k hk=>has_w (n:=n+5) S2.sl (by omega) (by rw [decide_eq_false hin];exact hk)
   simp -implicitDefEqProofs (disch:=omega) [L2,N2,hes]
   refine hhas _ ?_
   simp -implicitDefEqProofs (disch:=omega)
   exact tail h2 _ s O2 (by rw [hz1,if_neg (by rw [← hs];exact hin)];exact r2) (fun _=>by rw [hnm1 c34];exact hs) hsl F2
 ·have hes:¬ y2.err=0:=by rw [r2.err];exact e2
  have hzz:z1=(P.qtext xb).2:=by
   rw [hz1]
   unfold P.qtext at e2 ⊢
   by_cases c34:P.see xb=34
   ·rw [if_pos c34] at e2 ⊢
    rw [if_pos c34]
    split
    ·exact P.err_bad e2
    ·rfl
   ·rw [if_neg c34] at e2 ⊢
    rw [if_neg c34]
  simp -implicitDefEqProofs (disch:=omega) [L2,N2,hes]
  exact tail h2 _ s O2 (by rw [hzz];exact r2) (fun e=>absurd (by rw [hzz] at e;exact e) e2) hsl F2
end Go.Bvm.JN
set_option linter.unusedVariables false
set_option linter.unusedSimpArgs false
set_option maxRecDepth 20000
namespace Go.Bvm.JN
open Go.Bvm
theorem sl_xd {W B:List Nat} {c:Nat} {h:H} {v:V} {ps:List Int} (S:SlO W c h v ps) (hB:∀ j,j∈B→kd (hget j h.tr)≠kR Ty_int):SlO (B++W) c h v ps:=by
 obtain ⟨cs,⟨hn,hl,q⟩,A⟩:=S
 refine ⟨cs,⟨hn,hl,?_⟩,⟨A.1,A.2⟩⟩
 rcases q with q | ⟨id,ver,e,hci,hid,Bk⟩
 ·exact .inl q
 ·refine .inr ⟨id,ver,e,hci,⟨hid.1,fun hm=>?_⟩,Bk⟩
  rcases List.mem_append.1 hm with z | z
  ·exact hB id z Bk.kd
  ·exact hid.2 z
theorem sl_xds {W B:List Nat} {c:Nat} {h:H} {v:V} {ps:List Str} (S:SlO W c h v ps) (hB:∀ j,j∈B→kd (hget j h.tr)≠kR Ty_string):SlO (B++W) c h v ps:=by
 obtain ⟨cs,⟨hn,hl,q⟩,A⟩:=S
 refine ⟨cs,⟨hn,hl,?_⟩,⟨A.1,A.2⟩⟩
 rcases q with q | ⟨id,ver,e,hci,hid,Bk⟩
 ·exact .inl q
 ·refine .inr ⟨id,ver,e,hci,⟨hid.1,fun hm=>?_⟩,Bk⟩
  rcases List.mem_append.1 hm with z | z
  ·exact hB id z Bk.kd
  ·exact hid.2 z
theorem rpairs_w {W:List Nat} {c:Nat} {h0 h1:H} {p q:Nat} {x:St} {y:RS} {n f:Nat} {val:P.VF} (VV:RSpec (n+6) f val) (VB0:P.VB f val) {dp:Int} {k:KV} (s4:V)
  (O1:amanuensisref1_readerO W c h1 p y) (r:RR (P.blanks x) y) (b:P.Bd x) (hx:x.e=0) (hdp:dp+1=x.depth) (h9:9≤f+x.depth) (B1:Bk h1 q 0 0 Ty_api_Json true true [wz 7,wz 0,vs [],slnil,slnil]) (hq0:h0.next≤q) (hq1:q<h1.next) (hpq:p≠q)
  (F1:Fz c h0.next MR h0 h1) (hc0:c≤h0.next)
  (K:∀ h' y',amanuensisref1_readerO W c h' p y'→RR (P.add (P.pairs val x).2 ⟨7,0,[],(P.pairs val x).1.1,(P.pairs val x).1.2⟩) y'→Fz c h0.next MR h0 h'→k tup0 h'=true) :
  seqM (blockM 0 (loopM big (seqM (r_reader_many_2 (run tbl (n+6)) big) (blockM 1 (seqM (r_reader_many_5 (run tbl (n+6)) big) (r_reader_many_8 (run tbl (n+6)) big)))))) (r_reader_many_9 (run tbl (n+6)) big) (fr p q 125 true s4 dp) h1 (fun x e h=>finK (fun e h k=>k tup0) k x e h)=true:=by
 have q0:=P.blanks_q x b.pi
 have hb0:=b.q q0 (by rw [P.blanks_e];exact id)
 have hd8:=b.d hx
 have hd0:=b.d0
 have hgl:=P.pairs_g VB0 x b fun _=>h9
 have hlb:(P.pairs val x).2.e=0→(P.pairs val x).2.l.length<1000000:=fun e=>by
  have h1:=hgl.l0 e;have h2:=b.l;have h3:=hgl.pi.i1;rw [hgl.s] at h3;omega
 have fin:∀ (y4:RS) (rs:List Str) (qs:List Int) (s4 u w:V) (h4:H),amanuensisref1_readerO (rids u++(rids w++W)) c h4 p y4→RI y4→RR (P.pairs val x).2 (R.takes y4 125)→((P.pairs val x).2.e=0→rs=(P.pairs val x).1.1∧qs=(P.pairs val x).1.2)→Bk h4 q 0 0 Ty_api_Json true true [wz 7,wz 0,vs [],u,w]→SlO W h0.next h4 u rs→SlO W h0.next h4 w qs→Fz c h0.next MR h0 h4→q<h4.next→r_reader_many_9 (run tbl (n+6)) big (fr p q 125 true s4 dp) h4 (fun x e h=>finK (fun e h k=>k tup0) k x e h)=true:=by
  intro y4 rs qs s4 u w h4 O4 I4 r4 hqs B4 T4 S4 F4 hq4
  have O4':=O4.xm (X':=W) (fun i a b=>absurd (by simp [a]) b) fun j hj=>O4.2.1.2 j (by simp [hj])
  unfold r_reader_many_9
  simp -implicitDefEqProofs (disch:=omega)
  refine takes_w O4' I4 fun h5 O5 F5=>?_
  have nx5:=F5.nx
  have B5:=B4.fz F5 (by omega) (by decide)
  have S5:=S4.fz F5 (Nat.le_refl _) (by decide)
  have T5:=T4.fz F5 (Nat.le_refl _) (by decide)
  have LA:=B5.lda rfl (n:=5) (off:=0) (lim:=5) (by simp) (by decide)
  rw [List.drop_zero,List.take_of_length_le (by simp)] at LA
  have F05:=F4.trans F5 (Nat.le_refl _) F4.nx (by decide)
  simp -implicitDefEqProofs (disch:=omega) [LA]
  refine radd_w O5 rfl (repJ (ks:=rs) (ps:=qs) (by decide) (by decide) (by simp) (T5.mono (Nat.zero_le _)) (S5.mono (Nat.zero_le _))) r4.l fun h6 O6 F6=>?_
  refine K h6 _ O6 ?_ (F05.trans F6 (Nat.le_refl _) F05.nx (by decide))
  by_cases e:(P.pairs val x).2.e=0
  ·obtain ⟨e1,e2⟩:=hqs e
   rw [e1,e2]
   exact r4.add hlb
  ·exact r4.addE e
 have hb1:=hb0.pi.i0;have hb2:=hb0.pi.i1;have hb3:=hb0.pi.s1
 simp -implicitDefEqProofs (disch:=omega)
 refine loop_w (fun m e h'=>∃ (ys:RS) (s4 u v:V) (ks:List Str) (ps:List Int),e=fr p q 125 true s4 dp∧amanuensisref1_readerO (rids u++(rids v++W)) c h' p ys∧Bk h' q 0 0 Ty_api_Json true true [wz 7,wz 0,vs [],u,v]∧SlO W h0.next h' u ks∧SlO W h0.next h' v ps∧Fz c h0.next MR h0 h'∧q<h'.next∧ps.length≤5000∧ks.length=ps.length∧
  ((∃ (fu:Nat) (xs:St),m=(xs.s.length-xs.i).toNat+1∧m≤fu∧RR (P.blanks xs) ys∧P.Bd xs∧xs.e=0∧xs.depth=x.depth∧(ps.length:Int)≤xs.i∧(ps.length=0→P.blanks xs=xs)∧P.pairsL val fu xs ks ps=P.pairsL val 4000 (P.blanks x) [] [])
   ∨(m=0∧ys.err≠0∧RR (P.pairs val x).2 ys))) ?_ big (((P.blanks x).s.length-(P.blanks x).i).toNat+1) _ _ ⟨y,s4,slnil,slnil,[],[],rfl,O1,B1,SlO.nil _ _ _,SlO.nil _ _ _,F1,hq1,by simp,rfl,.inl ⟨4000,P.blanks x,rfl,by omega,by rw [P.blanks_blanks x b.pi.i0];exact r,hb0,by rw [P.blanks_e];exact hx,q0.d,by simpa using hb1,fun _=>P.blanks_blanks x b.pi.i0,rfl⟩⟩ (by unfold big;omega)
 rintro m e h2 ⟨ys,s4,u,v,ks,ps,rfl,O2,B2,T2,S2,F2,hq2,hpl,hkp,⟨fu,xs,rfl,hfu,r2,b2,he2,hd2,hpi,hps0,hL⟩ | ⟨rfl,herr,r2⟩⟩ K' Kn Kx Kr
 ·obtain ⟨fu,rfl⟩ : ∃ z,fu=z+1:=⟨fu-1,by omega⟩
  have O2':=O2
  obtain ⟨_,_,w2,C2,_⟩:=O2'
  have L2:=fun {o m}=>C2.ld (n:=6) rfl (off:=o) (lim:=m)
  have N2:=fun {o m}=>B2.ld (n:=5) rfl (off:=o) (lim:=m)
  have hes:ys.err=0:=by rw [r2.err,P.blanks_e];exact he2
  have hlen:=S2.sl.lenL
  have hs:=rsee_eq O2 r2.ri (n:=n+5)
  have hsee:R.see ys=P.see (P.blanks xs):=r2.see (by rw [P.blanks_e];exact he2)
  rw [hsee] at hs
  obtain ⟨L0,hL0⟩ : ∃ L0,L0=P.pairsL val 4000 (P.blanks x) [] []:=⟨_,rfl⟩
  rw [← hL0] at hL
  have hlist:P.pairs val x=(L0.2,P.take L0.1 125):=by unfold P.pairs;rw [← hL0]
  unfold P.pairsL at hL
  unfold r_reader_many_2 r_reader_many_1
  by_cases hc:0<ps.length∨P.see xs≠125
  ·rw [if_pos ⟨he2,hc⟩] at hL
   dsimp only at hL
   have h94:9≤f+xs.depth:=by rw [hd2];exact h9
   have d8:=b2.d he2
   obtain ⟨qn,hnl⟩:=P.name_q xs ks b2.pi
   have bn:=b2.q qn P.name_e
   have gn:=P.name_g xs ks b2.pi
   obtain ⟨t,ht⟩ : ∃ t,t=P.name xs ks:=⟨_,rfl⟩
   rw [← ht] at hL qn hnl bn gn
   obtain ⟨g1,gi,ga0,ga1⟩:=VB0 t.2 bn (fun _=>by rw [qn.d];exact h94) (fun _=>by omega)
   have gp:=P.blanks_g _ g1.pi
   have go:r_reader_many_5 (run tbl (n+6)) big (fr p q 125 true s4 dp) h2 (fun x e' h'=>X.rec (motive:=fun _=>Bool) (r_reader_many_8 (run tbl (n+6)) big e' h' fun x e' h'=>K' (unX 1 x) e' h') (fun i=>K' (unX 1 (X.x i)) e' h') (K' X.r e' h') x)=true:=by
    refine rname_w O2 r2 he2 B2 hq0 hq2 (sl_xds T2 fun j hj=>by rw [(S2.rids hj).2.2.2];decide) F2 hc0 (by omega) fun h3 y3 s w O3 r3 hsn B3 T3 F3 G3=>?_
    rw [← ht] at r3 hsn
    have nx3:=G3.nx
    have S3:=S2.fz G3 (Nat.le_refl _) (by decide)
    have S3':SlO (rids w++W) h0.next h3 v ps:=sl_xd S3 fun j hj=>by rw [(T3.rids hj).2.2.2];decide
    simp -implicitDefEqProofs (disch:=omega)
    refine part_w VV (ec:=125) (nm:=true) (kdv:=7) (W:=rids w++W) (rswap_o O3) r3 bn (fun _=>by rw [qn.d,hd2];exact hdp) ⟨by unfold inR;omega,by unfold inR;omega⟩ (fun _=>by rw [qn.d];exact h94) (fun _=>by omega) B3 hq0 (by omega) hpq S3' F3 hc0 (by omega) VB0 fun h4 y4 z v4 O4 r4 hzr hzi B4 S4 F4 G4=>?_
    have nx4:=G4.nx
    have O4s:=rswap_o O4
    have S4':SlO W h0.next h4 v4 (ps++[z]):=S4.xm fun i a b=>absurd (List.mem_append.2 (.inr a)) b
    have T3':SlO W h0.next h3 w (ks++[s]):=T3.xm fun i a b=>absurd (List.mem_append.2 (.inr a)) b
    have T4:=T3'.fz G4 (Nat.le_refl _) (by decide)
    have g12:=g1.l0
    have O4':=O4
    obtain ⟨_,_,w4,C4,_⟩:=O4'
    have L4:=fun {o m}=>C4.ld (n:=6) rfl (off:=o) (lim:=m)
    have hs4:=rsee_eq O4 r4.ri (n:=n+5)
    unfold r_reader_many_6 r_reader_many_7
    by_cases he3:(val t.2).2.e=0
    ·have heb:(P.blanks (val t.2).2).e=0:=by rw [P.blanks_e];exact he3
     have hey:y4.err=0:=by rw [r4.err];exact heb
     rw [r4.see heb] at hs4
     have het:t.2.e=0:=g1.e he3
     rw [hzr he3] at S4'
     rw [hsn het] at T4
     have g2:=g1.trans gp he3
     have bb:=bn.g g2 heb
     by_cases h93:P.see (P.blanks (val t.2).2)=125
     ·rw [if_neg (by rw [h93];decide)] at hL
      rw [← hL] at hlist
      have:=fin y4 _ _ (vs s) w v4 h4 O4s r4.ri (by rw [hlist];exact r4.takes (by decide)) (fun _=>by rw [hlist];exact ⟨rfl,rfl⟩) B4 T4 S4' F4 (by omega)
      simp -implicitDefEqProofs (disch:=omega) [L4,hey,hs4,h93]
      refine Kx _ _ _ ?_
      simp -implicitDefEqProofs (disch:=omega)
      exact this
     ·simp -implicitDefEqProofs (disch:=omega) [L4,hey,hs4,h93]
      refine takes_w O4s r4.ri fun h5 O5 F5=>?_
      have r5:=r4.takes (c:=44) (by decide)
      refine rblanks_w O5 r5.ri fun h6 O6 F6=>?_
      have r6:=r5.blanks
      have F56:=F5.trans F6 (Nat.le_refl _) F5.nx (by decide)
      have nx6:=F56.nx
      have B6:=B4.fz F56 (by omega) (by decide)
      have S6:=S4'.fz F56 (Nat.le_refl _) (by decide)
      have T6:=T4.fz F56 (Nat.le_refl _) (by decide)
      have F06:=F4.trans F56 (Nat.le_refl _) F4.nx (by decide)
      have j0:=gp.pi.i0;have j1:=gp.pi.i1;have j2:=gp.pi.s1
      have hss:(P.blanks (val t.2).2).s=xs.s:=g2.s.trans qn.s
      have hsl:(P.blanks (val t.2).2).s.length=xs.s.length:=by rw [hss]
      have hge:=g2.ge
      have hgn:=qn.ge
      have hgi:=gi het he3
      have hge2:=gp.ge
      by_cases h44:P.see (P.blanks (val t.2).2)=44
      ·rw [if_pos h44] at hL
       have e4:P.take (P.blanks (val t.2).2) 44={ P.blanks (val t.2).2 with i:=(P.blanks (val t.2).2).i+1 }:=by unfold P.take;rw [if_neg (by simp [h44])]
       rw [e4] at r6
       have hz1:=P.see_lt gp.pi (by rw [h44];decide)
       have g3:=P.next_g gp.pi (by rw [h44];decide)
       have g123:=g2.trans g3 heb
       have bx:=bn.g g123 heb
       exact Kn _ _ _ (by show ((P.blanks (val t.2).2).s.length-((P.blanks (val t.2).2).i+1)).toNat+1<_;omega) ⟨_,vs s,w,v4,_,_,rfl,O6,B6,T6,S6,F06,by omega,by simp;omega,by simp;omega,.inl ⟨fu,_,rfl,by show ((P.blanks (val t.2).2).s.length-((P.blanks (val t.2).2).i+1)).toNat+1≤_;omega,r6,bx,heb,by rw [g123.d,qn.d];exact hd2,by show ((ps++[(val t.2).1]).length:Int)≤(P.blanks (val t.2).2).i+1;simp;omega,fun q=>by simp at q,by rw [← hL0];exact hL⟩⟩
      ·rw [if_neg h44] at hL
       rw [← hL] at hlist
       have e4:P.take (P.blanks (val t.2).2) 44=P.bad (P.blanks (val t.2).2) 4 (P.blanks (val t.2).2).i:=by unfold P.take;rw [if_pos h44]
       have e93:P.take (P.blanks (val t.2).2) 125=P.bad (P.blanks (val t.2).2) 4 (P.blanks (val t.2).2).i:=by unfold P.take;rw [if_pos h93]
       have hbad:(P.bad (P.blanks (val t.2).2) 4 (P.blanks (val t.2).2).i).e≠0:=P.bad_e (by decide)
       rw [e4,P.err_blanks hbad] at r6
       exact Kn 0 _ _ (by omega) ⟨_,vs s,w,v4,_,_,rfl,O6,B6,T6,S6,F06,by omega,by simp;omega,by simp;omega,.inr ⟨rfl,by rw [r6.err];exact hbad,by rw [hlist];dsimp only;rw [e93];exact r6⟩⟩
    ·have heb:(P.blanks (val t.2).2).e≠0:=by rw [P.blanks_e];exact he3
     have hey:¬ y4.err=0:=by rw [r4.err];exact heb
     have s0:P.see (P.blanks (val t.2).2)=0:=r4.see0 heb
     rw [if_neg (by rw [s0];decide)] at hL
     rw [← hL] at hlist
     have:=fin y4 _ _ (vs s) w v4 h4 O4s r4.ri (by rw [hlist];exact r4.takes (by decide)) (fun e=>by
      rw [hlist] at e
      exact absurd e (by rw [P.err_take (by decide) heb];exact heb)) B4 T4 S4' F4 (by omega)
     simp -implicitDefEqProofs (disch:=omega) [L4,hey]
     refine Kx _ _ _ ?_
     simp -implicitDefEqProofs (disch:=omega)
     exact this
   by_cases hz:0<ps.length
   ·have hz':(0:Int)<ps.length:=by omega
    simp -implicitDefEqProofs (disch:=omega) [L2,N2,hes,hlen,hz]
    exact go
   ·have h93:P.see xs≠125:=hc.resolve_left hz
    have hbx:=hps0 (by omega)
    rw [hbx] at hs
    simp -implicitDefEqProofs (disch:=omega) [L2,N2,hes,hlen,hz,hs,h93]
    exact go
  ·rw [if_neg (fun q=>hc q.2)] at hL
   rw [not_or] at hc
   have hz:ps.length=0:=by omega
   have hbx:=hps0 hz
   have h93:P.see (P.blanks xs)=125:=by rw [hbx];exact Decidable.not_not.1 hc.2
   have hz':¬ (0:Int)<ps.length:=by omega
   rw [← hL] at hlist
   have:=fin ys ks ps s4 u v h2 O2 r2.ri (by rw [hlist];have:=r2.takes (c:=125) (by decide);rw [hbx] at this;exact this) (fun _=>by rw [hlist];exact ⟨rfl,rfl⟩) B2 T2 S2 F2 hq2
   simp -implicitDefEqProofs (disch:=omega) [L2,N2,hes,hlen,hz,hs,h93]
   refine Kx _ _ _ ?_
   simp -implicitDefEqProofs (disch:=omega)
   exact this
 ·have O2':=O2
  obtain ⟨_,_,w2,C2,_⟩:=O2'
  have L2:=fun {o m}=>C2.ld (n:=6) rfl (off:=o) (lim:=m)
  unfold r_reader_many_2 r_reader_many_1
  have ht:R.takes ys 125=ys:=by unfold R.takes;rw [if_pos herr]
  have:=fin ys ks ps s4 u v h2 O2 r2.ri (by rw [ht];exact r2) (fun e=>absurd (by rw [r2.err];exact e) herr) B2 T2 S2 F2 hq2
  simp -implicitDefEqProofs (disch:=omega) [L2,herr]
  refine Kx _ _ _ ?_
  simp -implicitDefEqProofs (disch:=omega)
  exact this
end Go.Bvm.JN
set_option linter.unusedVariables false
set_option linter.unusedSimpArgs false
set_option maxRecDepth 20000
namespace Go.Bvm.JN
open Go.Bvm
theorem RR.dep {x:St} {y:RS} (r:RR x y) (d:Int):RR { x with depth:=d } y:=
 ⟨r.ri,⟨r.pi.i0,r.pi.i1,r.pi.s1⟩,r.s,r.err,r.l,r.b,r.at_,r.ok,r.er⟩
theorem many_w {W:List Nat} {c:Nat} {h:H} {p:Nat} {x:St} {y:RS} {k:KV} {n f:Nat} {val:P.VF} (VV:RSpec (n+6) f val) (VB0:P.VB f val) (O:amanuensisref1_readerO W c h p y) (r:RR (P.begin_ x true) y) (b:P.Bd x) (he:(P.begin_ x true).e=0) {cc:UInt8} (hcc:cc=91∨cc=123) (hs:P.see x=cc) (h9:9≤f+1+x.depth)
  (K:∀ h' y',amanuensisref1_readerO W c h' p y'→RR (P.add (P.nested val x cc).2 (P.nested val x cc).1) y'→Fz c h.next MR h h'→k tup0 h'=true):run tbl (n+7) Nf_r_reader_many (vl [pr p,wz x.depth,.t (decide (cc=123))]) h k=true:=by
 have hcp:=O.1
 have hc0:cc≠0:=by rcases hcc with e | e <;> (rw [e];decide)
 obtain ⟨hxe,h300,h8⟩:=P.begin_e he
 obtain ⟨o1,o2,o3,o4,o5,o6,o7⟩:=P.open_q x cc hc0 b.pi
 have q2:=P.begin_q x true b.pi
 have hsb:P.see (P.begin_ x true)=cc:=by
  rw [← hs]
  unfold P.see
  rw [q2.2.2.1,q2.2.1,if_neg (by simp [he]),if_neg (by simp [hxe])]
 have ht:P.take (P.begin_ x true) cc={ P.begin_ x true with i:=(P.begin_ x true).i+1 }:=by unfold P.take;rw [if_neg (by simp [hsb])]
 have lt:=(P.see_lt q2.1 (by rw [hsb];exact hc0)).2
 have hoe:(P.open_ x cc).e=0:=by show (P.take (P.begin_ x true) cc).e=0;rw [ht];exact he
 have hb:=b.b hxe;have hd8:=b.d hxe;have hb0:=b.b0;have hd0:=b.d0;have hl:=b.l;have hi:=b.pi.i1;have hi0:=b.pi.i0
 have bo:P.Bd (P.open_ x cc):=⟨o1,by rw [o4,o3];omega,by omega,fun e=>by have:=(o7 e).2.1;rw [o3];omega,by omega,by omega,fun e=>by have:=(o7 e).2.2.2;omega⟩
 have ho:9≤f+(P.open_ x cc).depth:=by omega
 have hat:=r.at_ he
 have O0:=O
 obtain ⟨_,_,w0,C0,_⟩:=O0
 rw [run_succ,tbl_r_reader_many]
 unfold T_r_reader_many r_reader_many_11
 simp -implicitDefEqProofs (disch:=omega)
 refine newA_w rfl (by decide) (by decide) fun h1 n1 B1 x1=>?_
 have E1:Ex h h1:=x1.ex (Nat.le_refl _)
 have hn1:h1.next=h.next+1:=n1
 refine sta_w B1 rfl (by simp) (by decide) fun h2 n2 B2 x2=>?_
 have hlp:lput [wz 0,wz 0,vs [],slnil,slnil] 0 [wz 6,wz 0,vs [],slnil,slnil]=[wz 6,wz 0,vs [],slnil,slnil]:=rfl
 rw [hlp] at B2
 have E2:Fz h.next h.next [] h h2:=E1.put x2 (Nat.le_refl _) (.inl (Nat.le_refl _))
 have hn2:h2.next=h.next+1:=by omega
 have hmv:RR { P.begin_ x true with i:=(P.begin_ x true).i+1 } { y with at_:=(P.begin_ x true).i+1 }:=r.moved he (by have:=q2.1.i0;omega) (by omega)
 have hop:RR (P.open_ x cc) { y with at_:=(P.begin_ x true).i+1 }:=by
  have:P.open_ x cc={ P.take (P.begin_ x true) cc with depth:=(P.take (P.begin_ x true) cc).depth+1 }:=rfl
  rw [this,ht]
  exact hmv.dep _
 have main:∀ (kdv:Int) (ec:UInt8) (h3:H),h3.next=h.next+1→Bk h3 h.next 0 0 Ty_api_Json true true [wz kdv,wz 0,vs [],slnil,slnil]→Fz h.next h.next [] h h3→(cc=91→kdv=6∧ec=93)→(cc=123→kdv=7∧ec=125)→r_reader_many_10 (run tbl (n+6)) big (fr p h.next ec (decide (cc=123)) V.u x.depth) h3 (fun x e h=>finK (fun e h k=>k tup0) k x e h)=true:=by
  intro kdv ec h3 n3 B3 E3 c91 c123
  have O3:=O.fz E3 (Nat.le_refl _) (by decide)
  have O3':=O3
  obtain ⟨_,_,w3,C3,_⟩:=O3'
  have L3:=fun {o m}=>C3.ld (n:=6) rfl (off:=o) (lim:=m)
  have i0:=r.ri.i0;have i1:=r.ri.i1;have s1:=r.ri.s1
  unfold r_reader_many_10
  simp -implicitDefEqProofs (disch:=omega) [L3]
  refine O3.st_at (y:=y.at_+1) (by unfold inR;omega) fun h4 O4 F4=>?_
  rw [hat] at O4
  have nx4:=F4.nx
  refine rblanks_w (n:=n+4) O4 hop.ri fun h5 O5 F5=>?_
  have nx5:=F5.nx
  have r5:=hop.blanks
  have F34:Fz c h3.next MR h3 h5:=((Fz.refl c h3.next MR h3).trans F4 (Nat.le_refl _) (Nat.le_refl _) (by decide)).trans F5 (Nat.le_refl _) nx4 (fun _ k=>k)
  have F05:Fz c h.next MR h h5:=((Fz.refl c h.next MR h).loc E3 (by omega) (Nat.le_refl _)).trans F34 (Nat.le_refl _) (by omega) (fun _ k=>k)
  have B5:=B3.fz F34 (by omega) (by decide)
  have hpq:p≠h.next:=by omega
  rcases hcc with e | e
  ·obtain ⟨rfl,rfl⟩:=c91 e
   have hnm:decide (cc=123)=false:=by rw [e];decide
   rw [hnm]
   have hne:P.nested val x cc=(⟨6,0,[],[],(P.list val (P.open_ x cc)).1⟩,{ (P.list val (P.open_ x cc)).2 with depth:=(P.list val (P.open_ x cc)).2.depth-1 }):=by unfold P.nested;rw [if_pos e]
   rw [hne] at K
   have go:seqM (blockM 0 (loopM big (seqM (r_reader_many_2 (run tbl (n+6)) big) (blockM 1 (seqM (r_reader_many_5 (run tbl (n+6)) big) (r_reader_many_8 (run tbl (n+6)) big)))))) (r_reader_many_9 (run tbl (n+6)) big) (fr p h.next 93 false V.u x.depth) h5 (fun x e h=>finK (fun e h k=>k tup0) k x e h)=true:=by
    refine rlist_w (h0:=h) (val:=val) (f:=f) VV VB0 V.u O5 r5 bo hoe (by omega) ho B5 (Nat.le_refl _) (by omega) hpq F05 (by omega) fun h6 y6 O6 r6 F6=>?_
    exact K h6 y6 O6 (r6.dep _) F6
   simp -implicitDefEqProofs (disch:=omega) at go
   exact go
  ·obtain ⟨rfl,rfl⟩:=c123 e
   have hnm:decide (cc=123)=true:=by rw [e];decide
   rw [hnm]
   have hne:P.nested val x cc=(⟨7,0,[],(P.pairs val (P.open_ x cc)).1.1,(P.pairs val (P.open_ x cc)).1.2⟩,{ (P.pairs val (P.open_ x cc)).2 with depth:=(P.pairs val (P.open_ x cc)).2.depth-1 }):=by unfold P.nested;rw [if_neg (by rw [e];decide)]
   rw [hne] at K
   have go:seqM (blockM 0 (loopM big (seqM (r_reader_many_2 (run tbl (n+6)) big) (blockM 1 (seqM (r_reader_many_5 (run tbl (n+6)) big) (r_reader_many_8 (run tbl (n+6)) big)))))) (r_reader_many_9 (run tbl (n+6)) big) (fr p h.next 125 true V.u x.depth) h5 (fun x e h=>finK (fun e h k=>k tup0) k x e h)=true:=by
    refine rpairs_w (h0:=h) (val:=val) (f:=f) VV VB0 V.u O5 r5 bo hoe (by omega) ho B5 (Nat.le_refl _) (by omega) hpq F05 (by omega) fun h6 y6 O6 r6 F6=>?_
    exact K h6 y6 O6 (r6.dep _) F6
   simp -implicitDefEqProofs (disch:=omega) at go
   exact go
 unfold r_reader_many_0
 rcases hcc with e | e
 ·have hne:¬ cc=123:=by rw [e];decide
  have:=main 6 93 h2 (by omega) B2 E2 (fun _=>⟨rfl,rfl⟩) (fun q=>absurd q hne)
  rw [decide_eq_false hne] at this ⊢
  simp -implicitDefEqProofs (disch:=omega)
  exact this
 ·have hm:=main 7 125
  rw [decide_eq_true e] at hm ⊢
  simp -implicitDefEqProofs (disch:=omega)
  refine st_w B2 (by simp) (by decide) rfl fun h3 n3 B3 x3=>?_
  refine hm h3 (by omega) B3 (E2.put x3 (Nat.le_refl _) (.inl (Nat.le_refl _))) (fun q=>?_) fun _=>⟨rfl,rfl⟩
  rw [e] at q
  exact absurd q (by decide)
end Go.Bvm.JN
set_option linter.unusedVariables false
set_option linter.unusedSimpArgs false
set_option maxRecDepth 20000
namespace Go.Bvm.JN
open Go.Bvm
theorem negB_cons (b:UInt8) (r:Str):negB (b::r)=decide (b=45):=by
 unfold negB
 by_cases h:b=45 <;> simp [h]
theorem negB_some {t:Str} (h:negB t=true):∃ r,t=45::r:=by
 cases t with
 | nil=>exact absurd h (by decide)
 | cons b r=>rw [negB_cons] at h;exact ⟨r,by rw [of_decide_eq_true h]⟩
theorem tw_take (p:UInt8→Bool):∀ l:Str,l.take (l.takeWhile p).length=l.takeWhile p
 | []=>rfl
 | c::r=>by
  rw [List.takeWhile_cons]
  by_cases h:p c=true
  ·rw [if_pos h,List.length_cons,List.take_succ_cons,tw_take p r]
  ·rw [if_neg h];rfl
theorem num_word (t:Str):t.take (numSz t).toNat=wordS (negB t) (numDs t):=by
 unfold numSz numDs wordS
 cases h:negB t with
 | false=>
  simp only [Bool.false_eq_true,if_false,Int.zero_add,Int.toNat_natCast]
  exact tw_take _ _
 | true=>
  obtain ⟨r,rfl⟩:=negB_some h
  simp only [if_true]
  rw [show (1+((List.takeWhile isDig (List.drop 1 (45::r))).length:Int)).toNat=(List.takeWhile isDig (List.drop 1 (45::r))).length+1 from by omega,List.take_succ_cons]
  show 45::r.take (r.takeWhile isDig).length=_
  rw [tw_take];rfl
theorem numDs_all (t:Str):(numDs t).all isDig=true:=by
 unfold numDs
 exact tw_all _
theorem num_first (t:Str) (h:0<(numDs t).length):t.getD (if negB t then 1 else 0) 0=(numDs t).getD 0 0:=by
 cases hn:negB t with
 | false=>
  unfold numDs at h ⊢
  rw [hn] at h ⊢
  simp only [Bool.false_eq_true,if_false] at h ⊢
  cases t with
  | nil=>simp at h
  | cons b r=>
   rw [List.takeWhile_cons] at h ⊢
   by_cases q:isDig b=true
   ·rw [if_pos q];rfl
   ·rw [if_neg q] at h;simp at h
 | true=>
  obtain ⟨r,rfl⟩:=negB_some hn
  unfold numDs at h ⊢
  rw [hn] at h ⊢
  simp only [if_true] at h ⊢
  have e:List.drop 1 ((45:UInt8)::r)=r:=rfl
  rw [e] at h ⊢
  cases r with
  | nil=>simp at h
  | cons b r=>
   rw [List.takeWhile_cons] at h ⊢
   by_cases q:isDig b=true
   ·rw [if_pos q];rfl
   ·rw [if_neg q] at h;simp at h
theorem val_big {ds:Str} (hd:ds.all isDig=true) (hl:10<ds.length) (h0:ds.getD 0 0≠48):1073741824<valF 0 ds:=by
 cases ds with
 | nil=>simp at hl
 | cons b r=>
  simp only [List.all_cons,Bool.and_eq_true] at hd
  have h1:=(isDig_bd hd.1).2.2.2 (by simpa using h0)
  have h2:=valF_ge r (10*0+(b-48).toNat) hd.2 (by omega)
  have h3:(10:Nat) ^ 10≤10 ^ r.length:=Nat.pow_le_pow_right (by decide) (by simp at hl;omega)
  have h4:(10:Nat) ^ 10=10000000000:=by decide
  have h5:(10000000000:Int)≤(((10:Nat) ^ r.length:Nat):Int):=by
   have:((10000000000:Nat):Int)≤(((10:Nat) ^ r.length:Nat):Int):=Int.ofNat_le.2 (by rw [← h4];exact h3)
   exact this
  have h6:1*(((10:Nat) ^ r.length:Nat):Int)≤(10*0+((b-48).toNat:Int))*(((10:Nat) ^ r.length:Nat):Int):=Int.mul_le_mul_of_nonneg_right (by omega) (Int.natCast_nonneg _)
  show 1073741824<valF (10*0+(b-48).toNat) r
  omega
theorem word_one {neg:Bool} {ds:Str} (h0:ds.getD 0 0=48) (hl:0<ds.length):wordS neg ds=[48]↔neg=false∧ds.length=1:=by
 cases ds with
 | nil=>simp at hl
 | cons b r=>
  have hb:b=48:=by simpa using h0
  subst hb
  cases neg with
  | true=>simp [wordS]
  | false=>
   show (48::r=[48])↔_
   simp
theorem num_ok (t:Str):intOk (negB t) (numDs t)=numOk t:=by
 have hall:=numDs_all t
 by_cases hz:(numDs t).length=0
 ·unfold intOk numOk
  rw [decide_eq_true hz,decide_eq_true (show ((numDs t).length:Int)=0 by omega)]
  rfl
 ·have hf:=num_first t (by omega)
  unfold intOk numOk
  rw [hf,decide_eq_false hz,decide_eq_false (show ¬ ((numDs t).length:Int)=0 by omega),Bool.false_or,Bool.false_or]
  congr 1
  by_cases h0:(numDs t).getD 0 0=48
  ·have hw:=word_one (neg:=negB t) h0 (by omega)
   by_cases h1:wordS (negB t) (numDs t)=[48]
   ·obtain ⟨e1,e2⟩:=hw.1 h1
    have hs:satF 0 (numDs t)=valF 0 (numDs t):=by
     rcases sat_val (numDs t) 0 hall (by omega) with e | e
     ·exact e
     ·exfalso
      have:=e.2
      obtain ⟨b,hb⟩ : ∃ b,numDs t=[b]:=List.length_eq_one_iff.1 e2
      rw [hb] at this h0
      have hb2:b=48:=by simpa using h0
      rw [hb2] at this
      exact absurd this (by decide)
    rw [hs,decide_eq_false (show ¬ 10<(numDs t).length by omega),decide_eq_false (show ¬ ((numDs t).getD 0 0=48∧wordS (negB t) (numDs t)≠[48]) from fun q=>q.2 h1),e1,decide_eq_false (show ¬ (1:Int)<((numDs t).length:Int) by omega)]
    simp
   ·have:¬ (negB t=false∧(numDs t).length=1):=fun q=>h1 (hw.2 q)
    have h2:(decide (1<((numDs t).length:Int)) || negB t)=true:=by
     cases hn:negB t with
     | true=>simp
     | false=>
      have:(numDs t).length≠1:=fun q=>this ⟨hn,q⟩
      simp;omega
    rw [h2,decide_eq_true h0,decide_eq_true (show (numDs t).getD 0 0=48∧wordS (negB t) (numDs t)≠[48] from ⟨h0,h1⟩)]
    simp
  ·have e1:decide ((numDs t).getD 0 0=48∧wordS (negB t) (numDs t)≠[48])=false:=decide_eq_false fun q=>h0 q.1
   rw [e1,decide_eq_false h0,Bool.false_and,Bool.or_false,Bool.or_false]
   rcases sat_val (numDs t) 0 hall (by omega) with e | e
   ·rw [e]
    by_cases hl:10<(numDs t).length
    ·rw [decide_eq_true hl,decide_eq_true (val_big hall hl h0)];rfl
    ·rw [decide_eq_false hl];rfl
   ·rw [decide_eq_true e.1,decide_eq_true e.2,Bool.or_true]
theorem num_v (t:Str):intV (negB t) (numDs t)=numV t:=by
 unfold intV numV
 rw [num_ok]
 by_cases h:numOk t=true
 ·rw [if_pos h,if_pos h]
  have hs:satF 0 (numDs t)=valF 0 (numDs t):=by
   rcases sat_val (numDs t) 0 (numDs_all t) (by omega) with e | e
   ·exact e
   ·exfalso
    rw [← num_ok] at h
    unfold intOk at h
    rw [decide_eq_true e.2] at h
    simp at h
  rw [hs]
  cases negB t <;> simp <;> omega
 ·rw [if_neg h,if_neg h]
end Go.Bvm.JN
set_option linter.unusedVariables false
set_option linter.unusedSimpArgs false
set_option maxRecDepth 20000
namespace Go.Bvm.JN
open Go.Bvm
theorem RR.err_to {z z':St} {y:RS} (r:RR z y) (h:z.e≠0) (he:z'.e=z.e) (ha:z'.at_=z.at_) (hs:z'.s=z.s) (I:PI z'):RR z' y:=
 ⟨r.ri,I,by rw [hs];exact r.s,by rw [he];exact r.err,r.l,r.b,fun q=>absurd (by rw [← he];exact q) h,fun q=>absurd (by rw [← he];exact q) h,fun _=>by rw [ha];exact r.er h⟩
theorem rnum_w {W:List Nat} {c:Nat} {h:H} {p:Nat} {x:St} {y:RS} {n:Nat} {dp:Int} {cc:UInt8} {K3:KX} (O:amanuensisref1_readerO W c h p y) (r:RR x y) (he:x.e=0) (hc:P.see x=45∨isDig (P.see x)=true) (hl:x.l.length<1000000)
  (K:∀ h' y' z,amanuensisref1_readerO W c h' p y'→RR (P.add (P.number x).2 ⟨4,(P.number x).1,[],[],[]⟩) y'→Fz c h.next MR h h'→K3 X.n (f8 (wz 0) (pr p) (.t false) (wz dp) (wz x.i) (vy cc) V.u (wz z)) h'=true) :
  seqM (blockM 1 (loopM big (seqM (r_reader_value_10 (run tbl (n+6)) big) (blockM 2 (r_reader_value_11 (run tbl (n+6)) big))))) (r_reader_value_14 (run tbl (n+6)) big) (f8 (wz 0) (pr p) (.t false) (wz dp) (wz x.i) (vy cc) V.u V.u) h K3=true:=by
 have hcp:=O.1
 have i0:=r.pi.i0;have i1:=r.pi.i1;have s1:=r.pi.s1
 have hat:=r.at_ he;have hs:=r.s
 have hes:y.err=0:=by rw [r.err];exact he
 have hsee:P.see x=x.s.getD x.i.toNat 0:=by unfold P.see;rw [if_neg (by simp [he])]
 have hne0:P.see x≠0:=by rcases hc with e | e <;> (intro q;rw [q] at e;exact absurd e (by decide))
 have lt:=(P.see_lt r.pi hne0).2
 obtain ⟨t,ht⟩ : ∃ t,t=x.s.drop x.i.toNat:=⟨_,rfl⟩
 have htl:t.length=x.s.length-x.i.toNat:=by rw [ht,List.length_drop]
 have hsz:=numDs_le t
 obtain ⟨b,tr,hbt⟩ : ∃ b tr,t=b::tr:=by
  cases t with
  | nil=>simp at htl;omega
  | cons b tr=>exact ⟨b,tr,rfl⟩
 have hd0:x.s.drop x.i.toNat=b::tr:=by rw [← ht];exact hbt
 have hb:P.see x=b:=by rw [hsee];exact (drop_getD hd0).1
 rw [hb] at hc
 have hnum1:(P.number x).1=numV t:=by rw [ht];rfl
 have hnum2:(P.number x).2={ (if numOk t then x else P.bad x 4 x.i) with i:=x.i+numSz t }:=by rw [ht];rfl
 have hsz0:0≤numSz t:=by unfold numSz;split <;> omega
 simp -implicitDefEqProofs (disch:=omega)
 refine loop_w (fun m e h'=>∃ j:Int,x.i≤j∧j≤x.s.length∧m=(x.s.length-j).toNat∧e=f8 (wz 0) (pr p) (.t false) (wz dp) (wz x.i) (vy cc) V.u V.u∧amanuensisref1_readerO W c h' p { y with at_:=j }∧Fz c h.next MR h h'∧(j=x.i∨(x.i<j∧j+((x.s.drop j.toNat).takeWhile isDig).length=x.i+numSz t))) ?_ big (x.s.length-x.i).toNat _ _ ⟨x.i,Int.le_refl _,i1,rfl,rfl,by rw [← hat];exact O,Fz.refl _ _ _ _,.inl rfl⟩ (by unfold big;omega)
 rintro m e h1 ⟨j,hj0,hj1,rfl,rfl,O1,F1,hcase⟩ K' Kn Kx Kr
 have nx1:=F1.nx
 have O1':=O1
 obtain ⟨_,_,w1,C1,_⟩:=O1'
 have L1:=fun {o m}=>C1.ld (n:=6) rfl (off:=o) (lim:=m)
 unfold r_reader_value_10 r_reader_value_9 r_reader_value_8 r_reader_value_7 r_reader_value_6 r_reader_value_11
 have go:j+1≤x.s.length→x.i<j+1∧j+1+((x.s.drop (j+1).toNat).takeWhile isDig).length=x.i+numSz t→st true 1 (.p p 1 6 0) (wz (j+1)) h1 (fun _ h'=>K' X.n (f8 (wz 0) (pr p) (.t false) (wz dp) (wz x.i) (vy cc) V.u V.u) h')=true:=by
  intro q1 q2
  refine O1.st_at (y:=j+1) (by unfold inR;omega) fun h2 O2 F2=>?_
  exact Kn _ _ _ (by omega) ⟨j+1,by omega,q1,rfl,rfl,O2,F1.trans F2 (Nat.le_refl _) nx1 (by decide),.inr q2⟩
 have stop:j=x.i+numSz t→K' (X.x 1) (f8 (wz 0) (pr p) (.t false) (wz dp) (wz x.i) (vy cc) V.u V.u) h1=true:=by
  intro ej
  refine Kx _ _ _ ?_
  unfold r_reader_value_14
  have hw:(x.s.drop x.i.toNat).take (j.toNat-x.i.toNat)=wordS (negB t) (numDs t):=by
   rw [← ht,← num_word t]
   congr 1;omega
  have hdl:(numDs t).length≤3000:=by
   have:((numDs t).length:Int)≤numSz t:=by unfold numSz;split <;> omega
   omega
  simp -implicitDefEqProofs (disch:=omega) [L1,hs,hw]
  refine Int_w (n:=n+5) (neg:=negB t) (ds:=numDs t) (numDs_all t) hdl ?_
  rw [num_ok,num_v]
  have hvb:=numV_bd t
  unfold r_reader_value_12 r_reader_value_13
  have addp:∀ (h2:H) (y2:RS),amanuensisref1_readerO W c h2 p y2→RR (P.number x).2 y2→Fz c h.next MR h h2→run tbl (n+6) Nf_r_reader_add (vl [pr p,.x .agg (vl [wz 4,wz (numV t),vs [],slnil,slnil]) V.nil]) h2 (fun v427 h428=>K3 X.n (f8 (wz 0) (pr p) (.t false) (wz dp) (wz x.i) (vy cc) V.u (wz (numV t))) h428)=true:=by
   intro h2 y2 O2 r2 F2
   refine radd_w (n:=n+5) O2 rfl (repJ (by decide) (by unfold inR;omega) (by simp) (SlO.nil _ _ _) (SlO.nil _ _ _)) r2.l fun h3 O3 F3=>?_
   refine K h3 _ _ O3 ?_ (F2.trans F3 (Nat.le_refl _) F2.nx (fun _ k=>k))
   rw [hnum1]
   refine r2.add fun _=>?_
   rw [hnum2]
   show (if numOk t then x else P.bad x 4 x.i).l.length<1000000
   split
   ·exact hl
   ·unfold P.bad;split <;> exact hl
  by_cases ok:numOk t=true
  ·rw [ok]
   simp -implicitDefEqProofs (disch:=omega)
   refine addp h1 _ O1 ?_ F1
   rw [hnum2,if_pos ok,ej]
   exact r.moved he (by omega) (by omega)
  ·have ok':numOk t=false:=by simpa using ok
   rw [ok']
   simp -implicitDefEqProofs (disch:=omega)
   refine fails_w (n:=n+5) O1 (by decide) (by unfold inR;omega) fun h2 O2 F2=>?_
   have e2:R.fails { y with at_:=j } 4 x.i={ y with at_:=j,err:=4,where_:=x.i }:=by unfold R.fails;rw [if_pos hes]
   rw [e2] at O2
   refine addp h2 _ O2 ?_ (F1.trans F2 (Nat.le_refl _) nx1 (fun _ k=>k))
   rw [hnum2,if_neg ok]
   have rf:=r.failed he (j:=j) (by omega) (by omega)
   have pb:=rf.pi
   have eb:P.bad x 4 x.i={ x with e:=4,at_:=x.i }:=by unfold P.bad;rw [if_pos he]
   rw [eb] at rf ⊢
   exact rf.err_to (by show (4:Int)≠0;decide) rfl rfl rfl ⟨by show 0≤x.i+numSz t;omega,by show x.i+numSz t≤(x.s.length:Int);omega,s1⟩
 by_cases hj:j=x.i
 ·have hlt:j<(x.s.length:Int):=by omega
  have hdj:x.s.drop j.toNat=b::tr:=by rw [hj];exact hd0
  have hdj1:x.s.drop (j+1).toNat=tr:=by rw [show (j+1).toNat=j.toNat+1 from by omega,← List.drop_drop,hdj];rfl
  by_cases c45:b=45
  ·have hz:numSz t=1+((tr.takeWhile isDig).length:Int):=by
    unfold numSz numDs
    rw [hbt,c45]
    rfl
   have:=go (by omega) ⟨by omega,by rw [hdj1,hz];omega⟩
   simp -implicitDefEqProofs (disch:=omega) [L1,hs,hlt,sidx_at (i:=j) (s:=x.s) hdj,eq_true c45,eq_true hj]
   exact this
  ·have hdg:isDig b=true:=hc.resolve_left c45
   obtain ⟨b1,b2,_,_⟩:=isDig_bd hdg
   have y1:yLe 48 b=true:=decide_eq_true b1
   have y2:yLe b 57=true:=decide_eq_true b2
   have hz:numSz t=1+((tr.takeWhile isDig).length:Int):=by
    unfold numSz numDs
    rw [hbt,negB_cons,decide_eq_false c45]
    simp only [Bool.false_eq_true,if_false]
    rw [List.takeWhile_cons,if_pos hdg,List.length_cons]
    omega
   have:=go (by omega) ⟨by omega,by rw [hdj1,hz];omega⟩
   simp -implicitDefEqProofs (disch:=omega) [L1,hs,hlt,sidx_at (i:=j) (s:=x.s) hdj,c45,y1,y2]
   exact this
 ·have hcs:=hcase.resolve_left hj
  cases hq:x.s.drop j.toNat with
  | nil=>
   have hlt:¬ j<(x.s.length:Int):=by have:=List.drop_eq_nil_iff.1 hq;omega
   have hcs2:=hcs.2
   rw [hq] at hcs2
   simp only [List.takeWhile_nil,List.length_nil] at hcs2
   have:=stop (by omega)
   simp -implicitDefEqProofs (disch:=omega) [L1,hs,hlt]
   exact this
  | cons d q=>
   have hlt:j<(x.s.length:Int):=by
    have:¬ x.s.length≤j.toNat:=fun e=>by rw [List.drop_eq_nil_of_le e] at hq;simp at hq
    omega
   have hdj1:x.s.drop (j+1).toNat=q:=by rw [show (j+1).toNat=j.toNat+1 from by omega,← List.drop_drop,hq];rfl
   have hcs2:=hcs.2
   rw [hq,List.takeWhile_cons] at hcs2
   by_cases hdg:isDig d=true
   ·obtain ⟨b1,b2,_,_⟩:=isDig_bd hdg
    have y1:yLe 48 d=true:=decide_eq_true b1
    have y2:yLe d 57=true:=decide_eq_true b2
    have d45:¬ d=45:=fun e=>by rw [e] at hdg;exact absurd hdg (by decide)
    rw [if_pos hdg,List.length_cons] at hcs2
    have:=go (by omega) ⟨by omega,by rw [hdj1];omega⟩
    simp -implicitDefEqProofs (disch:=omega) [L1,hs,hlt,sidx_at (i:=j) (s:=x.s) hq,d45,y1,y2]
    exact this
   ·rw [if_neg hdg] at hcs2
    simp only [List.length_nil] at hcs2
    have:=stop (by omega)
    have hy:yLe 48 d=false∨(yLe 48 d=true∧yLe d 57=false):=by
     unfold isDig at hdg
     unfold yLe
     cases h1:decide ((48:UInt8)≤d) with
     | false=>exact .inl rfl
     | true=>
      rw [h1,Bool.true_and] at hdg
      exact .inr ⟨rfl,by simpa using hdg⟩
    by_cases d45:d=45
    ·have y1:yLe 48 d=false:=by rw [d45];decide
     simp -implicitDefEqProofs (disch:=omega) [L1,hs,hlt,sidx_at (i:=j) (s:=x.s) hq,eq_true d45,hj,y1]
     exact this
    ·rcases hy with y1 | ⟨y1,y2⟩
     ·simp -implicitDefEqProofs (disch:=omega) [L1,hs,hlt,sidx_at (i:=j) (s:=x.s) hq,d45,y1]
      exact this
     ·simp -implicitDefEqProofs (disch:=omega) [L1,hs,hlt,sidx_at (i:=j) (s:=x.s) hq,d45,y1,y2]
      exact this
end Go.Bvm.JN
set_option linter.unusedVariables false
set_option linter.unusedSimpArgs false
set_option maxRecDepth 20000
namespace Go.Bvm.JN
open Go.Bvm
namespace P
theorem text_err {x:St} (h:x.e≠0):(text x).2.e=x.e∧(text x).2.at_=x.at_∧(text x).2.s=x.s:=by
 unfold text
 split
 ·rw [err_bad h];exact ⟨rfl,rfl,rfl⟩
 ·exact ⟨rfl,rfl,rfl⟩
theorem number_err {x:St} (h:x.e≠0):(number x).2.e=x.e∧(number x).2.at_=x.at_∧(number x).2.s=x.s:=by
 unfold number
 dsimp only
 split
 ·exact ⟨rfl,rfl,rfl⟩
 ·rw [err_bad h];exact ⟨rfl,rfl,rfl⟩
theorem literal_err:∀ (w:Str) {x:St},(∀ y∈w,y≠0)→x.e≠0→literal x w=x
 | [],_,_,_=>rfl
 | b::w,x,hw,h=>by
  show literal (take x b) w=x
  rw [err_take (hw b List.mem_cons_self) h]
  exact literal_err w (fun y hy=>hw y (List.mem_cons_of_mem _ hy)) h
theorem nested_err {val:VF} {x:St} {c:UInt8} (hc:c≠0) (h:(begin_ x true).e≠0):(nested val x c).2.e=(begin_ x true).e∧(nested val x c).2.at_=(begin_ x true).at_∧(nested val x c).2.s=(begin_ x true).s:=by
 have ho:open_ x c={ begin_ x true with depth:=(begin_ x true).depth+1 }:=by
  show { take (begin_ x true) c with depth:=(take (begin_ x true) c).depth+1 }=_
  rw [err_take hc h]
 have he:(open_ x c).e≠0:=by rw [ho];exact h
 unfold nested
 by_cases c1:c=91
 ·rw [if_pos c1];dsimp only;rw [err_list he,ho];exact ⟨rfl,rfl,rfl⟩
 ·rw [if_neg c1];dsimp only;rw [err_pairs he,ho];exact ⟨rfl,rfl,rfl⟩
theorem begin_lim {x:St} {deep:Bool} (h:x.e=0) (q:300≤x.begun∨(deep=true∧8≤x.depth)):begin_ x deep={ bad x 2 x.i with begun:=x.begun+1 }:=by
 unfold begin_;rw [if_pos q]
theorem begin_go {x:St} {deep:Bool} (q:¬ (300≤x.begun∨(deep=true∧8≤x.depth))):begin_ x deep={ x with begun:=x.begun+1 }:=by
 unfold begin_;rw [if_neg q]
end P
theorem RR.begins {x:St} {y:RS} (r:RR x y) {deep:Bool} (h:x.e=0) (q:¬ (300≤x.begun∨(deep=true∧8≤x.depth))) (hb:x.begun≤300∨True):RR (P.begin_ x deep) { y with begun:=y.begun+1 }:=by
 rw [P.begin_go q]
 have h2:=(r.ok h).2
 have h3:=r.b
 exact ⟨⟨r.ri.i0,r.ri.i1,r.ri.s1⟩,⟨r.pi.i0,r.pi.i1,r.pi.s1⟩,r.s,r.err,r.l,⟨by show 0≤y.begun+1;omega,by show y.begun+1≤1000000;rw [not_or] at q;omega⟩,r.at_,fun e=>⟨(r.ok e).1,by show y.begun+1=x.begun+1;omega⟩,r.er⟩
theorem rvalue_step {f:Nat} {n:Nat} (hF:f≤100) (VV:RSpec (n+6) f (P.value f)):RSpec (n+8) (f+1) (P.value (f+1)):=by
 intro W c h p x y dp k O r b hdp hdr h9 h1 K
 have hcp:=O.1
 have q0:=P.blanks_q x b.pi
 obtain ⟨xb,hxb⟩ : ∃ xb,xb=P.blanks x:=⟨_,rfl⟩
 have hbe:xb.e=x.e:=by rw [hxb,P.blanks_e]
 have b0:=b.q q0 (by rw [P.blanks_e];exact id)
 rw [← hxb] at b0 r q0
 have gb:=(P.body_g (P.value_g f) xb b0 (by rw [hbe,q0.d];intro e;have:=h9 e;omega)).g
 have hval:P.value (f+1) x=(((P.body (P.value f) xb).2.l.length:Int),P.add (P.body (P.value f) xb).2 (P.body (P.value f) xb).1):=by rw [hxb];rfl
 rw [hval] at K
 dsimp only at K
 have O':=O
 obtain ⟨_,_,w0,C0,_,_,_,f3,_⟩:=O'
 have L0:=fun {o m}=>C0.ld (n:=6) rfl (off:=o) (lim:=m)
 have hpi:=gb.pi
 have hbs:=gb.s
 have errs:∀ (z:St) (h4:H) (y4:RS),amanuensisref1_readerO W c h4 p y4→RR z y4→z.e≠0→(P.body (P.value f) xb).2.e=z.e→(P.body (P.value f) xb).2.at_=z.at_→(P.body (P.value f) xb).2.s=z.s→Fz c h.next MR h h4→k (wz 0) h4=true:=by
  intro z h4 y4 O4 r4 ze e1 e2 e3 F4
  have r5:=r4.err_to ze e1 e2 e3 hpi
  have e4:(P.body (P.value f) xb).2.e≠0:=by rw [e1];exact ze
  have ey:R.add y4 (P.body (P.value f) xb).1=y4:=by unfold R.add;rw [if_neg (by rw [r4.err];exact ze)]
  have r6:=r5.addE e4 (n:=(P.body (P.value f) xb).1) (m:=(P.body (P.value f) xb).1)
  rw [ey] at r6
  exact K h4 y4 0 O4 r6 (by decide) (fun e=>absurd e e4) F4
 rw [run_succ,tbl_r_reader_value]
 unfold T_r_reader_value r_reader_value_22 r_reader_value_0
 by_cases hx:x.e=0
 ·have hxe:xb.e=0:=by rw [hbe];exact hx
  have hye:y.err=0:=by rw [r.err];exact hxe
  have hat:=r.at_ hxe
  have hss:=r.s
  obtain ⟨cc,hcc⟩ : ∃ cc,cc=P.see xb:=⟨_,rfl⟩
  have hsee:=fun k=>rsee_eq O r.ri (n:=n+6) k
  rw [r.see hxe,← hcc] at hsee
  have i0:=b0.pi.i0;have i1:=b0.pi.i1;have s1:=b0.pi.s1
  have hd8:=b0.d hxe;have hd0:=b0.d0
  have hdep:dp=xb.depth:=by rw [hdp hx,q0.d]
  have hbg0:=b0.b0;have hbg1:=b0.b1
  have hlb:=b0.l
  have hbl:(P.body (P.value f) xb).2.e=0→(P.body (P.value f) xb).2.l.length<1000000:=fun e=>by
   have h1:=gb.l0 e;have h3:=hpi.i1;rw [hbs] at h3;omega
  have fin:∀ (op:Bool) (u v:V) (h4:H) (y4:RS),amanuensisref1_readerO W c h4 p y4→RR (P.add (P.body (P.value f) xb).2 (P.body (P.value f) xb).1) y4→Fz c h.next MR h h4→r_reader_value_17 (run tbl (n+7)) big (f8 (wz 0) (pr p) (.t op) (wz dp) (wz xb.i) (vy cc) u v) h4 (fun x e h=>finK (fun e h k=>k e.c0.c0) k x e h)=true:=by
   intro op u v h4 y4 O4 r4 F4
   have O4':=O4
   obtain ⟨_,_,w4,C4,_,_,S4,_⟩:=O4'
   have L4:=fun {o m}=>C4.ld (n:=6) rfl (off:=o) (lim:=m)
   have hl4:=r4.l
   unfold r_reader_value_17
   simp -implicitDefEqProofs (disch:=omega) [L4,S4.sl.lenL]
   refine K h4 y4 _ O4 r4 (by unfold inR;omega) (fun e=>?_) F4
   have:=(r4.ok e).1
   rw [this]
   show ((((P.body (P.value f) xb).2.l++[(P.body (P.value f) xb).1]).length:Int))-1=_
   rw [List.length_append];simp
  have bad4:(P.body (P.value f) xb).2=P.bad xb 4 xb.i→run tbl (n+7) Nf_r_reader_fails (vl [pr p,wz 4,wz xb.i]) h (fun _ h'=>k (wz 0) h')=true:=by
   intro e
   refine fails_w (n:=n+6) O (by decide) (by unfold inR;omega) fun h4 O4 F4=>?_
   exact errs (P.bad xb 4 xb.i) h4 _ O4 (r.fails (by decide) fun _=>rfl) (P.bad_e (by decide)) (by rw [e]) (by rw [e]) (by rw [e]) F4
  have after:∀ op:Bool,op=decide (cc=91∨cc=123)→(cc=91∨cc=123∨cc=34∨cc=45∨isDig cc=true∨cc=110∨cc=102∨cc=116)→seqM (r_reader_value_3 (run tbl (n+7)) big) (r_reader_value_18 (run tbl (n+7)) big) (f8 (wz 0) (pr p) (.t op) (wz dp) (wz xb.i) (vy cc) V.u V.u) h (fun x e h=>finK (fun e h k=>k e.c0.c0) k x e h)=true:=by
   intro op hop hcs
   have hbg:=(r.ok hxe).2
   have hopc:op=true→cc=91∨cc=123:=fun e=>of_decide_eq_true (by rw [← hop,e])
   by_cases lim:300≤xb.begun∨(op=true∧8≤xb.depth)
   ·have hbl2:=P.begin_lim (deep:=op) hxe lim
    have hbad:P.bad xb 2 xb.i={ xb with e:=2,at_:=xb.i }:=by unfold P.bad;rw [if_pos hxe]
    have hbe2:(P.begin_ xb op).e≠0:=by rw [hbl2,hbad];show (2:Int)≠0;decide
    have hB:(P.body (P.value f) xb).2.e=(P.begin_ xb op).e∧(P.body (P.value f) xb).2.at_=(P.begin_ xb op).at_∧(P.body (P.value f) xb).2.s=(P.begin_ xb op).s:=by
     unfold P.body
     dsimp only
     rw [← hcc]
     by_cases c1:cc=91∨cc=123
     ·rw [if_pos c1]
      have:op=true:=by rw [hop,decide_eq_true c1]
      rw [this] at hbe2 ⊢
      exact P.nested_err (by rcases c1 with e | e <;> (rw [e];decide)) hbe2
     ·rw [if_neg c1]
      have:op=false:=by rw [hop,decide_eq_false c1]
      rw [this] at hbe2 ⊢
      by_cases c2:cc=34
      ·rw [if_pos c2];exact P.text_err hbe2
      ·rw [if_neg c2]
       by_cases c3:cc=45∨isDig cc=true
       ·rw [if_pos c3];exact P.number_err hbe2
       ·rw [if_neg c3]
        have c4:cc=110∨cc=102∨cc=116:=by
         rcases hcs with e | e | e | e | e | e
         ·exact absurd (.inl e) c1
         ·exact absurd (.inr e) c1
         ·exact absurd e c2
         ·exact absurd (.inl e) c3
         ·exact absurd (.inr e) c3
         ·exact e
        rw [if_pos c4]
        dsimp only
        rw [P.literal_err _ (P.wordOf_0 cc).1 hbe2]
        exact ⟨rfl,rfl,rfl⟩
    have go:run tbl (n+7) Nf_r_reader_fails (vl [pr p,wz 2,wz xb.i]) h (fun _ h'=>k (wz 0) h')=true:=by
     refine fails_w (n:=n+6) O (by decide) (by unfold inR;omega) fun h4 O4 F4=>?_
     refine errs (P.bad xb 2 xb.i) h4 _ O4 (r.fails (by decide) fun _=>rfl) (P.bad_e (by decide)) ?_ ?_ ?_ F4
     ·rw [hB.1,hbl2]
     ·rw [hB.2.1,hbl2]
     ·rw [hB.2.2,hbl2]
    unfold r_reader_value_3
    by_cases l1:300≤xb.begun
    ·simp -implicitDefEqProofs (disch:=omega) [L0,hbg,l1]
     exact go
    ·obtain ⟨l2,l3⟩:=lim.resolve_left l1
     have l4:8≤dp:=by omega
     simp -implicitDefEqProofs (disch:=omega) [L0,hbg,l1,l2,l4]
     exact go
   ·have r1:=r.begins (deep:=op) hxe lim (.inr trivial)
    have hb1:=P.begin_go lim
    have hb1e:(P.begin_ xb op).e=0:=by rw [hb1];exact hxe
    have hb1i:(P.begin_ xb op).i=xb.i:=by rw [hb1]
    have hb1s:P.see (P.begin_ xb op)=cc:=by rw [hcc,hb1];rfl
    have hb1l:(P.begin_ xb op).l=xb.l:=by rw [hb1]
    have l1:¬ 300≤xb.begun:=fun e=>lim (.inl e)
    have cond:∀ K3:KX,r_reader_value_3 (run tbl (n+7)) big (f8 (wz 0) (pr p) (.t op) (wz dp) (wz xb.i) (vy cc) V.u V.u) h K3=K3 X.n (f8 (wz 0) (pr p) (.t op) (wz dp) (wz xb.i) (vy cc) V.u V.u) h:=by
     intro K3
     unfold r_reader_value_3
     cases op with
     | false=>simp -implicitDefEqProofs (disch:=omega) [L0,hbg,l1]
     | true=>
      have l4:¬ 8≤dp:=fun e=>lim (.inr ⟨rfl,by omega⟩)
      simp -implicitDefEqProofs (disch:=omega) [L0,hbg,l1,l4]
    unfold r_reader_value_18
    simp -implicitDefEqProofs (disch:=omega) [cond,L0,hbg]
    refine O.st_begun (y:=xb.begun+1) (by unfold inR;omega) fun h4 O4 F4=>?_
    rw [hbg] at r1
    have nx4:=F4.nx
    have F04:Fz c h.next MR h h4:=F4.mono (Nat.le_refl _) (Nat.le_refl _) (by decide)
    unfold r_reader_value_16 r_reader_value_15
    by_cases c1:cc=91∨cc=123
    ·have hopt:op=true:=by rw [hop,decide_eq_true c1]
     subst hopt
     have eb:P.body (P.value f) xb=P.nested (P.value f) xb cc:=by unfold P.body;dsimp only;rw [← hcc,if_pos c1]
     rw [eb] at fin
     have go:run tbl (n+7) Nf_r_reader_many (vl [pr p,wz dp,.t (decide (cc=123))]) h4 (fun _ h'=>r_reader_value_17 (run tbl (n+7)) big (f8 (wz 0) (pr p) (.t true) (wz dp) (wz xb.i) (vy cc) V.u V.u) h' (fun x e h=>finK (fun e h k=>k e.c0.c0) k x e h))=true:=by
      rw [hdep]
      refine many_w (f:=f) VV (P.value_g f) O4 r1 b0 hb1e c1 hcc.symm (by have:=h9 hx;rw [← q0.d] at this;omega) fun h5 y5 O5 r5 F5=>?_
      rw [← hdep]
      exact fin _ _ _ h5 y5 O5 r5 (F04.trans F5 (Nat.le_refl _) nx4 (fun _ k=>k))
     rcases c1 with e | e
     ·rw [e] at go ⊢
      simp -implicitDefEqProofs (disch:=omega)
      simp -implicitDefEqProofs (disch:=omega) at go
      exact go
     ·rw [e] at go ⊢
      simp -implicitDefEqProofs (disch:=omega)
      simp -implicitDefEqProofs (disch:=omega) at go
      exact go
    ·have hopf:op=false:=by rw [hop,decide_eq_false c1]
     subst hopf
     rw [not_or] at c1
     by_cases c2:cc=34
     ·have eb:P.body (P.value f) xb=(⟨5,0,(P.text (P.begin_ xb false)).1,[],[]⟩,(P.text (P.begin_ xb false)).2):=by unfold P.body;dsimp only;rw [← hcc,if_neg (by simp [c1]),if_pos c2]
      rw [eb] at fin hbl
      have hqt:P.qtext (P.begin_ xb false)=P.text (P.begin_ xb false):=by unfold P.qtext;rw [if_pos (by rw [hb1s];exact c2)]
      have go:run tbl (n+7) Nf_r_reader_text (vl [pr p]) h4 (fun v h'=>seqM (r_reader_value_4 (run tbl (n+7)) big v) (r_reader_value_5 (run tbl (n+7)) big) (f8 (wz 0) (pr p) (.t false) (wz dp) (wz xb.i) (vy cc) v V.u) h' (fun x e' h'=>X.rec (motive:=fun _=>Bool) (r_reader_value_17 (run tbl (n+7)) big e' h' (fun x e h=>finK (fun e h k=>k e.c0.c0) k x e h)) (fun i=>false) (k e'.c0.c0 h') x))=true:=by
       refine rtext_w (n:=n+4) O4 r1 fun h5 y5 s O5 r5 hs5 hsl F5=>?_
       rw [hqt] at r5 hs5
       have F05:=F04.trans F5 (Nat.le_refl _) nx4 (fun _ k=>k)
       unfold r_reader_value_4 r_reader_value_5
       have hsl':¬ (3000:Int)<s.length:=by omega
       simp -implicitDefEqProofs (disch:=omega) [hsl']
       refine radd_w (n:=n+6) O5 rfl (repJ (s:=s) (by decide) (by decide) (Nat.le_trans hsl (by decide)) (SlO.nil _ _ _) (SlO.nil _ _ _)) r5.l fun h6 O6 F6=>?_
       refine fin _ _ _ h6 _ O6 ?_ (F05.trans F6 (Nat.le_refl _) F05.nx (fun _ k=>k))
       by_cases e5:(P.text (P.begin_ xb false)).2.e=0
       ·rw [hs5 hb1e e5]
        exact r5.add hbl
       ·exact r5.addE e5
      rw [c2] at go ⊢
      simp -implicitDefEqProofs (disch:=omega)
      exact go
     ·by_cases c3:cc=45∨isDig cc=true
      ·have eb:P.body (P.value f) xb=(⟨4,(P.number (P.begin_ xb false)).1,[],[],[]⟩,(P.number (P.begin_ xb false)).2):=by unfold P.body;dsimp only;rw [← hcc,if_neg (by simp [c1]),if_neg c2,if_pos c3]
       rw [eb] at fin
       have go:seqM (blockM 1 (loopM big (seqM (r_reader_value_10 (run tbl (n+7)) big) (blockM 2 (r_reader_value_11 (run tbl (n+7)) big))))) (r_reader_value_14 (run tbl (n+7)) big) (f8 (wz 0) (pr p) (.t false) (wz dp) (wz xb.i) (vy cc) V.u V.u) h4 (fun x e' h'=>X.rec (motive:=fun _=>Bool) (r_reader_value_17 (run tbl (n+7)) big e' h' (fun x e h=>finK (fun e h k=>k e.c0.c0) k x e h)) (fun i=>X.rec (motive:=fun _=>Bool) (r_reader_value_17 (run tbl (n+7)) big e' h' (fun x e h=>finK (fun e h k=>k e.c0.c0) k x e h)) (fun i=>false) (k e'.c0.c0 h') (unX 0 (X.x i))) (k e'.c0.c0 h') x)=true:=by
        rw [← hb1i]
        refine rnum_w (n:=n+1) O4 r1 hb1e (by rw [hb1s];exact c3) (by rw [hb1l];omega) fun h5 y5 z O5 r5 F5=>?_
        rw [hb1i]
        exact fin _ _ _ h5 y5 O5 r5 (F04.trans F5 (Nat.le_refl _) nx4 (fun _ k=>k))
       have n1:¬ cc=110:=fun e=>by rw [e] at c3;exact absurd c3 (by decide)
       have n2:¬ cc=102:=fun e=>by rw [e] at c3;exact absurd c3 (by decide)
       have n3:¬ cc=116:=fun e=>by rw [e] at c3;exact absurd c3 (by decide)
       simp -implicitDefEqProofs (disch:=omega) [n1,n2,n3,c2]
       simp -implicitDefEqProofs (disch:=omega) at go
       exact go
      ·have c4:cc=110∨cc=102∨cc=116:=by
        rcases hcs with e | e | e | e | e | e
        ·exact absurd e c1.1
        ·exact absurd e c1.2
        ·exact absurd e c2
        ·exact absurd (.inl e) c3
        ·exact absurd (.inr e) c3
        ·exact e
       have eb:P.body (P.value f) xb=(⟨P.kindOf cc,0,[],[],[]⟩,P.literal (P.begin_ xb false) (P.wordOf cc)):=by unfold P.body;dsimp only;rw [← hcc,if_neg (by simp [c1]),if_neg c2,if_neg c3,if_pos c4]
       rw [eb] at fin hbl
       have go:run tbl (n+7) Nf_r_reader_word (vl [pr p,vs (P.wordOf cc),wz (P.kindOf cc)]) h4 (fun _ h'=>r_reader_value_17 (run tbl (n+7)) big (f8 (wz 0) (pr p) (.t false) (wz dp) (wz xb.i) (vy cc) V.u V.u) h' (fun x e h=>finK (fun e h k=>k e.c0.c0) k x e h))=true:=by
        refine word_w (n:=n+4) O4 r1 (P.wordOf_0 cc).1 (by have:=(P.wordOf_0 cc).2.2;omega) (by
         unfold P.kindOf;split;· decide
         ·split <;> decide) fun h5 O5 F5=>?_
        exact fin _ _ _ h5 _ O5 ((r1.literal (P.wordOf cc) (P.wordOf_0 cc).1).add hbl) (F04.trans F5 (Nat.le_refl _) nx4 (fun _ k=>k))
       rcases c4 with e | e | e <;> (rw [e] at go ⊢;simp -implicitDefEqProofs (disch:=omega);exact go)
  have hlt:cc≠0→¬ (xb.s.length:Int)≤xb.i:=fun e=>by
   have:=(P.see_lt b0.pi (by rw [← hcc];exact e)).2
   omega
  unfold r_reader_value_21 r_reader_value_20
  by_cases hcs:cc=91∨cc=123∨cc=34∨cc=45∨isDig cc=true∨cc=110∨cc=102∨cc=116
  ·by_cases hdg:isDig cc=true
   ·obtain ⟨b1,b2,_,_⟩:=isDig_bd hdg
    have n0:cc≠0:=fun e=>by rw [e] at hdg;exact absurd hdg (by decide)
    have n1:¬ cc=91:=fun e=>by rw [e] at hdg;exact absurd hdg (by decide)
    have n2:¬ cc=123:=fun e=>by rw [e] at hdg;exact absurd hdg (by decide)
    have n3:¬ cc=34:=fun e=>by rw [e] at hdg;exact absurd hdg (by decide)
    have n4:¬ cc=45:=fun e=>by rw [e] at hdg;exact absurd hdg (by decide)
    have y1:yLe 48 cc=true:=decide_eq_true b1
    have y2:yLe cc 57=true:=decide_eq_true b2
    have:=after false (by simp [n1,n2]) hcs
    simp -implicitDefEqProofs (disch:=omega) [L0,hye,hat,hss,hsee,n1,n2,n3,n4,y1,y2,hlt n0]
    unfold r_reader_value_19
    simp -implicitDefEqProofs (disch:=omega) [n1,n2,n3,n4,y1,y2]
    unfold r_reader_value_2 r_reader_value_1
    simp -implicitDefEqProofs (disch:=omega) [L0,hat,hss,hlt n0]
    simp -implicitDefEqProofs (disch:=omega) at this
    exact this
   ·have z1:yLe 48 110=true:=by decide
    have z2:yLe 110 57=false:=by decide
    have z3:yLe 48 102=true:=by decide
    have z4:yLe 102 57=false:=by decide
    have z5:yLe 48 116=true:=by decide
    have z6:yLe 116 57=false:=by decide
    have n0:cc≠0:=fun e=>by rw [e] at hcs;exact absurd hcs (by decide)
    have hl:=hlt n0
    have:=after (decide (cc=91∨cc=123)) rfl hcs
    rcases hcs with e | e | e | e | e | e | e | e
    all_goals first
     | exact absurd e hdg
     | (rw [e] at this hsee;simp -implicitDefEqProofs (disch:=omega) [L0,hye,hat,hss,hsee];unfold r_reader_value_19;simp -implicitDefEqProofs (disch:=omega) [z1,z2,z3,z4,z5,z6];unfold r_reader_value_2 r_reader_value_1;simp -implicitDefEqProofs (disch:=omega) [L0,hat,hss,hl];simp -implicitDefEqProofs (disch:=omega) at this;exact this)
  ·have eb:(P.body (P.value f) xb).2=P.bad xb 4 xb.i:=by
    unfold P.body
    dsimp only
    rw [← hcc,if_neg (fun e=>hcs (by rcases e with e | e <;> simp [e])),if_neg (fun e=>hcs (by simp [e])),if_neg (fun e=>hcs (by rcases e with e | e <;> simp [e])),if_neg (fun e=>hcs (by rcases e with e | e | e <;> simp [e]))]
   have go:=bad4 eb
   simp only [not_or] at hcs
   obtain ⟨n1,n2,n3,n4,n5,n6,n7,n8⟩:=hcs
   have hy:yLe 48 cc=false∨(yLe 48 cc=true∧yLe cc 57=false):=by
    unfold isDig at n5
    unfold yLe
    cases h1:decide ((48:UInt8)≤cc) with
    | false=>exact .inl rfl
    | true=>
     rw [h1,Bool.true_and] at n5
     exact .inr ⟨rfl,by simpa using n5⟩
   rcases hy with y1 | ⟨y1,y2⟩
   ·simp -implicitDefEqProofs (disch:=omega) [L0,hye,hat,hss,hsee,n1,n2,n3,n4]
    unfold r_reader_value_19
    simp -implicitDefEqProofs (disch:=omega) [n6,n7,n8,y1]
    unfold r_reader_value_2 r_reader_value_1
    simp -implicitDefEqProofs (disch:=omega) [L0,hat]
    exact go
   ·simp -implicitDefEqProofs (disch:=omega) [L0,hye,hat,hss,hsee,n1,n2,n3,n4]
    unfold r_reader_value_19
    simp -implicitDefEqProofs (disch:=omega) [n6,n7,n8,y1,y2]
    unfold r_reader_value_2 r_reader_value_1
    simp -implicitDefEqProofs (disch:=omega) [L0,hat]
    exact go
 ·have hxe:xb.e≠0:=by rw [hbe];exact hx
  have hye:¬ y.err=0:=by rw [r.err];exact hxe
  have s0:P.see xb=0:=r.see0 hxe
  have hbody:(P.body (P.value f) xb).2=xb:=by
   unfold P.body
   dsimp only
   rw [s0,if_neg (by decide),if_neg (by decide),if_neg (by decide),if_neg (by decide)]
   exact P.err_bad hxe
  simp -implicitDefEqProofs (disch:=omega) [L0,hye]
  exact errs xb h y O r hxe (by rw [hbody]) (by rw [hbody]) (by rw [hbody]) (Fz.refl _ _ _ _)
theorem rvalue_spec (n:Nat):∀ f,f≤100→RSpec (n+2*f+6) f (P.value f)
 | 0,_=>by
  intro W c h p x y dp k O r b hdp hdr h9 h1 K
  by_cases e:x.e=0
  ·have:=h9 e;have:=b.d e;omega
  ·have:=h1 e;omega
 | f+1,hf=>by
  have:=rvalue_step (n:=n+2*f) (by omega) (rvalue_spec n f (by omega))
  exact this
end Go.Bvm.JN
set_option linter.unusedVariables false
set_option linter.unusedSimpArgs false
set_option maxRecDepth 20000
namespace Go.Bvm.JN
open Go.Bvm
theorem rRead_w {h:H} {s:Str} {k:KV} {n:Nat} (hs:s.length≤maxB) (K:∀ h' v,SlO [] h.next h' v (P.Read s).1→inR (P.Read s).2.1→inR (P.Read s).2.2→Ex h h'→k (tup3 v (P.Read s).2.1 (P.Read s).2.2) h'=true):run tbl (n+25) Nf_r_Read (vl [vs s]) h k=true:=by
 have hmB:s.length≤140737488355328:=hs
 rw [run_succ,tbl_r_Read]
 unfold T_r_Read r_Read_5 r_Read_0
 by_cases hl':(3000:Int)<s.length
 ·have e:P.Read s=([],0,2):=by unfold P.Read;rw [if_pos (by omega)]
  rw [e] at K
  have:=K h slnil (.nil _ _ _) (by decide) (by decide) (Fz.refl _ _ _ h)
  simp -implicitDefEqProofs (disch:=omega) [hl']
  exact this
 ·unfold r_Read_4
  simp -implicitDefEqProofs (disch:=omega) [hl']
  refine newA_w rfl (by decide) (by decide) fun h1 n1 B1 x1=>?_
  have E1:Ex h h1:=x1.ex (Nat.le_refl _)
  have hn1:h1.next=h.next+1:=n1
  have O1:amanuensisref1_readerO [] h.next h1 h.next (⟨s,0,[],0,0,0⟩ : RS):=⟨⟨by omega,Nat.le_refl _⟩,⟨by simp,by simp⟩,slnil,B1,hs,by show inR 0;decide,.nil _ _ _,by show inR 0;decide,by show inR 0;decide,by show inR 0;decide⟩
  have I0:PI (P.init s):=⟨by show (0:Int)≤0;decide,by show (0:Int)≤(s.length:Int);omega,by show s.length≤3000;omega⟩
  have r1:RR (P.init s) (⟨s,0,[],0,0,0⟩ : RS):=⟨⟨by show (0:Int)≤0;decide,by show (0:Int)≤(s.length:Int);omega,by show s.length≤3000;omega⟩,I0,rfl,rfl,by show 0≤1000000;decide,by show (0:Int)≤0∧(0:Int)≤1000000;decide,fun _=>rfl,fun _=>⟨rfl,rfl⟩,fun q=>absurd rfl q⟩
  have b1:P.Bd (P.init s):=by
   refine ⟨I0,?_,by show (0:Int)≤0;decide,?_,by show (0:Int)≤1000000;decide,by show (0:Int)≤0;decide,fun _=>by show (0:Int)≤8;decide⟩
   ·show ((0:Nat):Int)+30*((s.length:Int)-0)≤200000
    omega
   ·intro _
    show (0:Int)+30*((s.length:Int)-0)≤200000
    omega
  refine rblanks_w (n:=n+22) O1 r1.ri fun h2 O2 F2=>?_
  have nx2:=F2.nx
  refine rvalue_spec n 9 (by decide) [] h.next h2 h.next (P.init s) _ 0 _ O2 r1.blanks b1 (fun _=>rfl) (by decide) (fun _=>by show (9:Int)≤9+0;decide) (fun _=>by decide) fun h3 y3 z O3 r3 hz hzv F3=>?_
  have nx3:=F3.nx
  refine rblanks_w (n:=n+22) O3 r3.ri fun h4 O4 F4=>?_
  have nx4:=F4.nx
  have r4:=r3.blanks
  have G4:Ex h h4:=((E1.loc F2 (Nat.le_refl _) (Nat.le_refl _)).loc F3 (Nat.le_refl _) (Nat.le_refl _)).loc F4 (Nat.le_refl _) (Nat.le_refl _)
  have gv:=(P.value_g 9 (P.init s) b1 (fun _=>by show (9:Int)≤9+0;decide) (fun _=>by decide)).1
  have qb:=P.blanks_q _ gv.pi
  obtain ⟨xb,hxb⟩ : ∃ xb,xb=P.blanks (P.value 9 (P.init s)).2:=⟨_,rfl⟩
  obtain ⟨yb,hyb⟩ : ∃ yb,yb=R.blanks y3:=⟨_,rfl⟩
  rw [← hxb,← hyb] at r4
  rw [← hyb] at O4
  rw [← hxb] at qb
  have hS:xb.s=s:=by rw [qb.s,gv.s];rfl
  have hS2:yb.s=s:=r4.s.trans hS
  have hfin:P.fin s=P.last xb:=by rw [hxb];rfl
  have i0:=r4.ri.i0;have i1:=r4.ri.i1;have s1:=r4.ri.s1
  unfold r_Read_1
  have O4':=O4
  obtain ⟨_,_,w4,C4,_⟩:=O4'
  have L4:=fun {o m}=>C4.ld (n:=6) rfl (off:=o) (lim:=m)
  have tail:∀ (r:St) (y5:RS) (h5:H),amanuensisref1_readerO [] h.next h5 h.next y5→RR r y5→Ex h h5→P.fin s=r→seqM (r_Read_2 (run tbl (n+24)) big) (r_Read_3 (run tbl (n+24)) big) (f8 slnil (wz 0) (wz 0) (vs s) (pr h.next) V.u V.u V.u) h5 (fun q e h'=>finK (fun e h k=>k (.x .tup (vl [e.c0.c0,e.c0.c1,e.c0.c2]) V.nil)) k q e h')=true:=by
   intro r y5 h5 O5 r5 F5 e
   obtain ⟨_,_,w5,C5,g0,g1,g2,g3,g4,g5⟩:=O5
   have L5:=fun {o m}=>C5.ld (n:=6) rfl (off:=o) (lim:=m)
   have e':P.Read s=if r.e≠0 then ([],r.at_,r.e) else (r.l,0,0):=by unfold P.Read;rw [if_neg (by omega),e]
   unfold r_Read_2 r_Read_3
   by_cases he:r.e=0
   ·have hy:y5.err=0:=by rw [r5.err];exact he
    rw [if_neg (by simp [he])] at e'
    rw [e',← (r5.ok he).1] at K
    have:=K h5 w5 (g2.mono (Nat.le_refl _)) (by show inR 0;decide) (by show inR 0;decide) F5
    simp -implicitDefEqProofs (disch:=omega) [L5,hy]
    exact this
   ·have hy:¬ y5.err=0:=by rw [r5.err];exact he
    rw [if_pos he] at e'
    rw [e',← r5.er he,← r5.err] at K
    have:=K h5 slnil (.nil _ _ _) g5 g4 F5
    simp -implicitDefEqProofs (disch:=omega) [L5,hy]
    exact this
  by_cases he:xb.e=0
  ·have hy:yb.err=0:=by rw [r4.err];exact he
   have hat:=r4.at_ he
   by_cases hi:yb.at_<s.length
   ·simp -implicitDefEqProofs (disch:=omega) [L4,hy,hi]
    refine fails_w (n:=n+23) O4 (by decide) (by unfold inR;omega) fun h5 O5 F5=>?_
    have G5:Ex h h5:=G4.loc F5 (Nat.le_refl _) (Nat.le_refl _)
    refine tail _ _ h5 O5 (r4.fails (by decide) fun _=>hat) G5 ?_
    rw [hfin]
    unfold P.last
    rw [if_pos (by rw [hS,← hat];exact hi)]
   ·have:=tail _ _ h4 O4 r4 G4 (by rw [hfin];unfold P.last;rw [if_neg (by rw [hS,← hat];exact hi)])
    simp -implicitDefEqProofs (disch:=omega) [L4,hy,hi]
    exact this
  ·have hy:¬ yb.err=0:=by rw [r4.err];exact he
   have:=tail _ _ h4 O4 r4 G4 (by
    rw [hfin]
    unfold P.last
    split
    ·exact P.err_bad he
    ·rfl)
   simp -implicitDefEqProofs (disch:=omega) [L4,hy]
   exact this
end Go.Bvm.JN
