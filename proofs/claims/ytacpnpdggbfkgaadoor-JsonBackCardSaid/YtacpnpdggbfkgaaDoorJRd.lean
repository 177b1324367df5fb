/- Functions run by the abstract machine on values that are not all known. Conditions: stated in each theorem. -/
import Derived.Test.YtacpnpdggbfkgaaDoorJRc
set_option linter.unusedVariables false
set_option linter.unusedSimpArgs false
set_option linter.unusedVariables false
set_option linter.unusedSimpArgs false
set_option maxRecDepth 20000
namespace Go.Bvm.JN
open Go.Bvm
theorem EqStrings_w {X Y:List Nat} {h:H} {va vb:V} {a b:List Str} {k:KV} (A:Sl X h va a) (B:Sl Y h vb b) (hb:a.length<big) {n:Nat} (K:k (.t (decide (a=b))) h=true):run tbl (n+1) Nf_z_EqStrings (vl [va,vb]) h k=true:=by
 rw [run_succ,tbl_z_EqStrings]
 have ab:=A.bd;have bb:=B.bd
 have hm:maxB=140737488355328:=rfl
 unfold T_z_EqStrings z_EqStrings_6 z_EqStrings_0 z_EqStrings_4 z_EqStrings_5
 simp -implicitDefEqProofs (disch:=omega) [A.lenL,B.lenL]
 by_cases hl:a.length=b.length
 ·have hl':(a.length:Int)=b.length:=by omega
  simp -implicitDefEqProofs [hl']
  refine loop_w (fun m e h'=>∃ i:Nat,m=a.length-i∧i≤a.length∧e=f8 (V.t false) (wz i) va vb V.u V.u V.u V.u∧h'=h∧a.take i=b.take i) ?_ big a.length _ _ ⟨0,by simp⟩ hb
  rintro m e h' ⟨i,rfl,hi,rfl,rfl,ht⟩ K' Kn Kx Kr
  unfold z_EqStrings_1 z_EqStrings_2 z_EqStrings_3
  simp -implicitDefEqProofs (disch:=omega) [A.lenL]
  by_cases hi2:i<a.length
  ·obtain ⟨ra,a1⟩:=at_Str A hi2
   obtain ⟨rb,b1⟩:=at_Str B (show i<b.length by omega)
   simp -implicitDefEqProofs (disch:=omega) [a1,b1,hi2]
   by_cases c:a[i]=b[i]
   ·simp -implicitDefEqProofs (disch:=omega) [c]
    exact Kn _ _ _ (by omega) ⟨i+1,rfl,hi2,rfl,rfl,(take_succ_eq hi2 (by omega)).2 ⟨ht,c⟩⟩
   ·simp [c]
    refine Kr _ _ ?_
    simpa [ne_of_at c] using K
  ·simp [hi2]
   refine Kx _ _ _ ?_
   have:a=b:=by rw [List.take_of_length_le (by omega),List.take_of_length_le (by omega)] at ht;exact ht
   simpa [this] using K
 ·have hl':¬ (a.length:Int)=b.length:=by omega
  have:¬ a=b:=fun e=>hl (by rw [e])
  simpa [hl',this] using K
end Go.Bvm.JN
set_option linter.unusedVariables false
set_option linter.unusedSimpArgs false
set_option maxRecDepth 20000
namespace Go.Bvm.JN
open Go.Bvm
theorem flat_set {n:Nat} {m:List V} (hm:m.length=n):∀ {cs:List (List V)} (i:Nat),(∀ c∈cs,c.length=n)→i<cs.length→lput cs.flatten (i*n) m=(cs.set i m).flatten
 | [],i,_,hi=>by simp at hi
 | c::r,0,h,_=>by
  have hc:=h c List.mem_cons_self
  unfold lput
  simp [hc,hm]
 | c::r,i+1,h,hi=>by
  have hc:=h c List.mem_cons_self
  have ih:=flat_set hm (cs:=r) i (fun d hd=>h d (List.mem_cons_of_mem _ hd)) (by simpa using hi)
  rw [List.set_cons_succ,List.flatten_cons,List.flatten_cons,← ih]
  unfold lput
  rw [show (i+1)*n=c.length+i*n from by rw [hc,Nat.add_mul,Nat.one_mul];omega]
  rw [List.take_length_add_append,show c.length+i*n+m.length=c.length+(i*n+m.length) from by omega,List.drop_length_add_append]
  simp
theorem set_len {n:Nat} {m:List V} (hm:m.length=n) {cs:List (List V)} {i:Nat} (h:∀ c∈cs,c.length=n):∀ c∈cs.set i m,c.length=n:=by
 intro c hc
 rcases List.mem_or_eq_of_mem_set hc with q | q
 ·exact h c q
 ·rw [q];exact hm
theorem _root_.Go.Bvm.RowO.put {X:List Nat} {c:Nat} {h:H} {v:V} {ty n:Nat} {cs:List (List V)} (R:RowO X c h v ty n cs) {i:Nat} {m:List V} {k:KV} (hi:i<cs.length) (hm:m.length=n)
  (K:∀ h',RowO X c h' v ty n (cs.set i m)→h'.next=h.next→(∀ j,j∉rids v→hget j h'.tr=hget j h.tr)→k V.u h'=true):st false n (pel v (i:Int) 0) (.x .agg (vl m) V.nil) h k=true:=by
 obtain ⟨hn,hb,⟨rfl,rfl⟩ | ⟨id,ver,rfl,hci,hid,B⟩⟩:=R
 ·simp at hi
 have hfl:=flat_len hn
 have hle:(i+1)*n≤cs.length*n:=Nat.mul_le_mul_right _ hi
 rw [Nat.add_mul,Nat.one_mul] at hle
 show st false n (.p id (0+i*n+0) (0+cs.length*n) ver) _ h k=true
 rw [Nat.zero_add,Nat.add_zero,Nat.zero_add]
 refine sta_w B hm (by omega) (by omega) fun h1 n1 B1 x1=>?_
 rw [flat_set hm i hn hi] at B1
 refine K h1 ⟨set_len hm hn,by simpa using hb,.inr ⟨id,ver,by simp,hci,⟨by omega,hid.2⟩,B1⟩⟩ n1 fun j hj=>x1.2 j (by simpa using hj)
end Go.Bvm.JN
set_option linter.unusedVariables false
set_option linter.unusedSimpArgs false
namespace Go.Bvm.JN
open Go.Bvm
namespace P
def OKN (y:api_Json):Prop:=y.Keys.length≤4000∧y.Parts.length≤4000
def AllOK (x:St):Prop:=∀ y∈x.l,OKN y
theorem bad_l (x:St) (e a:Int):(bad x e a).l=x.l:=by unfold bad;split <;> rfl
theorem blanks_l (x:St):(blanks x).l=x.l:=by unfold blanks;split <;> rfl
theorem take_l (x:St) (c:UInt8):(take x c).l=x.l:=by
 unfold take;split
 ·exact bad_l _ _ _
 ·rfl
theorem begin_l (x:St) (d:Bool):(begin_ x d).l=x.l:=by
 unfold begin_;split
 ·exact bad_l _ _ _
 ·rfl
theorem text_l (x:St):(text x).2.l=x.l:=by
 unfold text;split
 ·exact bad_l _ _ _
 ·rfl
theorem number_l (x:St):(number x).2.l=x.l:=by
 unfold number;dsimp only;split
 ·rfl
 ·exact bad_l _ _ _
theorem literal_l:∀ (w:Str) (x:St),(literal x w).l=x.l
 | [],x=>rfl
 | b::w,x=>by show (literal (take x b) w).l=x.l;rw [literal_l w,take_l]
theorem name_l (x:St) (ks:List Str):(name x ks).2.l=x.l:=by
 unfold name;dsimp only;split
 ·rw [take_l,blanks_l]
  split
  ·rw [bad_l,text_l,blanks_l]
  ·rw [text_l,blanks_l]
 ·rw [bad_l,blanks_l]
theorem AllOK.eq {x y:St} (a:AllOK x) (h:y.l=x.l):AllOK y:=by unfold AllOK;rw [h];exact a
def VO (val:VF):Prop:=∀ x,AllOK x→AllOK (val x).2
theorem listL_ok {val:VF} (V:VO val):∀ (n:Nat) (x:St) (ps:List Int),AllOK x→AllOK (listL val n x ps).1∧(listL val n x ps).2.length≤ps.length+n
 | 0,x,ps,a=>⟨a,by show ps.length≤ps.length+0;omega⟩
 | n+1,x,ps,a=>by
  unfold listL
  split
  ·dsimp only
   have h1:AllOK (blanks (val x).2):=(V x a).eq (blanks_l _)
   split
   ·have:=listL_ok V n { blanks (val x).2 with i:=(blanks (val x).2).i+1 } (ps++[(val x).1]) (h1.eq rfl)
    exact ⟨this.1,by have:=this.2;simp at this;omega⟩
   ·exact ⟨h1,by simp⟩
  ·exact ⟨a,by dsimp only;omega⟩
theorem pairsL_ok {val:VF} (V:VO val):∀ (n:Nat) (x:St) (ks:List Str) (ps:List Int),AllOK x→AllOK (pairsL val n x ks ps).1∧(pairsL val n x ks ps).2.1.length≤ks.length+n∧(pairsL val n x ks ps).2.2.length≤ps.length+n
 | 0,x,ks,ps,a=>⟨a,by show ks.length≤ks.length+0;omega,by show ps.length≤ps.length+0;omega⟩
 | n+1,x,ks,ps,a=>by
  unfold pairsL
  split
  ·dsimp only
   have h1:AllOK (blanks (val (name x ks).2).2):=(V _ (a.eq (name_l x ks))).eq (blanks_l _)
   split
   ·have:=pairsL_ok V n { blanks (val (name x ks).2).2 with i:=(blanks (val (name x ks).2).2).i+1 } (ks++[(name x ks).1]) (ps++[(val (name x ks).2).1]) (h1.eq rfl)
    exact ⟨this.1,by have:=this.2.1;simp at this;omega,by have:=this.2.2;simp at this;omega⟩
   ·exact ⟨h1,by simp,by simp⟩
  ·exact ⟨a,by dsimp only;omega,by dsimp only;omega⟩
theorem open_l (x:St) (c:UInt8):(open_ x c).l=x.l:=by show (take (begin_ x true) c).l=x.l;rw [take_l,begin_l]
theorem nested_ok {val:VF} (V:VO val) (x:St) (c:UInt8) (a:AllOK x):AllOK (nested val x c).2∧OKN (nested val x c).1:=by
 unfold nested
 split
 ·have:=listL_ok V 4000 (blanks (open_ x c)) [] (a.eq (by rw [blanks_l,open_l]))
  exact ⟨this.1.eq (by show (take _ 93).l=_;rw [take_l]),by show 0≤4000;decide,by have h:=this.2;rw [List.length_nil,Nat.zero_add] at h;exact h⟩
 ·have:=pairsL_ok V 4000 (blanks (open_ x c)) [] [] (a.eq (by rw [blanks_l,open_l]))
  exact ⟨this.1.eq (by show (take _ 125).l=_;rw [take_l]),by have h:=this.2.1;rw [List.length_nil,Nat.zero_add] at h;exact h,by have h:=this.2.2;rw [List.length_nil,Nat.zero_add] at h;exact h⟩
theorem body_ok {val:VF} (V:VO val) (x:St) (a:AllOK x):AllOK (body val x).2∧OKN (body val x).1:=by
 have o0:∀ (a b:Int) (s:Str),OKN ⟨a,b,s,[],[]⟩:=fun a b s=>⟨by show 0≤4000;decide,by show 0≤4000;decide⟩
 unfold body
 dsimp only
 split
 ·exact nested_ok V x _ a
 ·split
  ·exact ⟨a.eq (by rw [text_l,begin_l]),o0 _ _ _⟩
  ·split
   ·exact ⟨a.eq (by rw [number_l,begin_l]),o0 _ _ _⟩
   ·split
    ·exact ⟨a.eq (by rw [literal_l,begin_l]),o0 _ _ _⟩
    ·exact ⟨a.eq (bad_l _ _ _),o0 _ _ _⟩
theorem value_ok:∀ f,VO (value f)
 | 0,x,a=>a
 | f+1,x,a=>by
  have:=body_ok (value_ok f) (blanks x) (a.eq (blanks_l x))
  intro y hy
  rcases List.mem_append.1 (show y∈(body (value f) (blanks x)).2.l++[(body (value f) (blanks x)).1] from hy) with q | q
  ·exact this.1 y q
  ·simp only [List.mem_cons,List.not_mem_nil,or_false] at q
   rw [q];exact this.2
theorem Read_ok (s:Str):(∀ y∈(Read s).1,OKN y)∧(Read s).1.length≤1000000:=by
 have b1:3000≥s.length→Bd (init s):=fun h=>by
  refine ⟨⟨by show (0:Int)≤0;decide,by show (0:Int)≤(s.length:Int);omega,by show s.length≤3000;omega⟩,?_,by show (0:Int)≤0;decide,?_,by show (0:Int)≤1000000;decide,by show (0:Int)≤0;decide,fun _=>by show (0:Int)≤8;decide⟩
  ·show ((0:Nat):Int)+30*((s.length:Int)-0)≤200000
   omega
  ·intro _
   show (0:Int)+30*((s.length:Int)-0)≤200000
   omega
 have hl:(fin s).l=(value 9 (init s)).2.l:=by
  unfold fin last
  split
  ·rw [bad_l,blanks_l]
  ·rw [blanks_l]
 unfold Read
 split
 ·exact ⟨fun y h=>by simp at h,by simp⟩
 ·rename_i h3
  split
  ·exact ⟨fun y h=>by simp at h,by simp⟩
  ·refine ⟨?_,?_⟩
   ·show ∀ y∈(fin s).l,OKN y
    rw [hl]
    exact value_ok 9 (init s) fun y h=>by simp [init] at h
   ·show (fin s).l.length≤1000000
    rw [hl]
    have g:=(value_g 9 (init s) (b1 (by omega)) (fun _=>by show (9:Int)≤9+0;decide) (fun _=>by decide)).1
    have h1:=g.l1
    have h2:=g.pi.i1
    have h4:=g.pi.s1
    have h5:((init s).l.length:Int)=0:=rfl
    have h6:(init s).i=0:=rfl
    rw [g.s] at h2 h4
    omega
end P
end Go.Bvm.JN
set_option linter.unusedVariables false
set_option linter.unusedSimpArgs false
namespace Go.Bvm.JN
open Go.Bvm
namespace P
def OKM (y:api_Json):Prop:=y.Keys.length≤4000∧y.Parts.length≤4000∧0≤y.Kind∧y.Kind≤7∧-20000000000≤y.N∧y.N≤20000000000∧y.S.length≤3000
def AllM (x:St):Prop:=x.s.length≤3000∧∀ y∈x.l,OKM y
theorem blanks_s (x:St):(blanks x).s=x.s:=by unfold blanks;split <;> rfl
theorem take_s (x:St) (c:UInt8):(take x c).s=x.s:=by
 unfold take;split
 ·exact bad_s _ _ _
 ·rfl
theorem begin_s (x:St) (d:Bool):(begin_ x d).s=x.s:=by
 unfold begin_;split
 ·exact bad_s _ _ _
 ·rfl
theorem text_s (x:St):(text x).2.s=x.s:=by
 unfold text;split
 ·exact bad_s _ _ _
 ·rfl
theorem number_s (x:St):(number x).2.s=x.s:=by
 unfold number;dsimp only;split
 ·rfl
 ·exact bad_s _ _ _
theorem literal_s:∀ (w:Str) (x:St),(literal x w).s=x.s
 | [],x=>rfl
 | b::w,x=>by show (literal (take x b) w).s=x.s;rw [literal_s w,take_s]
theorem name_s (x:St) (ks:List Str):(name x ks).2.s=x.s:=by
 unfold name;dsimp only;split
 ·rw [take_s,blanks_s]
  split
  ·rw [bad_s,text_s,blanks_s]
  ·rw [text_s,blanks_s]
 ·rw [bad_s,blanks_s]
theorem open_s (x:St) (c:UInt8):(open_ x c).s=x.s:=by show (take (begin_ x true) c).s=x.s;rw [take_s,begin_s]
theorem AllM.eq {x y:St} (a:AllM x) (h:y.l=x.l) (hs:y.s=x.s):AllM y:=by unfold AllM;rw [h,hs];exact a
def VM (val:VF):Prop:=∀ x,AllM x→AllM (val x).2
theorem listL_okm {val:VF} (V:VM val):∀ (n:Nat) (x:St) (ps:List Int),AllM x→AllM (listL val n x ps).1∧(listL val n x ps).2.length≤ps.length+n
 | 0,x,ps,a=>⟨a,by show ps.length≤ps.length+0;omega⟩
 | n+1,x,ps,a=>by
  unfold listL
  split
  ·dsimp only
   have h1:AllM (blanks (val x).2):=(V x a).eq (blanks_l _) (blanks_s _)
   split
   ·have:=listL_okm V n { blanks (val x).2 with i:=(blanks (val x).2).i+1 } (ps++[(val x).1]) (h1.eq rfl rfl)
    exact ⟨this.1,by have:=this.2;simp at this;omega⟩
   ·exact ⟨h1,by simp⟩
  ·exact ⟨a,by dsimp only;omega⟩
theorem pairsL_okm {val:VF} (V:VM val):∀ (n:Nat) (x:St) (ks:List Str) (ps:List Int),AllM x→AllM (pairsL val n x ks ps).1∧(pairsL val n x ks ps).2.1.length≤ks.length+n∧(pairsL val n x ks ps).2.2.length≤ps.length+n
 | 0,x,ks,ps,a=>⟨a,by show ks.length≤ks.length+0;omega,by show ps.length≤ps.length+0;omega⟩
 | n+1,x,ks,ps,a=>by
  unfold pairsL
  split
  ·dsimp only
   have h1:AllM (blanks (val (name x ks).2).2):=(V _ (a.eq (name_l x ks) (name_s x ks))).eq (blanks_l _) (blanks_s _)
   split
   ·have:=pairsL_okm V n { blanks (val (name x ks).2).2 with i:=(blanks (val (name x ks).2).2).i+1 } (ks++[(name x ks).1]) (ps++[(val (name x ks).2).1]) (h1.eq rfl rfl)
    exact ⟨this.1,by have:=this.2.1;simp at this;omega,by have:=this.2.2;simp at this;omega⟩
   ·exact ⟨h1,by simp,by simp⟩
  ·exact ⟨a,by dsimp only;omega,by dsimp only;omega⟩
theorem nested_okm {val:VF} (V:VM val) (x:St) (c:UInt8) (a:AllM x):AllM (nested val x c).2∧OKM (nested val x c).1:=by
 unfold nested
 split
 ·have:=listL_okm V 4000 (blanks (open_ x c)) [] (a.eq (by rw [blanks_l,open_l]) (by rw [blanks_s,open_s]))
  exact ⟨this.1.eq (by show (take _ 93).l=_;rw [take_l]) (by show (take _ 93).s=_;rw [take_s]),by show 0≤4000;decide,by have h:=this.2;rw [List.length_nil,Nat.zero_add] at h;exact h,by show (0:Int)≤6;decide,by show (6:Int)≤7;decide,by show (-20000000000:Int)≤0;decide,by show (0:Int)≤20000000000;decide,by show 0≤3000;decide⟩
 ·have:=pairsL_okm V 4000 (blanks (open_ x c)) [] [] (a.eq (by rw [blanks_l,open_l]) (by rw [blanks_s,open_s]))
  exact ⟨this.1.eq (by show (take _ 125).l=_;rw [take_l]) (by show (take _ 125).s=_;rw [take_s]),by have h:=this.2.1;rw [List.length_nil,Nat.zero_add] at h;exact h,by have h:=this.2.2;rw [List.length_nil,Nat.zero_add] at h;exact h,by show (0:Int)≤7;decide,by show (7:Int)≤7;decide,by show (-20000000000:Int)≤0;decide,by show (0:Int)≤20000000000;decide,by show 0≤3000;decide⟩
theorem body_okm {val:VF} (V:VM val) (x:St) (a:AllM x):AllM (body val x).2∧OKM (body val x).1:=by
 have o0:∀ (a b:Int) (s:Str),0≤a→a≤7→-20000000000≤b→b≤20000000000→s.length≤3000→OKM ⟨a,b,s,[],[]⟩:=fun a b s h1 h2 h3 h4 h5=>⟨by show 0≤4000;decide,by show 0≤4000;decide,h1,h2,h3,h4,h5⟩
 unfold body
 dsimp only
 split
 ·exact nested_okm V x _ a
 ·split
  ·refine ⟨a.eq (by rw [text_l,begin_l]) (by rw [text_s,begin_s]),o0 _ _ _ (by omega) (by omega) (by omega) (by omega) ?_⟩
   unfold text
   split
   ·simp
   ·rename_i y hy
    have:=(strF_bd hy).2.2
    have h2:=a.1
    rw [begin_s] at this
    simp at this
    exact Nat.le_trans this (by omega)
  ·split
   ·refine ⟨a.eq (by rw [number_l,begin_l]) (by rw [number_s,begin_s]),o0 _ _ _ (by omega) (by omega) ?_ ?_ (by simp)⟩
    ·exact (numV_bd _).1
    ·exact (numV_bd _).2
   ·split
    ·refine ⟨a.eq (by rw [literal_l,begin_l]) (by rw [literal_s,begin_s]),o0 _ _ _ ?_ ?_ (by omega) (by omega) (by simp)⟩
     ·unfold kindOf;split <;> (try split) <;> omega
     ·unfold kindOf;split <;> (try split) <;> omega
    ·exact ⟨a.eq (bad_l _ _ _) (bad_s _ _ _),o0 _ _ _ (by omega) (by omega) (by omega) (by omega) (by simp)⟩
theorem value_okm:∀ f,VM (value f)
 | 0,x,a=>a
 | f+1,x,a=>by
  have:=body_okm (value_okm f) (blanks x) (a.eq (blanks_l x) (blanks_s x))
  refine ⟨this.1.1,fun y hy=>?_⟩
  rcases List.mem_append.1 (show y∈(body (value f) (blanks x)).2.l++[(body (value f) (blanks x)).1] from hy) with q | q
  ·exact this.1.2 y q
  ·simp only [List.mem_cons,List.not_mem_nil,or_false] at q
   rw [q];exact this.2
theorem Read_okm (s:Str):(∀ y∈(Read s).1,OKM y)∧((Read s).2.2=0→(Read s).1≠[]):=by
 have hl:(fin s).l=(value 9 (init s)).2.l:=by
  unfold fin last
  split
  ·rw [bad_l,blanks_l]
  ·rw [blanks_l]
 unfold Read
 split
 ·exact ⟨fun y h=>by simp at h,fun h=>by simp at h⟩
 ·rename_i h3
  split
  ·rename_i he
   exact ⟨fun y h=>by simp at h,fun h=>absurd h he⟩
  ·refine ⟨?_,fun _=>?_⟩
   ·show ∀ y∈(fin s).l,OKM y
    rw [hl]
    exact (value_okm 9 (init s) ⟨by show s.length≤3000;omega,fun y h=>by simp [init] at h⟩).2
   ·show (fin s).l≠[]
    rw [hl]
    show (body (value 8) (blanks (init s))).2.l++[(body (value 8) (blanks (init s))).1]≠[]
    simp
end P
end Go.Bvm.JN
set_option linter.unusedVariables false
set_option linter.unusedSimpArgs false
set_option maxRecDepth 20000
namespace Go.Bvm.JN
open Go.Bvm
@[simp] theorem quoV_z {a b:Int} (k:V→Bool) (ha:0≤a∧a<9223372036854775808) (hb:0<b∧b<9223372036854775808):quoV (wz a) (wz b) k=k (wz (a / b)):=by
 obtain ⟨x,rfl⟩:=Int.eq_ofNat_of_zero_le ha.1
 obtain ⟨y,rfl⟩:=Int.eq_ofNat_of_zero_le (show 0≤b by omega)
 have hbi:bias=9223372036854775808:=rfl
 unfold wz
 obtain ⟨m,hm⟩ : ∃ m,m=((x:Int)+9223372036854775808).toNat:=⟨_,rfl⟩
 obtain ⟨m2,hm2⟩ : ∃ m2,m2=((y:Int)+9223372036854775808).toNat:=⟨_,rfl⟩
 rw [← hm,← hm2]
 show both (Nat.ble bias m) (both (Nat.ble (bias+1) m2) (k (.w ((m-bias) / (m2-bias)+bias))))=_
 have e1:m-bias=x:=by omega
 have e2:m2-bias=y:=by omega
 rw [ble_dec,ble_dec,bothd (by omega),bothd (by omega),e1,e2]
 congr 2
@[simp] theorem remV_z {a b:Int} (k:V→Bool) (ha:0≤a∧a<9223372036854775808) (hb:0<b∧b<9223372036854775808):remV (wz a) (wz b) k=k (wz (a % b)):=by
 obtain ⟨x,rfl⟩:=Int.eq_ofNat_of_zero_le ha.1
 obtain ⟨y,rfl⟩:=Int.eq_ofNat_of_zero_le (show 0≤b by omega)
 have hbi:bias=9223372036854775808:=rfl
 unfold wz
 obtain ⟨m,hm⟩ : ∃ m,m=((x:Int)+9223372036854775808).toNat:=⟨_,rfl⟩
 obtain ⟨m2,hm2⟩ : ∃ m2,m2=((y:Int)+9223372036854775808).toNat:=⟨_,rfl⟩
 rw [← hm,← hm2]
 show both (Nat.ble bias m) (both (Nat.ble (bias+1) m2) (k (.w ((m-bias) % (m2-bias)+bias))))=_
 have e1:m-bias=x:=by omega
 have e2:m2-bias=y:=by omega
 rw [ble_dec,ble_dec,bothd (by omega),bothd (by omega),e1,e2]
 congr 2
theorem wrap_u64 {a:Int} (h:0≤a∧a<18446744073709551616):IntKind.wrap .u64 a=a:=by
 unfold IntKind.wrap
 simp [IntKind.bits,IntKind.signed]
 omega
theorem wrap_i64 {a:Int} (h:0≤a∧a<9223372036854775808):IntKind.wrap .i64 a=a:=by
 unfold IntKind.wrap
 simp [IntKind.bits,IntKind.signed]
 omega
theorem Within_eq {a b:Int} (ha:0≤a∧a<9223372036854775808) (hb:0<b∧b<9223372036854775808) {n:Nat} (h:H) (k:KV):run tbl (n+1) Nf_l0_Within (vl [wz a,wz b]) h k=k (wz (a % b)) h:=by
 have t1:∀ {z:Int} (k:V→Bool),0≤z∧z<9223372036854775808→toI .u64 (wz z) k=k (mkI .u64 z):=by
  intro z k hz
  show k (mkI .u64 (IntKind.wrap .u64 (((z+9223372036854775808).toNat:Int)-9223372036854775808)))=_
  have:(((z+9223372036854775808).toNat:Int)-9223372036854775808)=z:=by omega
  rw [this,wrap_u64 (by omega)]
 have t2:∀ k:V→Bool,remV (mkI .u64 a) (mkI .u64 b) k=k (mkI .u64 (a.tmod b)):=by
  intro k
  show both true (both true (both (decide (IntKind.u64=IntKind.u64)) (bs (decide (b=0)) false (k (mkI .u64 (a.tmod b))))))=_
  rw [show decide (b=0)=false from decide_eq_false (by omega)]
  rfl
 have t3:a.tmod b=a % b:=Int.tmod_eq_emod_of_nonneg ha.1
 have m0:=Int.emod_nonneg a (show b≠0 by omega)
 have m1:=Int.emod_lt_of_pos a hb.1
 have t4:∀ k:V→Bool,toW (mkI .u64 (a % b)) k=k (wz (a % b)):=by
  intro k
  show k (.w ((IntKind.wrap .i64 (a % b)+9223372036854775808).toNat))=_
  rw [wrap_i64 (by omega)]
  rfl
 rw [run_succ,tbl_l0_Within]
 unfold T_l0_Within l0_Within_0
 simp -implicitDefEqProofs (disch:=omega) [t1 _ ha,t1 _ ⟨by omega,hb.2⟩,t2,t3,t4]
theorem Texts_w {W:List Nat} {h:H} {v:V} {xs:List Str} {k:KV} (A:Sl W h v xs) {n:Nat} (K:∀ t:Int,0≤t→t≤281474976710656→(t<1048576→∀ s∈xs,s.length≤t)→k (wz t) h=true):run tbl (n+1) Nf_l0_Texts (vl [v]) h k=true:=by
 have hbd:=A.bd
 have hm:maxB=140737488355328:=rfl
 rw [run_succ,tbl_l0_Texts]
 unfold T_l0_Texts l0_Texts_5 l0_Texts_3
 simp -implicitDefEqProofs (disch:=omega) [A.lenL]
 refine loop_w (fun m e h'=>∃ (i:Nat) (t:Int),m=(1048577-i)∧i≤xs.length∧i≤1048576∧e=f8 (wz 0) (wz i) v (wz t) V.u V.u V.u V.u∧h'=h∧(xs.length:Int)≤t∧t≤281474976710656∧(∀ s∈xs.take i,(s.length:Int)≤t)∧(1≤i→i≤xs.length)) ?_ big 1048577 _ _ ⟨0,xs.length,rfl,by omega,by omega,rfl,rfl,Int.le_refl _,by omega,by simp,by omega⟩ (by unfold big;omega)
 rintro m e h1 ⟨i,t,rfl,hi,hi6,rfl,rfl,ht0,ht1,hall,_⟩ K' Kn Kx Kr
 unfold l0_Texts_0
 have stop:(∀ s∈xs,t<1048576→(s.length:Int)≤t)→K' (X.x 0) (f8 (wz 0) (wz i) v (wz t) V.u V.u V.u V.u) h1=true:=by
  intro hs
  refine Kx _ _ _ ?_
  unfold l0_Texts_4
  simp -implicitDefEqProofs (disch:=omega)
  exact K t (by omega) ht1 fun q s hm=>hs s hm q
 by_cases hi2:i<xs.length
 ·have hi3:(i:Int)<xs.length:=by omega
  by_cases ht:t<1048576
  ·obtain ⟨ra,L⟩:=at_Str A hi2
   unfold l0_Texts_1 l0_Texts_2
   simp -implicitDefEqProofs (disch:=omega) [A.lenL,hi3,ht,L]
   refine Kn _ _ _ (by omega) ⟨i+1,t+xs[i].length,rfl,by omega,by omega,by simp,rfl,by omega,by omega,fun s hs=>?_,by omega⟩
   rw [List.take_succ_eq_append_getElem hi2] at hs
   rcases List.mem_append.1 hs with q | q
   ·have:=hall s q;omega
   ·simp only [List.mem_cons,List.not_mem_nil,or_false] at q
    rw [q];omega
  ·have:=stop fun s _ q=>absurd q ht
   simp -implicitDefEqProofs (disch:=omega) [A.lenL,hi3,ht]
   exact this
 ·have hi3:¬ (i:Int)<xs.length:=by omega
  have:=stop fun s hs _=>hall s (by rw [List.take_of_length_le (by omega)];exact hs)
  simp -implicitDefEqProofs (disch:=omega) [A.lenL,hi3]
  exact this
end Go.Bvm.JN
set_option linter.unusedVariables false
set_option linter.unusedSimpArgs false
set_option maxRecDepth 20000
namespace Go.Bvm.JN
open Go.Bvm
def JF:Type:=api_Json
instance:Enc JF:=⟨5,Ty_api_Json,[0,kR Ty_string,kO Ty_string,kR Ty_int,kO Ty_int],fun X h c (x:api_Json)=>∃ v1 v2,c=[wz x.Kind,wz x.N,vs x.S,v1,v2]∧inR x.Kind∧inR x.N∧x.S.length≤maxB∧Sl X h v1 x.Keys∧Sl X h v2 x.Parts,fun r=>by obtain ⟨v1,v2,e,f0,f1,f2,f3,f4⟩:=r;rw [e];rfl,fun r n1 F=>by obtain ⟨v1,v2,e,f0,f1,f2,f3,f4⟩:=r;exact ⟨v1,v2,e,f0,f1,f2,f3.gx n1 fun id a b c=>F id a b (mem_of c (by decide)),f4.gx n1 fun id a b c=>F id a b (mem_of c (by decide))⟩,fun r hx=>by obtain ⟨v1,v2,e,f0,f1,f2,f3,f4⟩:=r;exact ⟨v1,v2,e,f0,f1,f2,f3.xm hx,f4.xm hx⟩⟩
instance:Enc (List JF):=⟨1,Ty_Sl_api_Json,[0,kR Ty_api_Json,kO Ty_api_Json,kR Ty_string,kO Ty_string,kR Ty_int,kO Ty_int],fun X h c x=>∃ v,c=[v]∧Sl X h v x,fun r=>by obtain ⟨v,e,f0⟩:=r;rw [e];rfl,fun r n1 F=>by obtain ⟨v,e,f0⟩:=r;exact ⟨v,e,f0.gx n1 fun id a b c=>F id a b (mem_of c (by decide))⟩,fun r hx=>by obtain ⟨v,e,f0⟩:=r;exact ⟨v,e,f0.xm hx⟩⟩
theorem Sl.eqV {α:Type} [Enc α] {X:List Nat} {h:H} {v:V} {xs:List α} (S:Sl X h v xs):Go.Bvm.eqV v v=true:=by
 obtain ⟨cs,⟨_,_,⟨rfl,_⟩ | ⟨id,off,ver,frz,ex,own,l,rfl,_⟩⟩,_⟩:=S
 ·rfl
 ·exact eqV_sl _ _ _ _ _
theorem eqV_vs (s:Str):eqV (vs s) (vs s)=true:=by
 show both (Nat.beq s.length s.length) (Nat.beq (pack s) (pack s))=true
 rw [beq_dec,beq_dec,bothd rfl];simp
theorem Ask_ld {h:H} {p:Nat} {a b c:V} (B:Bk h p 0 0 Ty_amanuensislaw1_Ask true true [a,b,c]):(∀ k,ld1 (.p p 0 3 0) h k=k a)∧(∀ k,ld1 (.p p 1 3 0) h k=k b)∧(∀ k,ld1 (.p p 2 3 0) h k=k c)∧∀ k,lda 3 (.p p 0 3 0) h k=k (.x .agg (vl [a,b,c]) V.nil):=
 ⟨fun k=>B.ld (n:=3) rfl (by decide) (by decide) k,fun k=>B.ld (n:=3) rfl (by decide) (by decide) k,fun k=>B.ld (n:=3) rfl (by decide) (by decide) k,fun k=>(B.lda (n:=3) (l:=[a,b,c]) rfl (by simp) (by decide) k).trans rfl⟩
end Go.Bvm.JN
set_option linter.unusedVariables false
set_option linter.unusedSimpArgs false
set_option maxRecDepth 20000
namespace Go.Bvm.JN
open Go.Bvm
theorem decode_room (s:ByteArray) (pos:Nat) (h:pos<s.size):pos+(Utf8.decode s pos).2≤s.size:=by
 simp only [Utf8.decode]
 repeat' split
 all_goals simp_all
 all_goals omega
theorem wz_nat (n:Nat):V.w (n+bias)=wz (n:Int):=by
 have:((n:Int)+9223372036854775808).toNat=n+bias:=by have:bias=9223372036854775808:=rfl;omega
 unfold wz;rw [this]
abbrev It (h:H) (id l n pos:Nat):Prop:=hget id h.tr=.it l n pos
theorem itA_w {h:H} {id:Nat} {s:Str} {k:KV} (hs:s.length≤1000000000) (K:∀ h',h'.next=h.next→It h' id s.length (pack s) 0→Only h h' id→k (.p id 0 0 0) h'=true):itA id (vs s) h k=true:=by
 show both (Nat.ble s.length 1000000000) _=true
 rw [ble_dec,bothd hs]
 refine K _ rfl ?_ ⟨Nat.le_refl _,fun i q=>?_⟩
 ·show hget id (hset id _ h.tr)=_
  rw [hget_hset _ _ _ _ (Nat.zero_le _) (Nat.zero_le _),if_pos rfl]
 ·show hget i (hset id _ h.tr)=_
  rw [hget_hset _ _ _ _ (Nat.zero_le _) (Nat.zero_le _),if_neg q]
theorem itN_u {h:H} {id l n pos:Nat} {k:KV} (I:It h id l n pos) (hl:l≤1000000000):itN (.p id 0 0 0) h k=bs (Nat.ble l pos) (k (.x .tup (.x .cons (.t false) V.nil) V.nil) h)
 (bs (Nat.ble (Nat.mod n 256) 127) (k (.x .tup (.x .cons (.t true) (.x .cons (.w (pos+bias)) (.x .cons (mkI .i32 (Int.ofNat (Nat.mod n 256))) V.nil))) V.nil) ⟨h.next,hset id (.it l (Nat.div n 256) (Nat.succ pos)) h.tr⟩) (itH (decH (Nat.sub l pos) n) id l n pos h k)):=by
 show both (Nat.beq 0 0) (both (Nat.beq 0 0) (onIt (hget id h.tr) _))=_
 rw [show hget id h.tr=.it l n pos from I]
 show both true (both true (both (Nat.ble l 1000000000) _))=_
 rw [ble_dec l,bothd hl];rfl
theorem itN_end {h:H} {id l n pos:Nat} {k:KV} (I:It h id l n pos) (hl:l≤1000000000) (hp:l≤pos):itN (.p id 0 0 0) h k=k (.x .tup (.x .cons (.t false) V.nil) V.nil) h:=by
 rw [itN_u I hl,Nat.ble_eq_true_of_le hp,bs_true]
theorem itN_w {h:H} {id:Nat} {s:Str} {pos:Nat} {k:KV} (I:It h id s.length (pack (s.drop pos)) pos) (hl:s.length≤1000000000) (hp:pos<s.length)
  (K:∀ h' r pos',h'.next=h.next→pos<pos'→It h' id s.length (pack (s.drop pos')) pos'→Only h h' id→(r=s[pos].toNat∧r<128∧pos'=pos+1∨128≤r∧128≤s[pos].toNat)→k (.x .tup (vl [.t true,wz pos,mkI .i32 (Int.ofNat r)]) V.nil) h'=true):itN (.p id 0 0 0) h k=true:=by
 obtain ⟨n,hn⟩ : ∃ n,n=pack (s.drop pos):=⟨_,rfl⟩
 rw [← hn] at I
 have hd:s.drop pos=s[pos]::s.drop (pos+1):=List.drop_eq_getElem_cons hp
 have hb:=s[pos].toNat_lt
 have e0:n=s[pos].toNat+256*pack (s.drop (pos+1)):=by rw [hn,hd];rfl
 have e1:n % 256=s[pos].toNat:=by omega
 have e2:n / 256=pack (s.drop (pos+1)):=by omega
 have st:∀ (l m p:Nat),It ⟨h.next,hset id (.it l m p) h.tr⟩ id l m p∧Only h ⟨h.next,hset id (.it l m p) h.tr⟩ id:=fun l m p=>⟨by
  show hget id (hset id _ h.tr)=_
  rw [hget_hset _ _ _ _ (Nat.zero_le _) (Nat.zero_le _),if_pos rfl],Nat.le_refl _,fun i q=>by
  show hget i (hset id _ h.tr)=_
  rw [hget_hset _ _ _ _ (Nat.zero_le _) (Nat.zero_le _),if_neg q]⟩
 have hp':Nat.ble s.length pos=false:=by
  cases q:Nat.ble s.length pos with
  | true=>have:=Nat.le_of_ble_eq_true q;omega
  | false=>rfl
 rw [itN_u I hl,hp',bs_false,wz_nat]
 by_cases q:s[pos].toNat<128
 ·have:Nat.ble (Nat.mod n 256) 127=true:=Nat.ble_eq_true_of_le (by show n % 256≤127;omega)
  rw [this,bs_true]
  have e3:Nat.mod n 256=s[pos].toNat:=e1
  have e4:Nat.div n 256=pack (s.drop (pos+1)):=e2
  rw [e3,e4]
  exact K _ _ (pos+1) rfl (by omega) (st _ _ _).1 (st _ _ _).2 (.inl ⟨rfl,q,rfl⟩)
 ·have:Nat.ble (Nat.mod n 256) 127=false:=by
   cases z:Nat.ble (Nat.mod n 256) 127 with
   | true=>have:n % 256≤127:=Nat.le_of_ble_eq_true z;omega
   | false=>rfl
  rw [this,bs_false]
  have hu:decH (Nat.sub s.length pos) n=Utf8.decode ⟨s.toArray⟩ pos:=decH_eq (s:=⟨s.toArray⟩) (by show pos<s.toArray.size;simpa using hp) (by show s.length-pos=s.toArray.size-pos;simp) (by rw [hn])
  have hsz:(⟨s.toArray⟩ : ByteArray).size=s.length:=by show s.toArray.size=_;simp
  have hget:(⟨s.toArray⟩ : ByteArray)[pos]'(by rw [hsz];exact hp)=s[pos]:=by show s.toArray[pos]=_;simp
  have hh:=decode_high ⟨s.toArray⟩ pos (by rw [hsz];exact hp) (by rw [hget];omega)
  have hle:=decode_room ⟨s.toArray⟩ pos (by rw [hsz];exact hp)
  rw [hsz] at hle
  unfold itH
  rw [hu,wz_nat,ble_dec,bothd hle]
  have e5:n / 256 ^ (Utf8.decode ⟨s.toArray⟩ pos).2=pack (s.drop (pos+(Utf8.decode ⟨s.toArray⟩ pos).2)):=by rw [← List.drop_drop,pack_drop,hn]
  rw [e5]
  exact K _ _ _ rfl (by omega) (st _ _ _).1 (st _ _ _).2 (.inr ⟨hh.1,by omega⟩)
namespace P
def plainC (c:UInt8):Bool:=decide (32≤c.toNat) && decide (c.toNat≤126)
def plain (s:Str) (most:Nat):Bool:=decide (s.length≤most) && s.all plainC
end P
@[simp] theorem lssV_i (a b:Int) (k:V→Bool):lssV (mkI .i32 a) (mkI .i32 b) k=k (.t (decide (a<b))):=(Eq.refl _).trans rfl
@[simp] theorem gtrV_i (a b:Int) (k:V→Bool):gtrV (mkI .i32 a) (mkI .i32 b) k=k (.t (decide (a>b))):=(Eq.refl _).trans rfl
theorem plain1_eq {r:Nat} {n:Nat} {h:H} {k:KV}:run tbl (n+1) Nf_j_Plain_1 (vl [mkI .i32 (Int.ofNat r)]) h k=k (.t (decide (r<32∨126<r))) h:=by
 rw [run_succ,tbl_j_Plain_1]
 unfold T_j_Plain_1 j_Plain_1_0
 simp -implicitDefEqProofs (disch:=omega)
 by_cases h1:r<32
 ·have h2:(r:Int)<32:=by omega
  simp -implicitDefEqProofs (disch:=omega) [h1,h2]
 ·have h2:¬ (r:Int)<32:=by omega
  have h3:(126<(r:Int))=(126<r):=by apply propext;omega
  simp -implicitDefEqProofs (disch:=omega) [h1,h2,h3]
noncomputable abbrev fnP:V:=V.x (.func Nf_j_Plain_1) V.nil V.nil
theorem all_take {p:UInt8→Bool} {s:Str} {i:Nat} (h:i<s.length):(s.take (i+1)).all p=((s.take i).all p && p s[i]):=by
 rw [List.take_succ_eq_append_getElem h,List.all_append];simp
theorem indexFunc_w {h:H} {s:Str} (hs:s.length≤1000000) {n:Nat} {k:KV} (K:∀ h' z,Ex h h'→-1≤z→z≤1000000000→decide (0≤z)=!s.all P.plainC→k (wz z) h'=true) :
  run tbl (n+2) Nf_st_indexFunc (vl [vs s,fnP,.t true]) h k=true:=by
 have bd:∀ b:UInt8,b.toNat<256:=fun b=>b.toNat_lt
 rw [run_succ,tbl_st_indexFunc]
 unfold T_st_indexFunc st_indexFunc_5 st_indexFunc_3
 simp -implicitDefEqProofs (disch:=omega)
 refine itA_w (by omega) fun h1 n1 I1 o1=>?_
 have n1':h1.next=h.next+1:=n1
 have F1:Ex h h1:=⟨by omega,fun j hj=>o1.2 j (by omega),fun j hj _=>o1.2 j (by omega)⟩
 refine loop_w (fun m e h'=>∃ (pos:Nat) (v2:V),m=s.length-pos∧pos≤s.length∧e=f8 (wz 0) (.p h.next 0 0 0) v2 fnP (.t true) V.u V.u V.u∧It h' h.next s.length (pack (s.drop pos)) pos∧(s.take pos).all P.plainC=true∧Ex h h') ?_ big s.length _ _ ⟨0,V.u,rfl,by omega,rfl,I1,rfl,F1⟩ (by unfold big;omega)
 rintro m e h2 ⟨pos,v2,rfl,hp,rfl,I2,ha,F2⟩ K' Kn Kx Kr
 unfold st_indexFunc_2
 by_cases hp2:pos<s.length
 ·simp -implicitDefEqProofs (disch:=omega)
  refine itN_w I2 (by omega) hp2 fun h3 r pos' n3 hpp I3 o3 hr=>?_
  have F3:Ex h h3:=⟨by have:=F2.nx;omega,fun j hj=>(o3.2 j (by omega)).trans (F2.lo j hj),fun j hj _=>(o3.2 j (by omega)).trans (F2.lo j hj)⟩
  unfold st_indexFunc_0 st_indexFunc_1
  simp -implicitDefEqProofs (disch:=omega)
  show callV _ fnP (vl [mkI .i32 (Int.ofNat r)]) h3 _=true
  show run tbl (n+1) Nf_j_Plain_1 (vl [mkI .i32 (Int.ofNat r)]) h3 _=true
  rw [plain1_eq]
  by_cases hb:r<32∨126<r
  ·have hbad:P.plainC s[pos]=false:=by
    unfold P.plainC
    rcases hr with ⟨h1,h2,_⟩ | ⟨h1,h2⟩
    ·rcases hb with q | q
     ·have:¬ 32≤s[pos].toNat:=by omega
      simp [this]
     ·have:¬ s[pos].toNat≤126:=by omega
      simp [this]
    ·have:¬ s[pos].toNat≤126:=by omega
     simp [this]
   have hall:s.all P.plainC=false:=by
    cases q:s.all P.plainC with
    | false=>rfl
    | true=>rw [List.all_eq_true.1 q _ (List.getElem_mem hp2)] at hbad;simp at hbad
   simp -implicitDefEqProofs (disch:=omega) [hb]
   refine Kr _ _ ?_
   simp -implicitDefEqProofs (disch:=omega)
   exact K h3 pos F3 (by omega) (by omega) (by rw [hall];simp)
  ·rcases hr with ⟨h1,h2,h3'⟩ | ⟨h1,h2⟩
   ·subst h3'
    simp -implicitDefEqProofs (disch:=omega) [hb]
    refine Kn _ _ _ (by omega) ⟨pos+1,_,rfl,by omega,rfl,I3,?_,F3⟩
    rw [all_take hp2,ha]
    unfold P.plainC
    have q1:32≤s[pos].toNat:=by omega
    have q2:s[pos].toNat≤126:=by omega
    simp [q1,q2]
   ·omega
 ·rw [itN_end I2 (by omega) (by omega)]
  unfold st_indexFunc_0
  simp -implicitDefEqProofs (disch:=omega)
  refine Kx _ _ _ ?_
  unfold st_indexFunc_4
  simp -implicitDefEqProofs (disch:=omega)
  rw [List.take_of_length_le (by omega)] at ha
  exact K h2 (-1) F2 (by omega) (by omega) (by rw [ha];rfl)
theorem Plain_w {h:H} {s:Str} {most:Nat} (hm:most≤1000000) (hs:s.length≤maxB) {n:Nat} {k:KV} (K:∀ h',Ex h h'→k (.t (P.plain s most)) h'=true):run tbl (n+5) Nf_j_Plain (vl [vs s,wz most]) h k=true:=by
 have hmb:maxB=140737488355328:=rfl
 rw [run_succ,tbl_j_Plain]
 unfold T_j_Plain j_Plain_0
 by_cases hl:s.length≤most
 ·have hl2:(s.length:Int)≤most:=by omega
  simp -implicitDefEqProofs (disch:=omega) [hl2]
  rw [run_succ,tbl_st_ContainsFunc]
  unfold T_st_ContainsFunc st_ContainsFunc_0
  simp -implicitDefEqProofs (disch:=omega)
  rw [run_succ,tbl_st_IndexFunc]
  unfold T_st_IndexFunc st_IndexFunc_0
  simp -implicitDefEqProofs (disch:=omega)
  refine indexFunc_w (by omega) fun h1 z F hz1 hz2 hz=>?_
  have hk:=K h1 F
  unfold P.plain at hk
  have e1:decide (z≥0)=!s.all P.plainC:=hz
  simp -implicitDefEqProofs (disch:=omega) [hz,nots]
  simpa [hl] using hk
 ·have hl2:¬ (s.length:Int)≤most:=by omega
  simp -implicitDefEqProofs (disch:=omega) [hl2]
  have hk:=K h (Fz.refl _ _ _ _)
  unfold P.plain at hk
  simpa [hl] using hk
end Go.Bvm.JN
set_option linter.unusedVariables false
set_option linter.unusedSimpArgs false
set_option maxRecDepth 20000
namespace Go.Bvm.JN
open Go.Bvm
theorem acap_abytes:∀ (s:Str) (j:Nat) (c:Arr),acap (abytes s.length (pack s) j c)=acap c
 | [],j,c=>rfl
 | b::r,j,c=>by
  have hb:=b.toNat_lt
  show acap (abytes r.length ((b.toNat+256*pack r) / 256) (j+1) (aset j (.y ((b.toNat+256*pack r) % 256)) c))=_
  rw [show (b.toNat+256*pack r) / 256=pack r by omega,acap_abytes r,acap_aset]
theorem aget_abytes:∀ (s:Str) (j:Nat) (c:Arr) (t:Nat),j+s.length≤acap c→t<acap c→aget t (abytes s.length (pack s) j c)=if h:j≤t∧t<j+s.length then vy (s[t-j]'(by omega)) else aget t c
 | [],j,c,t,_,_=>by rw [dif_neg (by simp)];rfl
 | b::r,j,c,t,h1,h2=>by
  have hb:=b.toNat_lt
  simp only [List.length_cons] at h1
  show aget t (abytes r.length ((b.toNat+256*pack r) / 256) (j+1) (aset j (.y ((b.toNat+256*pack r) % 256)) c))=_
  rw [show (b.toNat+256*pack r) / 256=pack r by omega,show (b.toNat+256*pack r) % 256=b.toNat by omega,aget_abytes r (j+1) _ t (by rw [acap_aset];omega) (by rw [acap_aset];exact h2)]
  by_cases h:j+1≤t∧t<j+1+r.length
  ·rw [dif_pos h,dif_pos (by simp only [List.length_cons];omega)]
   have:t-j=(t-(j+1))+1:=by omega
   simp [this]
  ·rw [dif_neg h,aget_aset _ _ _ _ h2 (by omega)]
   by_cases e:t=j
   ·subst e
    rw [if_pos rfl,dif_pos ⟨Nat.le_refl _,by simp⟩]
    simp;rfl
   ·rw [if_neg e,dif_neg (by simp only [List.length_cons];omega)]
theorem app_s0 {esz elem:Nat} {x:V} {h:H} {k:KV} (he:esz=1) (hx:x=slnil∨∃ a b c d e,x=.sl a b c d e):app esz elem x (vs []) h k=k x h:=by
 subst he
 rcases hx with rfl | ⟨a,b,c,d,e,rfl⟩ <;> rfl
theorem app_nil_s {h:H} {elem:Nat} {s:Str} {k:KV} (hn:1≤s.length) (hm:s.length≤17179869184)
  (K:∀ h',h'.next=h.next+1→Bk h' h.next 0 0 elem false true (s.map vy)→Only h h' h.next→k (.sl h.next 0 s.length 0 1) h'=true):app 1 elem slnil (vs s) h k=true:=by
 have hf:=acap_fresh (s.length*1) (by omega)
 obtain ⟨q1,q2⟩:=hset_bk (h:=h) (id:=h.next) (ver:=0) (frz:=0) (elem:=elem) (ex:=false) (own:=true) (l:=s.map vy) (c:=abytes s.length (pack s) 0 (fresh (s.length*1))) (n:=s.length*1) (by simp) (by rw [acap_abytes];simpa using hf) (fun j hj=>by
  simp at hj
  rw [aget_abytes s 0 (fresh (s.length*1)) j (by omega) (by omega),dif_pos (by omega)]
  simp) (h.next+1) (Nat.le_succ _)
 have hb0:Nat.beq s.length 0=false:=by rw [beq_dec];exact decide_eq_false (by omega)
 show both true (both true (bs (Nat.beq s.length 0) _ (both (Nat.ble (s.length*1) 17179869184) (both (Nat.ble 0 (h.next+1)) (k _ _)))))=true
 rw [hb0,bs_false,ble_dec,ble_dec,both_t,both_t,bothd (by omega),bothd (Nat.zero_le _)]
 exact K _ rfl q1 q2
theorem app_row_s {h:H} {elem id len ver:Nat} {ex:Bool} {s:Str} {m:List V} {k:KV} (b:Bk h id ver 0 elem ex true m) (hn:1≤s.length) (hm:m.length=len) (hle:m.length+s.length≤17179869184)
  (K:∀ h',h'.next=h.next→Bk h' id (ver+1) 0 elem false true (m++s.map vy)→Only h h' id→k (.sl id 0 (len+s.length) (ver+1) 1) h'=true):app 1 elem (.sl id 0 len ver 1) (vs s) h k=true:=by
 obtain ⟨d,m2,m3,m4⟩:=b
 have hr:=acap_room (m.length+s.length*1) d (by omega)
 have hlen:(m++s.map vy).length=m.length+s.length:=by simp
 obtain ⟨q1,q2⟩:=hset_bk (h:=h) (id:=id) (ver:=ver+1) (frz:=0) (elem:=elem) (ex:=false) (own:=true) (l:=m++s.map vy) (c:=abytes s.length (pack s) m.length (room (m.length+s.length*1) d)) (n:=m.length+s.length*1) (by rw [hlen];omega) (by rw [acap_abytes,hlen];omega) (fun j hj=>by
  rw [hlen] at hj
  rw [aget_abytes s m.length (room (m.length+s.length*1) d) j (by omega) (by omega)]
  by_cases hjm:j<m.length
  ·rw [dif_neg (by omega),aget_room _ _ _ (by omega),m4 j hjm,List.getElem_append_left hjm]
  ·rw [dif_pos (by omega),List.getElem_append_right (by omega)]
   simp) h.next (Nat.le_refl _)
 have hb0:Nat.beq s.length 0=false:=by rw [beq_dec];exact decide_eq_false (by omega)
 show both true (both true (bs (Nat.beq s.length 0) _ (both true (onBk (hget id h.tr) _))))=true
 rw [hb0,bs_false,m2]
 show both true (both true (both true (both true (both (Nat.beq ver ver) (both (both (Nat.beq elem elem) (Nat.ble 0 (0+len*1))) (bs (both (Nat.beq 0 0) (Nat.beq (len*1) m.length)) (both (Nat.ble (m.length+s.length*1) 17179869184) (k _ _)) _))))))=true
 have e:Nat.beq (len*1) m.length=true:=by rw [hm];simp
 rw [both_t,both_t,both_t,both_t,beq_dec ver ver,bothd rfl,beq_dec elem elem,bothd rfl,ble_dec 0,bothd (Nat.zero_le _),e,ble_dec]
 show both (decide (m.length+s.length*1≤17179869184)) _=_
 rw [bothd (by omega)]
 exact K _ rfl q1 q2
theorem all_bytes {X:List Nat} {h:H}:∀ (s:Str),All X h (s.map fun b=>[vy b]) s:=fun s=>⟨by simp,fun i c x e1 e2=>by
 rw [List.getElem?_map,e2] at e1
 simp at e1
 exact e1.symm⟩
theorem all_app {X:List Nat} {h:H} {a b:List (List V)} {s t:Str} (A:All X h a s) (B:All X h b t):All X h (a++b) (s++t):=⟨by simp [A.1,B.1],fun i c x e1 e2=>by
 by_cases hi:i<a.length
 ·rw [List.getElem?_append_left hi] at e1
  rw [List.getElem?_append_left (by rw [← A.1];exact hi)] at e2
  exact A.2 i c x e1 e2
 ·rw [List.getElem?_append_right (by omega)] at e1
  rw [List.getElem?_append_right (by rw [← A.1];omega),← A.1] at e2
  exact B.2 _ c x e1 e2⟩
theorem flat_bytes:∀ (s:Str),(s.map fun b=>[vy b]).flatten=s.map vy
 | []=>rfl
 | b::r=>by rw [List.map_cons,List.flatten_cons,flat_bytes r];rfl
theorem appS {X:List Nat} {c:Nat} {h:H} {v:V} {l:Str} {k:KV} (S:SlO X c h v l) (s:Str) (hl:l.length+s.length≤1000000000) (hc:c≤h.next) (hX:∀ j,j∈X→j<h.next)
  (K:∀ h' w,SlO X c h' w (l++s)→(l++s=[]→v=slnil→w=slnil)→Fz c h.next [kR Ty_uint8] h h'→k w h'=true):app 1 Ty_uint8 v (vs s) h k=true:=by
 have hmB:maxB=140737488355328:=rfl
 obtain ⟨cs,⟨hcn,hcl,q⟩,A⟩:=S
 have hcn:∀ d∈cs,d.length=1:=hcn
 rcases Nat.eq_zero_or_pos s.length with z | z
 ·obtain rfl:=List.eq_nil_of_length_eq_zero z
  rw [app_s0 rfl (by rcases q with ⟨rfl,_⟩ | ⟨id,ver,rfl,_⟩;exact .inl rfl;exact .inr ⟨_,_,_,_,_,rfl⟩),List.append_nil] at *
  exact K h v ⟨cs,⟨hcn,hcl,q⟩,A⟩ (fun _ e=>e) (Fz.refl _ _ _ _)
 have hcn':∀ d∈cs++s.map (fun b=>[vy b]),d.length=1:=fun d hd=>by
  rcases List.mem_append.1 hd with z | z
  ·exact hcn d z
  ·obtain ⟨b,_,rfl⟩:=List.mem_map.1 z;rfl
 have hlc:cs.length=l.length:=A.1
 have hne:l++s=[]→∀ v w:V,v=slnil→w=slnil:=fun e=>by
  have:=congrArg List.length e
  simp at this
  have:=this.2
  rw [this] at z;simp at z
 rcases q with ⟨rfl,rfl⟩ | ⟨id,ver,rfl,hci,hid,B⟩
 ·refine app_nil_s z (by omega) fun h2 n2 b2 o2=>?_
  refine K h2 _ ⟨[]++s.map (fun b=>[vy b]),⟨hcn',by simp;simp at hlc;omega,.inr ⟨h.next,0,by simp;rfl,hc,⟨by omega,fun k=>by have:=hX _ k;omega⟩,by rw [List.nil_append,flat_bytes];exact b2⟩⟩,all_app ⟨A.1,fun i c x e=>by simp at e⟩ (all_bytes s)⟩ (fun e q=>hne e _ _ q) ⟨by omega,fun j hj=>o2.2 j (by omega),fun j hj _=>o2.2 j (by omega)⟩
 ·have hfl:=flat_len hcn
  refine app_row_s B z (by rw [hfl];omega) (by rw [hfl];omega) fun h2 n2 b2 o2=>?_
  refine K h2 _ ⟨cs++s.map (fun b=>[vy b]),⟨hcn',by simp;omega,.inr ⟨id,ver+1,by simp;rfl,hci,⟨by omega,hid.2⟩,by rw [List.flatten_append,flat_bytes];exact b2⟩⟩,all_app ⟨A.1,fun i c x e1 e2=>A.2 i c x e1 e2⟩ (all_bytes s)⟩ (fun e q=>hne e _ _ q) ((Fz.refl c h.next _ h).put o2 hci (.inr (by rw [B.kd];exact List.mem_cons_self)))
theorem writeString_w {c:Nat} {h:H} {b:Nat} {l s:Str} {k:KV} (P:WO c h b l) (hl:l.length+s.length≤1000000000) {n:Nat} (K:∀ h' r,WO c h' b (l++s)→Fz c h.next MB h h'→k r h'=true):run tbl (n+3) Nf_st_Builder_WriteString (vl [.p b 0 2 0,vs s]) h k=true:=by
 have hp:=P.1
 rw [run_succ,tbl_st_Builder_WriteString]
 unfold T_st_Builder_WriteString st_Builder_WriteString_0
 simp -implicitDefEqProofs (disch:=omega)
 refine copyCheck_w P fun h1 v hb B hz S F1=>?_
 have L:=fun {o m}=>B.ld (n:=2) rfl (off:=o) (lim:=m)
 have n1:=F1.nx
 simp -implicitDefEqProofs (disch:=omega) [L]
 refine appS S s hl (by omega) (by simp) fun h2 w S2 hw F2=>?_
 have B2:=B.fz F2 hb (by decide)
 have n2:=F2.nx
 refine st_w B2 (by simp) (by decide) S2.sl.one fun h3 n3 B3 o=>?_
 have F3:Fz c h2.next [kO Ty_strings_Builder] h2 h3:=(Fz.refl c h2.next _ h2).put o hp.2 (.inr (by rw [B2.kd];exact List.mem_cons_self))
 refine K h3 _ ⟨⟨by omega,hp.2⟩,_,_,B3,.inr rfl,fun e=>hw e (hz (List.append_eq_nil_iff.1 e).1),S2.fz F3 (Nat.le_refl _) (by decide)⟩ (((F1.mono (Nat.le_refl _) (Nat.le_refl _) (by decide)).trans F2 (Nat.le_refl _) n1 (by decide)).trans F3 (Nat.le_refl _) (by omega) (by decide))
end Go.Bvm.JN
set_option linter.unusedVariables false
set_option linter.unusedSimpArgs false
set_option maxRecDepth 20000
namespace Go.Bvm.JN
open Go.Bvm
abbrev Pin (h:H):Prop:=hget Pg h.tr=.pin 0 0 0
theorem Pin.fz {c b:Nat} {M:List Nat} {h h':H} (p:Pin h) (F:Fz c b M h h') (hb:Pg<b) (n:1∉M):Pin h':=(F.hi Pg hb (by rw [show hget Pg h.tr=.pin 0 0 0 from p];exact n)).trans p
theorem tenN_eq {k:Nat→Nat→Bool}:∀ (fuel m:Nat) (rest:List UInt8),m<10 ^ (fuel+1)→tenN k (fuel+1) m (pack rest) rest.length=k (Lib.decDigits m++rest).length (pack (Lib.decDigits m++rest))
 | fuel,m,rest,h=>by
  show bs (Nat.ble m 9) (k (Nat.succ rest.length) (Nat.add (Nat.add 48 m) (Nat.mul 256 (pack rest)))) (tenN k fuel (Nat.div m 10) (Nat.add (Nat.add 48 (Nat.mod m 10)) (Nat.mul 256 (pack rest))) (Nat.succ rest.length))=_
  by_cases hm:m<10
  ·rw [show Nat.ble m 9=true from Nat.ble_eq_true_of_le (by omega),bs_true]
   rw [Lib.decDigits,dif_pos hm]
   have e:(UInt8.ofNat (48+m)).toNat=48+m:=by simp;omega
   rw [List.singleton_append,pack_cons,e,List.length_cons]
   rfl
  ·have hb:Nat.ble m 9=false:=by
    cases hq:Nat.ble m 9 with
    | true=>exact absurd (ble_true hq) (by omega)
    | false=>rfl
   rw [hb,bs_false]
   have e:(UInt8.ofNat (48+m % 10)).toNat=48+m % 10:=by simp;omega
   cases fuel with
   | zero=>simp at h;omega
   | succ f=>
    have h2:=tenN_eq (k:=k) f (m / 10) (UInt8.ofNat (48+m % 10)::rest) (by rw [Nat.pow_succ] at h;omega)
    rw [pack_cons,e,List.length_cons] at h2
    rw [Lib.decDigits,dif_neg hm,List.append_assoc,List.singleton_append]
    exact h2
theorem tbl_sc_Itoa (cf:CallF):tbl cf Nf_sc_Itoa=extTen 20 Pg:=rfl
theorem Itoa_eq {h:H} {z:Int} {n:Nat} {k:KV} (p:Pin h) (hz:inR z):run tbl (n+1) Nf_sc_Itoa (vl [wz z]) h k=k (vs (Lib.itoa z)) h:=by
 have hz:-9223372036854775808≤z∧z<9223372036854775808:=by unfold inR at hz;omega
 have hb:bias=9223372036854775808:=rfl
 rw [run_succ,tbl_sc_Itoa]
 obtain ⟨m,hm⟩ : ∃ m,m=(z+9223372036854775808).toNat:=⟨_,rfl⟩
 show onW (wz z) (fun m=>onPin (hget Pg h.tr) fun p _ _=>both (Nat.beq p 0) (bs (Nat.ble bias m) (tenN (fun l n=>k (.s l n) h) 20 (Nat.sub m bias) 0 0) (tenN (fun l n=>k (.s (Nat.succ l) (Nat.add 45 (Nat.mul 256 n))) h) 20 (Nat.sub bias m) 0 0)))=_
 rw [show hget Pg h.tr=.pin 0 0 0 from p]
 unfold wz
 rw [← hm]
 show both true (bs (Nat.ble bias m) (tenN (fun l n=>k (.s l n) h) 20 (Nat.sub m bias) 0 0) (tenN (fun l n=>k (.s (Nat.succ l) (Nat.add 45 (Nat.mul 256 n))) h) 20 (Nat.sub bias m) 0 0))=_
 rw [both_t]
 by_cases h0:0≤z
 ·rw [Nat.ble_eq_true_of_le (show bias≤m by omega),bs_true]
  have e1:Nat.sub m bias=z.toNat:=by show m-bias=_;omega
  have:=tenN_eq (k:=fun l n=>k (.s l n) h) 19 z.toNat [] (by omega)
  rw [List.append_nil] at this
  rw [e1]
  refine this.trans ?_
  unfold Lib.itoa
  rw [if_neg (by omega)]
  rfl
 ·have hf:Nat.ble bias m=false:=by
   cases q:Nat.ble bias m with
   | true=>have:=Nat.le_of_ble_eq_true q;omega
   | false=>rfl
  rw [hf,bs_false]
  have e1:Nat.sub bias m=z.natAbs:=by show bias-m=_;omega
  have:=tenN_eq (k:=fun l n=>k (.s (Nat.succ l) (Nat.add 45 (Nat.mul 256 n))) h) 19 z.natAbs [] (by omega)
  rw [List.append_nil] at this
  rw [e1]
  refine this.trans ?_
  unfold Lib.itoa
  rw [if_pos (by omega)]
  rfl
theorem itoa_len (z:Int) (hz:inR z):(Lib.itoa z).length≤21:=by
 have dl:∀ (f m:Nat),m<10 ^ (f+1)→(Lib.decDigits m).length≤f+1:=fun f=>by
  induction f with
  | zero=>intro m h;rw [Lib.decDigits,dif_pos (by simpa using h)];simp
  | succ f ih=>
   intro m h
   rw [Lib.decDigits]
   split
   ·simp
   ·rw [List.length_append];have:=ih (m / 10) (by rw [Nat.pow_succ] at h;omega);simp;omega
 have hz:-9223372036854775808≤z∧z<9223372036854775808:=by unfold inR at hz;omega
 unfold Lib.itoa
 split
 ·have:=dl 19 z.natAbs (by omega);simp;omega
 ·have:=dl 19 z.toNat (by omega);omega
namespace P
def escC (c:UInt8):Str:=if c=34∨c=92 then [92,c] else [c]
def esc (s:Str):Str:=s.flatMap escC
def quote (s:Str):Str:=[34]++esc s++[34]
theorem esc_len (s:Str):(esc s).length≤2*s.length:=by
 induction s with
 | nil=>simp [esc]
 | cons c r ih=>
  have:(escC c).length≤2:=by unfold escC;split <;> simp
  have e:esc (c::r)=escC c++esc r:=rfl
  rw [e,List.length_append,List.length_cons];omega
theorem esc_take {s:Str} {i:Nat} (h:i<s.length):esc (s.take (i+1))=esc (s.take i)++escC s[i]:=by
 unfold esc
 rw [List.take_succ_eq_append_getElem h,List.flatMap_append];simp
theorem quote_len (s:Str):(quote s).length≤2*s.length+2:=by
 have:=esc_len s
 unfold quote;simp;omega
end P
theorem quoted_w {c:Nat} {h:H} {b:Nat} {l s:Str} {k:KV} (W:WO c h b l) (hl:l.length≤900000000) (hs:s.length≤1000000) {n:Nat} (K:∀ h',WO c h' b (l++P.quote s)→Fz c h.next MB h h'→k tup0 h'=true):run tbl (n+4) Nf_j_quoted (vl [.p b 0 2 0,vs s]) h k=true:=by
 rw [run_succ,tbl_j_quoted]
 unfold T_j_quoted j_quoted_8 j_quoted_6
 simp -implicitDefEqProofs (disch:=omega)
 refine writeByte_w W (by omega) fun h1 W1 F1=>?_
 refine loop_w (fun m e h'=>∃ (i:Nat) (v4:V),m=s.length-i∧i≤s.length∧e=f8 (wz i) (wz s.length) (vs s) (.p b 0 2 0) v4 V.u V.u V.u∧WO c h' b (l++([34]++P.esc (s.take i)))∧Fz c h.next MB h h') ?_ big s.length _ _ ⟨0,V.u,rfl,by omega,rfl,by simpa [P.esc] using W1,F1⟩ (by unfold big;omega)
 rintro m e h2 ⟨i,v4,rfl,hi,rfl,W2,F2⟩ K' Kn Kx Kr
 have n2:=F2.nx
 have el:=P.esc_len (s.take i)
 have tl:(s.take i).length≤s.length:=by simp;omega
 unfold j_quoted_5 j_quoted_0
 by_cases hi2:i<s.length
 ·have hi3:(i:Int)<s.length:=by omega
  unfold j_quoted_3 j_quoted_1 j_quoted_2 j_quoted_4
  by_cases hq:s[i]=34
  ·simp -implicitDefEqProofs (disch:=omega) [hi2,hi3,hq]
   refine writeByte_w W2 (by simp;omega) fun h3 W3 F3=>?_
   refine writeByte_w W3 (by simp;omega) fun h4 W4 F4=>?_
   have n3:=F3.nx
   refine Kn _ _ _ (by omega) ⟨i+1,wz i,rfl,by omega,by simp,?_,(F2.trans F3 (Nat.le_refl _) n2 (fun _ k=>k)).trans F4 (Nat.le_refl _) (by omega) (fun _ k=>k)⟩
   rw [P.esc_take hi2]
   unfold P.escC
   rw [if_pos (.inl hq),hq]
   simpa using W4
  ·by_cases hq2:s[i]=92
   ·simp -implicitDefEqProofs (disch:=omega) [hi2,hi3,hq,hq2]
    refine writeByte_w W2 (by simp;omega) fun h3 W3 F3=>?_
    refine writeByte_w W3 (by simp;omega) fun h4 W4 F4=>?_
    have n3:=F3.nx
    refine Kn _ _ _ (by omega) ⟨i+1,wz i,rfl,by omega,by simp,?_,(F2.trans F3 (Nat.le_refl _) n2 (fun _ k=>k)).trans F4 (Nat.le_refl _) (by omega) (fun _ k=>k)⟩
    rw [P.esc_take hi2]
    unfold P.escC
    rw [if_pos (.inr hq2),hq2]
    simpa using W4
   ·simp -implicitDefEqProofs (disch:=omega) [hi2,hi3,hq,hq2]
    refine writeByte_w W2 (by simp;omega) fun h3 W3 F3=>?_
    refine Kn _ _ _ (by omega) ⟨i+1,wz i,rfl,by omega,by simp,?_,F2.trans F3 (Nat.le_refl _) n2 (fun _ k=>k)⟩
    rw [P.esc_take hi2]
    unfold P.escC
    rw [if_neg (by rintro (z | z);exact hq z;exact hq2 z)]
    simpa using W3
 ·have hi3:¬ (i:Int)<s.length:=by omega
  simp -implicitDefEqProofs (disch:=omega) [hi3]
  refine Kx _ _ _ ?_
  unfold j_quoted_7
  simp -implicitDefEqProofs (disch:=omega)
  rw [List.take_of_length_le (by omega)] at W2
  have el:=P.esc_len s
  refine writeByte_w W2 (by simp;omega) fun h3 W3 F3=>?_
  refine K h3 ?_ (F2.trans F3 (Nat.le_refl _) n2 (fun _ k=>k))
  unfold P.quote
  simpa using W3
end Go.Bvm.JN
set_option linter.unusedVariables false
set_option linter.unusedSimpArgs false
set_option maxRecDepth 20000
namespace Go.Bvm.JN
open Go.Bvm
theorem nodup_take {l:List Str} {i:Nat} (h:i<l.length):(l.take (i+1)).Nodup↔(l.take i).Nodup∧¬ l[i]∈l.take i:=by
 rw [List.take_succ_eq_append_getElem h,List.nodup_append]
 constructor
 ·rintro ⟨a,_,c⟩
  exact ⟨a,fun q=>c _ q _ (by simp) rfl⟩
 ·rintro ⟨a,b⟩
  refine ⟨a,by simp,fun x hx y hy=>?_⟩
  simp at hy
  subst hy
  rintro rfl
  exact b hx
theorem bnd_wz (i d:Nat) (hi:i≤maxB) (f:Nat→Bool):bnd (some (wz i)) d f=f i:=by
 have hb:bias=9223372036854775808:=rfl
 have hmB:maxB=140737488355328:=rfl
 obtain ⟨m,hm⟩ : ∃ m,m=((i:Int)+9223372036854775808).toNat:=⟨_,rfl⟩
 have e1:m-bias=i:=by omega
 have e2:Nat.sub m bias=i:=e1
 show onW (wz i) (fun i=>both (Nat.ble bias i) (f (Nat.sub i bias)))=f i
 unfold wz
 rw [← hm]
 show both (Nat.ble bias m) (f (Nat.sub m bias))=_
 rw [ble_dec,bothd (by omega),e2]
theorem Sl.take_w {α:Type} [Enc α] {X:List Nat} {h:H} {v:V} {xs:List α} (S:Sl X h v xs) {i:Nat} (hi:i≤xs.length) {k:V→Bool} (K:∀ w,Sl X h w (xs.take i)→k w=true):ssli (Enc.n α) none (some (wz i)) v k=true:=by
 have hbd:=S.bd
 obtain ⟨cs,⟨hcn,hcl,q⟩,A⟩:=S
 have hA:All X h (cs.take i) (xs.take i):=⟨by simp [A.1],fun j c x e1 e2=>by
  rw [List.getElem?_take] at e1 e2
  split at e1
  ·rename_i hj
   rw [if_pos hj] at e2
   exact A.2 j c x e1 e2
  ·simp at e1⟩
 have hcn':∀ c∈cs.take i,c.length=Enc.n α:=fun c hc=>hcn c (List.mem_of_mem_take hc)
 have hl:cs.length=xs.length:=A.1
 have hti:(cs.take i).length=i:=by simp;omega
 rcases q with ⟨rfl,rfl⟩ | ⟨id,off,ver,frz,ex,own,l,rfl,hid,B,hle,hfl⟩
 ·have hi0:i=0:=by simp at hl;omega
  subst hi0
  show bnd (some (wz ((0:Nat):Int))) 0 (fun b=>both (Nat.ble b 0) (bnd none 0 fun a=>both (Nat.ble a b) (k slnil)))=true
  rw [bnd_wz 0 0 (by decide)]
  refine K _ ⟨[],⟨fun c hc=>by simp at hc,by simp,.inl ⟨rfl,rfl⟩⟩,?_⟩
  rw [List.take_zero];exact .nil _ _
 ·show both (Nat.beq (Enc.n α) (Enc.n α)) (bnd (some (wz i)) cs.length fun b=>both (Nat.ble b cs.length) (both (Nat.ble 0 b) (k (.sl id (off+0*Enc.n α) (b-0) ver (Enc.n α)))))=true
  rw [beq_dec,bothd rfl,bnd_wz i _ (by omega),ble_dec,bothd (by omega),ble_dec,bothd (Nat.zero_le _)]
  refine K _ ⟨cs.take i,⟨hcn',by rw [hti];omega,.inr ⟨id,off,ver,frz,ex,own,l,by rw [hti];simp,hid,B,?_,?_⟩⟩,hA⟩
  ·rw [hti]
   have:i*Enc.n α≤cs.length*Enc.n α:=Nat.mul_le_mul_right _ (by omega)
   omega
  ·rw [hti]
   have h1:i*Enc.n α≤cs.length*Enc.n α:=Nat.mul_le_mul_right _ (by omega)
   have h2:(cs.take i).flatten=cs.flatten.take (i*Enc.n α):=by
    have e:cs.flatten=(cs.take i).flatten++(cs.drop i).flatten:=by rw [← List.flatten_append,List.take_append_drop]
    have hf:=flat_len hcn'
    rw [hti] at hf
    rw [e,List.take_append_of_le_length (Nat.le_of_eq hf.symm),List.take_of_length_le (Nat.le_of_eq hf)]
   rw [h2,← hfl,List.take_take,Nat.min_eq_left h1]
namespace P
def twice (l:List Str):Bool:=!decide l.Nodup
def same (x:api_Json):Bool:=(decide (x.Kind=4) || decide (x.N=0)) && (decide (x.Kind=5) || decide (x.S=[]))
def isNum (n:Int):Bool:=decide (-1073741824≤n) && decide (n≤1073741824)
def node (x:api_Json):Bool:=decide (1≤x.Kind∧x.Kind≤7) && same x && isNum x.N && plain x.S 3000 &&
 (if x.Kind=7 then decide (x.Keys.length=x.Parts.length) && x.Keys.all (plain · 3000) && !twice x.Keys else decide (x.Keys=[]) && (decide (x.Kind=6) || decide (x.Parts=[])))
end P
theorem twice_w {X:List Nat} {h:H} {v:V} {l:List Str} {k:KV} (A:Sl X h v l) (hl:l.length≤1000000) {n:Nat} (K:k (.t (P.twice l)) h=true):run tbl (n+3) Nf_j_twice (vl [v]) h k=true:=by
 rw [run_succ,tbl_j_twice]
 unfold T_j_twice j_twice_6 j_twice_4
 simp -implicitDefEqProofs (disch:=omega) [A.lenL]
 refine loop_w (fun m e h'=>∃ i:Nat,m=l.length-i∧i≤l.length∧e=f8 (.t false) (wz i) (wz l.length) v v V.u V.u V.u∧h'=h∧(l.take i).Nodup) ?_ big l.length _ _ ⟨0,by simp⟩ (by unfold big;omega)
 rintro m e h' ⟨i,rfl,hi,rfl,rfl,hn⟩ K' Kn Kx Kr
 unfold j_twice_3 j_twice_0
 by_cases hi2:i<l.length
 ·have hi3:(i:Int)<l.length:=by omega
  obtain ⟨_,a1,a2⟩:=at_Str A hi2
  unfold j_twice_1 j_twice_2
  simp -implicitDefEqProofs (disch:=omega) [hi3,a1,a2]
  refine Sl.take_w A hi fun w B=>?_
  refine contains_w B (by simp;omega) ?_
  by_cases hm:l[i]∈l.take i
  ·simp -implicitDefEqProofs (disch:=omega) [hm]
   refine Kr _ _ ?_
   simp -implicitDefEqProofs (disch:=omega)
   have:P.twice l=true:=by
    unfold P.twice
    have:¬ l.Nodup:=fun q=>((nodup_take hi2).1 (q.sublist (List.take_sublist _ _))).2 hm
    simp [this]
   rw [this] at K
   exact K
  ·simp -implicitDefEqProofs (disch:=omega) [hm]
   exact Kn _ _ _ (by omega) ⟨i+1,rfl,by omega,by simp,rfl,(nodup_take hi2).2 ⟨hn,hm⟩⟩
 ·have hi3:¬ (i:Int)<l.length:=by omega
  simp -implicitDefEqProofs (disch:=omega) [hi3]
  refine Kx _ _ _ ?_
  unfold j_twice_5
  simp -implicitDefEqProofs (disch:=omega)
  have:P.twice l=false:=by
   unfold P.twice
   rw [List.take_of_length_le (by omega)] at hn
   simp [hn]
  rw [this] at K
  exact K
noncomputable abbrev fnN:V:=V.x (.func Nf_j_node_1) V.nil V.nil
theorem callV_1 (cf:CallF) (f:Nat) (a:V) (h:H) (k:KV):callV cf (V.x (.func f) V.nil V.nil) (vl [a]) h k=cf f (vl [a]) h k:=rfl
theorem node1_w {h:H} {s:Str} {k:KV} (hb:s.length≤maxB) {n:Nat} (K:∀ h',Ex h h'→k (.t (!P.plain s 3000)) h'=true):callV (run tbl (n+6)) fnN (vl [vs s]) h k=true:=by
 rw [callV_1,run_succ,tbl_j_node_1]
 unfold T_j_node_1 j_node_1_0
 simp -implicitDefEqProofs (disch:=omega)
 refine Plain_w (most:=3000) (by decide) hb fun h2 F2=>?_
 have:=K h2 F2
 cases hp:P.plain s 3000 <;> rw [hp] at this <;> simp -implicitDefEqProofs (disch:=omega) [nots] <;> exact this
theorem plain_all {l:List Str} {i:Nat} (hi2:i<l.length):(l.take (i+1)).all (P.plain · 3000)=((l.take i).all (P.plain · 3000) && P.plain l[i] 3000):=by
 rw [List.take_succ_eq_append_getElem hi2,List.all_append];simp
end Go.Bvm.JN
set_option linter.unusedVariables false
set_option linter.unusedSimpArgs false
set_option maxRecDepth 20000
namespace Go.Bvm.JN
open Go.Bvm
theorem indexN_w {X:List Nat} {h:H} {v:V} {l:List Str} {k:KV} (A:Sl X h v l) (hl:l.length≤1000000) {n:Nat} (K:∀ h' z,Ex h h'→-1≤z→z≤1000000000→decide (0≤z)=!l.all (P.plain · 3000)→k (wz z) h'=true):run tbl (n+7) Nf_sli_IndexFunc___string_string (vl [v,fnN]) h k=true:=by
 rw [run_succ,tbl_sli_IndexFunc___string_string]
 unfold T_sli_IndexFunc___string_string sli_IndexFunc___string_string_6 sli_IndexFunc___string_string_4
 simp -implicitDefEqProofs (disch:=omega) [A.lenL]
 refine loop_w (fun m e h'=>∃ i:Nat,m=l.length-i∧i≤l.length∧e=f8 (wz 0) (wz i) (wz l.length) fnN v V.u V.u V.u∧Ex h h'∧(l.take i).all (P.plain · 3000)=true) ?_ big l.length _ _ ⟨0,rfl,by omega,rfl,Fz.refl _ _ _ _,rfl⟩ (by unfold big;omega)
 rintro m e h1 ⟨i,rfl,hi,rfl,F1,ha⟩ K' Kn Kx Kr
 have A1:=A.fz F1 (Nat.le_refl _) (by simp)
 unfold sli_IndexFunc___string_string_3 sli_IndexFunc___string_string_0
 by_cases hi2:i<l.length
 ·have hi3:(i:Int)<l.length:=by omega
  obtain ⟨hb,a1,a2⟩:=at_Str A1 hi2
  unfold sli_IndexFunc___string_string_1 sli_IndexFunc___string_string_2
  simp -implicitDefEqProofs (disch:=omega) [hi3,a1,a2]
  refine node1_w hb fun h2 F2=>?_
  have F12:Ex h h2:=F1.loc F2 F1.nx F1.nx
  have e:=plain_all hi2
  cases hp:P.plain l[i] 3000 with
  | true=>
   simp -implicitDefEqProofs (disch:=omega)
   exact Kn _ _ _ (by omega) ⟨i+1,rfl,by omega,by simp,F12,by rw [e,ha,hp];rfl⟩
  | false=>
   simp -implicitDefEqProofs (disch:=omega)
   refine Kr _ _ ?_
   simp -implicitDefEqProofs (disch:=omega)
   have:l.all (P.plain · 3000)=false:=by
    cases q:l.all (P.plain · 3000) with
    | false=>rfl
    | true=>have:=List.all_eq_true.1 q _ (List.getElem_mem hi2);rw [hp] at this;simp at this
   exact K h2 i F12 (by omega) (by omega) (by rw [this];simp)
 ·have hi3:¬ (i:Int)<l.length:=by omega
  simp -implicitDefEqProofs (disch:=omega) [hi3]
  refine Kx _ _ _ ?_
  unfold sli_IndexFunc___string_string_5
  rw [List.take_of_length_le (by omega)] at ha
  simp -implicitDefEqProofs (disch:=omega)
  exact K h1 (-1) F1 (by omega) (by omega) (by rw [ha];rfl)
theorem keys_w {X:List Nat} {h:H} {v:V} {l:List Str} {k:KV} (A:Sl X h v l) (hl:l.length≤1000000) {n:Nat} (K:∀ h',Ex h h'→k (.t (!l.all (P.plain · 3000))) h'=true):run tbl (n+8) Nf_sli_ContainsFunc___string_string (vl [v,fnN]) h k=true:=by
 rw [run_succ,tbl_sli_ContainsFunc___string_string]
 unfold T_sli_ContainsFunc___string_string sli_ContainsFunc___string_string_0
 simp -implicitDefEqProofs (disch:=omega)
 refine indexN_w A hl fun h1 z F hz1 hz2 hz=>?_
 have hk:=K h1 F
 have e1:decide (z≥0)=!l.all (P.plain · 3000):=hz
 simp -implicitDefEqProofs (disch:=omega) [e1]
 exact hk
end Go.Bvm.JN
set_option linter.unusedVariables false
set_option linter.unusedSimpArgs false
set_option maxRecDepth 20000
namespace Go.Bvm.JN
open Go.Bvm
theorem same_w {h:H} {k1 z1 k2 z2:Int} {s1 s2:Str} {a b c d:V} {k:KV} {n:Nat} (K:∀ h',Ex h h'→k (.t (decide (k1=k2) && (decide (z1=z2) && decide (s1=s2)))) h'=true) (h1:inR k1) (h2:inR k2) (h3:inR z1) (h4:inR z2) :
  run tbl (n+1) Nf_j_same (vl [.x .agg (vl [wz k1,wz z1,vs s1,a,b]) V.nil,.x .agg (vl [wz k2,wz z2,vs s2,c,d]) V.nil]) h k=true:=by
 rw [run_succ,tbl_j_same]
 unfold T_j_same j_same_1
 simp -implicitDefEqProofs (disch:=omega)
 refine newA_w rfl (by decide) (by decide) fun h1 n1 B1 x1=>?_
 have hn1:h1.next=h.next+1:=n1
 have E1:Ex h h1:=x1.ex (Nat.le_refl _)
 refine newA_w rfl (by decide) (by decide) fun h2 n2 B2 x2=>?_
 have hn2:h2.next=h1.next+1:=n2
 have E2:Ex h1 h2:=x2.ex (Nat.le_refl _)
 have E02:Ex h h2:=E1.loc E2 (by omega) (by omega)
 have B12:=B1.fz E2 (by omega) (by decide)
 have La:=fun {o m}=>B12.ld (n:=5) rfl (off:=o) (lim:=m)
 have Lb:=fun {o m}=>B2.ld (n:=5) rfl (off:=o) (lim:=m)
 have:=K h2 E02
 unfold j_same_0
 by_cases c1:k1=k2
 ·by_cases c2:z1=z2
  ·simp -implicitDefEqProofs (disch:=omega) [La,Lb,c1,c2]
   simpa [c1,c2] using this
  ·simp -implicitDefEqProofs (disch:=omega) [La,Lb,c1,c2]
   simpa [c1,c2] using this
 ·simp -implicitDefEqProofs (disch:=omega) [La,Lb,c1]
  simpa [c1] using this
theorem IsNum_eq {h:H} {z:Int} (hz:inR z) {n:Nat} {k:KV}:run tbl (n+1) Nf_j_IsNum (vl [wz z]) h k=k (.t (P.isNum z)) h:=by
 rw [run_succ,tbl_j_IsNum]
 unfold T_j_IsNum j_IsNum_0 P.isNum
 by_cases c1:-1073741824≤z
 ·have c1':z≥-1073741824:=c1
  by_cases c2:z≤1073741824
  ·simp -implicitDefEqProofs (disch:=omega) [c1,c1',c2]
  ·simp -implicitDefEqProofs (disch:=omega) [c1,c1',c2]
 ·have c1':¬ z≥-1073741824:=c1
  simp -implicitDefEqProofs (disch:=omega) [c1,c1']
theorem node_rest {X:List Nat} {h h0:H} {q1 q2:Nat} {x:api_Json} {v1 v2:V} {bn:Int} {bs:Str} {k:KV} {n:Nat} (hk:inR x.Kind) (hn:inR x.N) (hbn:inR bn) (hs:x.S.length≤maxB)
  (B1:Bk h q1 0 0 Ty_api_Json true true [wz x.Kind,wz x.N,vs x.S,v1,v2]) (B2:Bk h q2 0 0 Ty_api_Json true true [wz x.Kind,wz bn,vs bs,slnil,slnil]) (A:Sl X h v1 x.Keys) (B:Sl X h v2 x.Parts) (hkl:x.Keys.length≤1000000) (hpl:x.Parts.length≤1000000)
  (q1h:q1<h.next) (q2h:q2<h.next) (F:Ex h0 h) (hsame:P.same x=(decide (x.N=bn) && decide (x.S=bs)))
  (K:∀ h',Ex h0 h'→k (.t (P.node x)) h'=true) (e0:L8) (he:e0=f8 (.t false) (.p q1 0 5 0) (.p q2 0 5 0) V.u V.u V.u V.u V.u) :
  seqM (j_node_4 (run tbl (n+9)) big) (seqM (j_node_6 (run tbl (n+9)) big) (j_node_7 (run tbl (n+9)) big)) e0 h (fun x e h=>finK (fun e h k=>k e.c0.c0) k x e h)=true:=by
 subst he
 have La:=fun {o m}=>B1.ld (n:=5) rfl (off:=o) (lim:=m)
 have Da:=fun {o n m}=>B1.lda (m:=5) rfl (off:=o) (n:=n) (lim:=m)
 have Db:=fun {o n m}=>B2.lda (m:=5) rfl (off:=o) (n:=n) (lim:=m)
 have nx:=F.nx
 have fin:∀ (r:Bool) h',Ex h0 h'→r=P.node x→k (.t r) h'=true:=fun r h' F' e=>by rw [e];exact K h' F'
 unfold j_node_4
 by_cases c1:x.Kind<1
 ·simp -implicitDefEqProofs (disch:=omega) [La,c1]
  unfold j_node_3 j_node_2
  simp -implicitDefEqProofs (disch:=omega) [La,Da]
  refine fin _ _ F ?_
  unfold P.node
  have:¬ (1≤x.Kind∧x.Kind≤7):=by omega
  simp [this]
 by_cases c2:7<x.Kind
 ·simp -implicitDefEqProofs (disch:=omega) [La,c1,c2]
  unfold j_node_3 j_node_2
  simp -implicitDefEqProofs (disch:=omega) [La,Da]
  refine fin _ _ F ?_
  unfold P.node
  have:¬ (1≤x.Kind∧x.Kind≤7):=by omega
  simp [this]
 have c3:1≤x.Kind∧x.Kind≤7:=by omega
 simp -implicitDefEqProofs (disch:=omega) [La,c1,c2,Da]
 unfold j_node_3
 simp -implicitDefEqProofs (disch:=omega) [La,c1,c2,Da,Db]
 refine same_w (fun h1 F1=>?_) hk hk hn hbn
 have n1:=F1.nx
 have F01:Ex h0 h1:=F.loc F1 nx nx
 have B1':=B1.fz F1 q1h (by simp)
 have A1:=A.fz F1 (Nat.le_refl _) (by simp)
 have P1:=B.fz F1 (Nat.le_refl _) (by simp)
 have La:=fun {o m}=>B1'.ld (n:=5) rfl (off:=o) (lim:=m)
 have e1:(decide (x.Kind=x.Kind) && (decide (x.N=bn) && decide (x.S=bs)))=P.same x:=by rw [hsame];simp
 rw [e1]
 cases hsm:P.same x with
 | false=>
  unfold j_node_2
  simp -implicitDefEqProofs (disch:=omega) [nots]
  refine fin _ _ F01 ?_
  unfold P.node
  simp [hsm]
 | true=>
  simp -implicitDefEqProofs (disch:=omega) [nots,La]
  rw [IsNum_eq (n:=n+8) hn]
  cases hnum:P.isNum x.N with
  | false=>
   unfold j_node_2
   simp -implicitDefEqProofs (disch:=omega) [nots]
   refine fin _ _ F01 ?_
   unfold P.node
   simp [hsm,hnum]
  | true=>
   unfold j_node_2
   simp -implicitDefEqProofs (disch:=omega) [nots,La]
   refine Plain_w (n:=n+4) (most:=3000) (by decide) hs fun h2 F2=>?_
   have n2:=F2.nx
   have F02:Ex h0 h2:=F01.loc F2 (by omega) (by omega)
   have B1'':=B1'.fz F2 (by omega) (by simp)
   have A2:=A1.fz F2 (Nat.le_refl _) (by simp)
   have P2:=P1.fz F2 (Nat.le_refl _) (by simp)
   have La:=fun {o m}=>B1''.ld (n:=5) rfl (off:=o) (lim:=m)
   cases hpl2:P.plain x.S 3000 with
   | false=>
    simp -implicitDefEqProofs (disch:=omega) [nots]
    refine fin _ _ F02 ?_
    unfold P.node
    simp [hsm,hnum,hpl2]
   | true=>
    have base:P.node x=(if x.Kind=7 then decide (x.Keys.length=x.Parts.length) && x.Keys.all (P.plain · 3000) && !P.twice x.Keys else decide (x.Keys=[]) && (decide (x.Kind=6) || decide (x.Parts=[]))):=by
     unfold P.node
     simp [hsm,hnum,hpl2,c3]
    have kb:=A2.bd;have pb:=P2.bd
    have hmB:maxB=140737488355328:=rfl
    simp -implicitDefEqProofs (disch:=omega) [nots]
    unfold j_node_6
    by_cases c7:x.Kind=7
    ·rw [if_pos c7] at base
     by_cases cl:x.Keys.length=x.Parts.length
     ·have cl':(x.Keys.length:Int)=x.Parts.length:=by omega
      simp -implicitDefEqProofs (disch:=omega) [La,c7,A2.lenL,P2.lenL,cl']
      unfold j_node_5
      simp -implicitDefEqProofs (disch:=omega)
      refine keys_w (n:=n+1) A2 hkl fun h3 F3=>?_
      have n3:=F3.nx
      have F03:Ex h0 h3:=F02.loc F3 (by omega) (by omega)
      have B3:=B1''.fz F3 (by omega) (by simp)
      have A3:=A2.fz F3 (Nat.le_refl _) (by simp)
      have La:=fun {o m}=>B3.ld (n:=5) rfl (off:=o) (lim:=m)
      cases hka:x.Keys.all (P.plain · 3000) with
      | false=>
       simp -implicitDefEqProofs (disch:=omega) [nots]
       exact fin _ _ F03 (by rw [base];simp [hka])
      | true=>
       simp -implicitDefEqProofs (disch:=omega) [nots,La]
       refine twice_w (n:=n+6) A3 hkl ?_
       cases htw:P.twice x.Keys with
       | false=>
        simp -implicitDefEqProofs (disch:=omega) [nots]
        exact fin _ _ F03 (by rw [base];simp [hka,htw,cl])
       | true=>
        simp -implicitDefEqProofs (disch:=omega) [nots]
        exact fin _ _ F03 (by rw [base];simp [hka,htw])
     ·have cl':¬ (x.Keys.length:Int)=x.Parts.length:=by omega
      simp -implicitDefEqProofs (disch:=omega) [La,c7,A2.lenL,P2.lenL,cl']
      unfold j_node_5
      simp -implicitDefEqProofs (disch:=omega)
      exact fin _ _ F02 (by rw [base];simp [cl])
    ·rw [if_neg c7] at base
     simp -implicitDefEqProofs (disch:=omega) [La,c7]
     unfold j_node_7
     by_cases ck:x.Keys=[]
     ·have ck':(x.Keys.length:Int)=0:=by rw [ck];rfl
      by_cases c6:x.Kind=6
      ·simp -implicitDefEqProofs (disch:=omega) [La,c6,A2.lenL,P2.lenL,ck']
       exact fin _ _ F02 (by rw [base];simp [ck,c6])
      ·by_cases cp:x.Parts=[]
       ·have cp':(x.Parts.length:Int)=0:=by rw [cp];rfl
        simp -implicitDefEqProofs (disch:=omega) [La,c6,A2.lenL,P2.lenL,ck',cp']
        exact fin _ _ F02 (by rw [base];simp [ck,cp])
       ·have cp':¬ (x.Parts.length:Int)=0:=fun e=>cp (List.eq_nil_of_length_eq_zero (by omega))
        simp -implicitDefEqProofs (disch:=omega) [La,c6,A2.lenL,P2.lenL,ck',cp']
        exact fin _ _ F02 (by rw [base];simp [ck,cp,c6])
     ·have ck':¬ (x.Keys.length:Int)=0:=fun e=>ck (List.eq_nil_of_length_eq_zero (by omega))
      simp -implicitDefEqProofs (disch:=omega) [La,A2.lenL,ck',ck]
      exact fin _ _ F02 (by rw [base];simp [ck])
theorem node_w {X:List Nat} {h:H} {x:api_Json} {v1 v2:V} {k:KV} {n:Nat} (hk:inR x.Kind) (hn:inR x.N) (hs:x.S.length≤maxB) (A:Sl X h v1 x.Keys) (B:Sl X h v2 x.Parts) (hkl:x.Keys.length≤1000000) (hpl:x.Parts.length≤1000000)
  (K:∀ h',Ex h h'→k (.t (P.node x)) h'=true):run tbl (n+10) Nf_j_node (vl [.x .agg (vl [wz x.Kind,wz x.N,vs x.S,v1,v2]) V.nil]) h k=true:=by
 rw [run_succ,tbl_j_node]
 unfold T_j_node j_node_9
 simp -implicitDefEqProofs (disch:=omega)
 refine newA_w rfl (by decide) (by decide) fun h1 n1 B1 x1=>?_
 have hn1:h1.next=h.next+1:=n1
 have E1:Ex h h1:=x1.ex (Nat.le_refl _)
 have La:=fun {o m}=>B1.ld (n:=5) rfl (off:=o) (lim:=m)
 unfold j_node_8
 simp -implicitDefEqProofs (disch:=omega) [La]
 refine newA_w rfl (by decide) (by decide) fun h2 n2 B2 x2=>?_
 have hn2:h2.next=h1.next+1:=n2
 have E2:Ex h1 h2:=x2.ex (Nat.le_refl _)
 refine sta_w B2 rfl (by simp) (by simp) fun h3 n3 B3 x3=>?_
 have B3:Bk h3 h1.next 0 0 Ty_api_Json true true [wz x.Kind,wz 0,vs [],slnil,slnil]:=B3
 have E3:Ex h h3:=⟨by omega,fun j hj=>(x3.2 j (by omega)).trans ((x2.2 j (by omega)).trans (x1.2 j (by omega))),fun j hj _=>(x3.2 j (by omega)).trans ((x2.2 j (by omega)).trans (x1.2 j (by omega)))⟩
 have B13:Bk h3 h.next 0 0 Ty_api_Json true true [wz x.Kind,wz x.N,vs x.S,v1,v2]:=B1.eq ((x3.2 h.next (by omega)).trans (x2.2 h.next (by omega)))
 have A3:=A.fz E3 (Nat.le_refl _) (by simp)
 have P3:=B.fz E3 (Nat.le_refl _) (by simp)
 have La:=fun {o m}=>B13.ld (n:=5) rfl (off:=o) (lim:=m)
 unfold j_node_1 j_node_0
 by_cases c4:x.Kind=4
 ·simp -implicitDefEqProofs (disch:=omega) [La,c4]
  refine st_w B3 (by simp) (by simp) rfl fun h4 n4 B4 x4=>?_
  have E4:Ex h h4:=⟨by omega,fun j hj=>(x4.2 j (by omega)).trans (E3.lo j hj),fun j hj _=>(x4.2 j (by omega)).trans (E3.lo j hj)⟩
  have o4:∀ j,j<h1.next→hget j h4.tr=hget j h3.tr:=fun j hj=>x4.2 j (by omega)
  refine node_rest (bn:=x.N) (bs:=[]) hk hn hn hs (B13.only x4 (by omega)) B4 (A.fz E4 (Nat.le_refl _) (by simp)) (B.fz E4 (Nat.le_refl _) (by simp)) hkl hpl (by omega) (by omega) E4 ?_ K _ rfl
  unfold P.same
  simp [c4]
 by_cases c5:x.Kind=5
 ·simp -implicitDefEqProofs (disch:=omega) [La,c4,c5]
  refine st_w B3 (by simp) (by simp) rfl fun h4 n4 B4 x4=>?_
  have E4:Ex h h4:=⟨by omega,fun j hj=>(x4.2 j (by omega)).trans (E3.lo j hj),fun j hj _=>(x4.2 j (by omega)).trans (E3.lo j hj)⟩
  refine node_rest (bn:=0) (bs:=x.S) hk hn (by unfold inR;omega) hs (B13.only x4 (by omega)) B4 (A.fz E4 (Nat.le_refl _) (by simp)) (B.fz E4 (Nat.le_refl _) (by simp)) hkl hpl (by omega) (by omega) E4 ?_ K _ rfl
  unfold P.same
  simp [c5]
 ·simp -implicitDefEqProofs (disch:=omega) [La,c4,c5]
  refine node_rest (bn:=0) (bs:=[]) hk hn (by unfold inR;omega) hs B13 B3 A3 P3 hkl hpl (by omega) (by omega) E3 ?_ K _ rfl
  unfold P.same
  simp [c4,c5]
end Go.Bvm.JN
set_option linter.unusedVariables false
set_option linter.unusedSimpArgs false
set_option maxRecDepth 20000
namespace Go.Bvm.JN
open Go.Bvm
structure Shp where
 size:Nat
 deep:Nat
instance:Enc Shp:=⟨2,Ty_json_shape,[],fun X h c x=>c=[wz x.size,wz x.deep]∧1≤x.size∧x.size≤1000000000∧x.deep≤1000000000,fun r=>by obtain ⟨e,f0⟩:=r;rw [e];rfl,fun r _ _=>r,fun r _=>r⟩
theorem onArr_w {α:Type} [Enc α] {X:List Nat} {h:H} {v:V} {xs:List α} (S:Sl X h v xs):∃ off c,(∀ f,onArr (Enc.n α) v h f=f off xs.length c)∧∀ (i:Nat) (x:α),xs[i]?=some x→∃ cs,Enc.rep X h cs x∧∀ j,j<Enc.n α→aget (off+i*Enc.n α+j) c=nth cs j:=by
 obtain ⟨cs,⟨hcn,hcl,q⟩,A⟩:=S
 have hl:cs.length=xs.length:=A.1
 rcases q with ⟨rfl,rfl⟩ | ⟨id,off,ver,frz,ex,own,l,rfl,hid,⟨t,⟨c,B1,B2,B3⟩,_⟩,hle,hfl⟩
 ·have:xs=[]:=List.eq_nil_of_length_eq_zero (by rw [← hl];rfl)
  subst this
  exact ⟨0,_,fun f=>rfl,fun i x e=>by simp at e⟩
 ·refine ⟨off,c,fun f=>?_,fun i x e=>?_⟩
  ·show both (Nat.beq (Enc.n α) (Enc.n α)) (onBk (hget id h.tr) _)=_
   rw [B1]
   show both (Nat.beq (Enc.n α) (Enc.n α)) (both (Nat.beq ver ver) (f off cs.length c))=_
   rw [beq_dec,bothd rfl,beq_dec,bothd rfl,hl]
  ·have hi:i<xs.length:=(List.getElem?_eq_some_iff.1 e).1
   have hc:cs[i]?=some (cs[i]'(by omega)):=List.getElem?_eq_getElem _
   refine ⟨_,A.2 i _ x hc e,fun j hj=>?_⟩
   have hcl2:=hcn _ (List.getElem_mem (show i<cs.length by omega))
   have hfi:=flat_at i hcn hc
   have hm:i*Enc.n α+Enc.n α≤cs.length*Enc.n α:=by rw [← Nat.succ_mul];exact Nat.mul_le_mul_right _ (by omega)
   rw [B3 _ (by omega),nth_get (by omega)]
   have e1:l[off+i*Enc.n α+j]?=some (cs[i]'(by omega))[j]:=by
    have:((cs.flatten.drop (i*Enc.n α)).take (Enc.n α))[j]?=some ((cs[i]'(by omega))[j]'(by omega)):=by rw [hfi];exact List.getElem?_eq_getElem _
    rw [List.getElem?_take_of_lt hj,List.getElem?_drop,← hfl,List.getElem?_take_of_lt (by omega),List.getElem?_drop] at this
    rw [← this];congr 1;omega
   rw [List.getElem?_eq_getElem (by omega)] at e1
   exact Option.some.inj e1
namespace P
def shGo (all:List Shp) (i:Nat):List Int→Nat→Nat→Option (Nat×Nat)
 | [],sz,dp=>some (sz,dp)
 | p::r,sz,dp=>if 0≤p∧p=(i:Int)-sz then match all[p.toNat]? with
  | some y=>shGo all i r (sz+y.size) (max dp y.deep)
  | none=>none
  else none
def shaped (all:List Shp) (i:Nat) (kind:Int) (parts:List Int):Option Shp:=match shGo all i parts.reverse 1 0 with
 | some (sz,dp)=>if (if 6≤kind then dp+1 else dp)≤8 then some ⟨sz,if 6≤kind then dp+1 else dp⟩ else none
 | none=>none
end P
noncomputable abbrev shV (s d:Nat) (ok:Bool):V:=.x .tup (vl [.x .agg (vl [wz s,wz d]) V.nil,.t ok]) V.nil
theorem shRes_eq (s d:Nat) (ok:Bool):shRes s d ok=shV s d ok:=by
 have e:∀ n:Nat,V.w (Nat.add bias n)=wz (n:Int):=fun n=>(congrArg V.w (Nat.add_comm bias n)).trans (wz_nat n)
 show V.x .tup (.x .cons (.x .agg (.x .cons (V.w (Nat.add bias s)) (.x .cons (V.w (Nat.add bias d)) V.nil)) V.nil) (.x .cons (.t ok) V.nil)) V.nil=_
 rw [e,e];rfl
theorem onW_v (n:Nat) (f:Nat→Bool):onW (V.w n) f=f n:=(Eq.refl _).trans rfl
theorem shAt_w {all:List Shp} {ao:Nat} {ac:Arr} {X:List Nat} {h:H} (HA:∀ (i:Nat) (x:Shp),all[i]?=some x→∃ cs,Enc.rep X h cs x∧∀ j,j<2→aget (ao+i*2+j) ac=nth cs j) {m:Nat} {y:Shp} (hy:all[m]?=some y) {f:Nat→Nat→Bool} (K:1≤y.size→y.size≤1000000000→y.deep≤1000000000→f y.size y.deep=true):shAt ao all.length ac m f=true:=by
 have hb:bias=9223372036854775808:=rfl
 obtain ⟨cs,⟨rfl,r1,r2,r3⟩,hc⟩:=HA m y hy
 have h0:aget (Nat.add ao (Nat.mul m 2)) ac=wz y.size:=hc 0 (by decide)
 have h1:aget (Nat.succ (Nat.add ao (Nat.mul m 2))) ac=wz y.deep:=hc 1 (by decide)
 have hm:m<all.length:=(List.getElem?_eq_some_iff.1 hy).1
 unfold shAt
 rw [ble_dec,bothd (by omega),h0,h1,← wz_nat,← wz_nat]
 simp -implicitDefEqProofs only [onW_v]
 have e1:∀ n:Nat,Nat.sub (n+bias) bias=n:=fun n=>Nat.add_sub_cancel ..
 rw [e1,e1,ble_dec,ble_dec,ble_dec,ble_dec,bothd (by omega),bothd (by show _≤bias+1000000000;omega),bothd (by omega),bothd (by show _≤bias+1000000000;omega)]
 exact K r1 r2 r3
theorem shChk_w {all:List Shp} {ao:Nat} {ac:Arr} {X:List Nat} {h:H} (HA:∀ (i:Nat) (x:Shp),all[i]?=some x→∃ cs,Enc.rep X h cs x∧∀ j,j<2→aget (ao+i*2+j) ac=nth cs j) {i:Nat} (hi:all.length=i):∀ (n sz:Nat),1≤sz→shChk ao all.length ac i n sz=true
 | 0,sz,_=>rfl
 | n+1,sz,h1=>by
  show bs (Nat.ble sz i) (shAt ao all.length ac (Nat.sub i sz) fun s _=>shChk ao all.length ac i n (Nat.add sz s)) true=true
  by_cases hz:sz≤i
  ·rw [Nat.ble_eq_true_of_le hz,bs_true]
   have hlt:Nat.sub i sz<all.length:=by show i-sz<_;omega
   exact shAt_w HA (List.getElem?_eq_getElem hlt) fun r1 _ _=>shChk_w HA hi n _ (by show 1≤sz+_;omega)
  ·have:Nat.ble sz i=false:=by
    cases q:Nat.ble sz i with
    | true=>exact absurd (Nat.le_of_ble_eq_true q) hz
    | false=>rfl
   rw [this,bs_false]
theorem shFin_w {kd:Int} {k:V→Bool} {sz dp:Nat} {go:Bool} (hk:inR kd) (h1:sz≤1000000000000) (h2:dp≤1000000000000)
  (Kt:go=true→k (shV sz (if 6≤kd then dp+1 else dp) (decide ((if 6≤kd then dp+1 else dp)≤8)))=true) (Kf:go=false→k (shV sz dp false)=true):shFin (kd+9223372036854775808).toNat k sz dp go=true:=by
 have hb:bias=9223372036854775808:=rfl
 have hkd:-9223372036854775808≤kd∧kd<9223372036854775808:=by unfold inR at hk;omega
 unfold shFin
 rw [ble_dec,ble_dec,bothd h1,bothd h2]
 cases go with
 | true=>
  have Kt:=Kt rfl
  rw [bs_true]
  by_cases h6:6≤kd
  ·have:Nat.ble (Nat.add bias 6) (kd+9223372036854775808).toNat=true:=Nat.ble_eq_true_of_le (by show bias+6≤_;omega)
   rw [this,bs_true,shRes_eq,ble_dec]
   rw [if_pos h6] at Kt
   exact Kt
  ·have:Nat.ble (Nat.add bias 6) (kd+9223372036854775808).toNat=false:=by
    cases q:Nat.ble (Nat.add bias 6) (kd+9223372036854775808).toNat with
    | true=>have:bias+6≤_:=Nat.le_of_ble_eq_true q;omega
    | false=>rfl
   rw [this,bs_false,shRes_eq,ble_dec]
   rw [if_neg h6] at Kt
   exact Kt
 | false=>
  rw [bs_false,shRes_eq]
  exact Kf rfl
theorem shLoop_w {all:List Shp} {ao:Nat} {ac:Arr} {X:List Nat} {h:H} (HA:∀ (i:Nat) (x:Shp),all[i]?=some x→∃ cs,Enc.rep X h cs x∧∀ j,j<2→aget (ao+i*2+j) ac=nth cs j) {i:Nat} (hi:all.length=i) {po:Nat} {pc:Arr} {kd:Int} (hk:inR kd) (hSz:∀ (j:Nat) (y:Shp),all[j]?=some y→y.size≤j+1) {k:V→Bool} {R:Option (Nat×Nat)}
  (Kt:∀ sz dp:Nat,R=some (sz,dp)→k (shV sz (if 6≤kd then dp+1 else dp) (decide ((if 6≤kd then dp+1 else dp)≤8)))=true) (Kf:∀ sz dp:Nat,R=none→k (shV sz dp false)=true) :
  ∀ (ps:List Int) (sz dp:Nat),(∀ j (hj:j<ps.length),aget (po+j) pc=wz ps[j]∧inR ps[j])→sz≤i+1→dp≤1000000000→P.shGo all i ps.reverse sz dp=R→i≤1000000000→1≤sz→∀ n,n=ps.length→shLoop ao all.length ac i po pc (shFin (kd+9223372036854775808).toNat k) n sz dp=true:=by
 intro ps sz dp hps hsz hdp hR hi9 h1 n hn
 induction n generalizing ps sz dp with
 | zero=>
  have:ps=[]:=List.eq_nil_of_length_eq_zero hn.symm
  subst this
  exact shFin_w hk (by omega) (by omega) (fun _=>Kt sz dp hR.symm) (fun q=>by simp at q)
 | succ n ih=>
  have hb:bias=9223372036854775808:=rfl
  obtain ⟨qs,p,rfl⟩ : ∃ qs p,ps=qs++[p]:=⟨ps.dropLast,ps.getLast (by rintro rfl;simp at hn),(List.dropLast_concat_getLast _).symm⟩
  have hq:qs.length=n:=by simp at hn;omega
  obtain ⟨hp1,hp2⟩:=hps n (by simp;omega)
  have hpl:(qs++[p])[n]'(by simp;omega)=p:=by simp [← hq]
  rw [hpl] at hp1 hp2
  have hp2':-9223372036854775808≤p∧p<9223372036854775808:=by unfold inR at hp2;omega
  show onW (aget (Nat.add po n) pc) (fun v=>bs (both (Nat.ble sz i) (Nat.beq v (Nat.add bias (Nat.sub i sz)))) (shAt ao all.length ac (Nat.sub i sz) fun s d=>shLoop ao all.length ac i po pc (shFin (kd+9223372036854775808).toNat k) n (Nat.add sz s) (bs (Nat.ble dp d) d dp)) (shFin (kd+9223372036854775808).toNat k sz dp false))=true
  rw [show aget (Nat.add po n) pc=wz p from hp1]
  unfold wz
  simp -implicitDefEqProofs only [onW_v]
  rw [List.reverse_append,List.reverse_singleton,List.singleton_append,P.shGo] at hR
  by_cases hc:0≤p∧p=(i:Int)-sz
  ·rw [if_pos hc] at hR
   have hle:sz≤i:=by omega
   have e1:Nat.beq (p+9223372036854775808).toNat (Nat.add bias (Nat.sub i sz))=true:=by
    rw [beq_dec];exact decide_eq_true (by show _=bias+(i-sz);omega)
   rw [Nat.ble_eq_true_of_le hle,e1]
   rw [both_t,bs_true]
   have hlt:Nat.sub i sz<all.length:=by show i-sz<_;omega
   have hpt:p.toNat=Nat.sub i sz:=by show _=i-sz;omega
   rw [hpt,List.getElem?_eq_getElem hlt] at hR
   refine shAt_w HA (List.getElem?_eq_getElem hlt) fun r1 r2 r3=>?_
   have hmx:bs (Nat.ble dp (all[Nat.sub i sz]'hlt).deep) (all[Nat.sub i sz]'hlt).deep dp=max dp (all[Nat.sub i sz]'hlt).deep:=by
    by_cases q:dp≤(all[Nat.sub i sz]'hlt).deep
    ·rw [Nat.ble_eq_true_of_le q,bs_true];omega
    ·have:Nat.ble dp (all[Nat.sub i sz]'hlt).deep=false:=by
      cases z:Nat.ble dp (all[Nat.sub i sz]'hlt).deep with
      | true=>exact absurd (Nat.le_of_ble_eq_true z) q
      | false=>rfl
     rw [this,bs_false];omega
   rw [hmx]
   refine ih qs (sz+(all[Nat.sub i sz]'hlt).size) _ (fun j hj=>?_) ?_ (by omega) hR (by omega) hq.symm
   ·have:=hps j (by simp;omega)
    rw [List.getElem_append_left hj] at this
    exact this
   ·have h5:=hSz _ _ (List.getElem?_eq_getElem hlt)
    have h6:Nat.sub i sz=i-sz:=rfl
    omega
  ·rw [if_neg hc] at hR
   have e1:both (Nat.ble sz i) (Nat.beq (p+9223372036854775808).toNat (Nat.add bias (Nat.sub i sz)))=false:=by
    by_cases hle:sz≤i
    ·rw [Nat.ble_eq_true_of_le hle,both_t,beq_dec]
     exact decide_eq_false (by show ¬ _=bias+(i-sz);omega)
    ·have:Nat.ble sz i=false:=by
      cases z:Nat.ble sz i with
      | true=>exact absurd (Nat.le_of_ble_eq_true z) hle
      | false=>rfl
     rw [this];rfl
   rw [e1,bs_false]
   exact shFin_w hk (by omega) (by omega) (fun q=>by simp at q) (fun _=>Kf sz dp hR.symm)
end Go.Bvm.JN
set_option linter.unusedVariables false
set_option linter.unusedSimpArgs false
set_option maxRecDepth 20000
namespace Go.Bvm.JN
open Go.Bvm
theorem shWs_w {po:Nat} {pc:Arr}:∀ (n:Nat),(∀ j,j<n→∃ z:Int,aget (po+j) pc=wz z)→shWs po pc n=true
 | 0,_=>rfl
 | n+1,h=>by
  obtain ⟨z,e⟩:=h n (by omega)
  show onW (aget (Nat.add po n) pc) (fun _=>shWs po pc n)=true
  rw [show aget (Nat.add po n) pc=wz z from e]
  unfold wz
  rw [onW_v]
  exact shWs_w n fun j hj=>h j (by omega)
theorem extSh_u (a b:V) (m:Nat) (h:H) (k:KV):extSh (vl [a,b,.w m]) h k=both (Nat.ble bias m) (both (Nat.ble m (Nat.add bias 1000000000))
 (onArr 5 a h fun lo ll lc=>both (Nat.ble (Nat.succ (Nat.sub m bias)) ll) (onArr 2 b h fun ao al ac=>onW (aget (Nat.add lo (Nat.mul (Nat.sub m bias) 5)) lc) fun kd=>onArr 1 (aget (Nat.add (Nat.add lo (Nat.mul (Nat.sub m bias) 5)) 4) lc) h fun po pl pc=>
  shRest ao al ac (Nat.sub m bias) kd po pl pc fun v=>k v h))):=rfl
theorem tbl_j_shaped (cf:CallF):tbl cf Nf_j_shaped=extSh:=rfl
theorem shaped_w {X Y:List Nat} {h:H} {v a:V} {l:List JF} {all:List Shp} {i:Nat} {x:api_Json} {k:KV} {n:Nat} (L:Sl X h v l) (A:Sl Y h a all) (hi:all.length=i) (hx:l[i]?=some x) (hi9:i≤1000000) (hp:x.Parts.length≤4096) (hSz:∀ (j:Nat) (y:Shp),all[j]?=some y→y.size≤j+1)
  (K:∀ (s d:Nat) (ok:Bool),(∀ y,P.shaped all i x.Kind x.Parts=some y→ok=true∧s=y.size∧d=y.deep)→(P.shaped all i x.Kind x.Parts=none→ok=false)→k (shV s d ok) h=true):run tbl (n+1) Nf_j_shaped (vl [v,a,wz i]) h k=true:=by
 have hb:bias=9223372036854775808:=rfl
 have hm:Nat.sub (i+bias) bias=i:=Nat.add_sub_cancel i bias
 have hil:i<l.length:=(List.getElem?_eq_some_iff.1 hx).1
 obtain ⟨lo,lc,hL,cL⟩:=onArr_w L
 obtain ⟨ao,ac,hA,cA⟩:=onArr_w A
 obtain ⟨cs,E,hc⟩:=cL i x hx
 have E':∃ v1 v2,cs=[wz x.Kind,wz x.N,vs x.S,v1,v2]∧inR x.Kind∧inR x.N∧x.S.length≤maxB∧Sl X h v1 x.Keys∧Sl X h v2 x.Parts:=E
 obtain ⟨v1,v2,rfl,f0,f1,f2,f3,f4⟩:=E'
 obtain ⟨po,pc,hP,cP⟩:=onArr_w f4
 have hc0:aget (Nat.add lo (Nat.mul i 5)) lc=wz x.Kind:=hc 0 (by decide)
 have hc4:aget (Nat.add (Nat.add lo (Nat.mul i 5)) 4) lc=v2:=hc 4 (by decide)
 have hps:∀ j (hj:j<x.Parts.length),aget (po+j) pc=wz x.Parts[j]∧inR x.Parts[j]:=fun j hj=>by
  obtain ⟨cs,E,hc⟩:=cP j _ (List.getElem?_eq_getElem hj)
  have E':cs=[wz x.Parts[j]]∧inR x.Parts[j]:=E
  obtain ⟨rfl,r⟩:=E'
  have:=hc 0 (by decide)
  refine ⟨?_,r⟩
  have e:po+j*1+0=po+j:=by omega
  rw [← e]
  exact this
 have hL:∀ f,onArr 5 v h f=f lo l.length lc:=hL
 have hA:∀ f,onArr 2 a h f=f ao all.length ac:=hA
 have hP:∀ f,onArr 1 v2 h f=f po x.Parts.length pc:=hP
 rw [run_succ,tbl_j_shaped,← wz_nat,extSh_u,ble_dec,bothd (by omega),ble_dec,bothd (by show i+bias≤bias+1000000000;omega),hL,hm,ble_dec,bothd (by omega),hA,hc0,hc4]
 unfold wz
 rw [onW_v,hP]
 unfold shRest
 rw [ble_dec,bothd hp,shWs_w _ (fun j hj=>⟨_,(hps j hj).1⟩),both_t,shChk_w cA hi _ _ (Nat.le_refl _),both_t]
 refine shLoop_w cA hi f0 hSz (R:=P.shGo all i x.Parts.reverse 1 0) (fun sz dp hR=>?_) (fun sz dp hR=>?_) x.Parts 1 0 hps (by omega) (by omega) rfl (by omega) (by omega) _ rfl
 ·have e:P.shaped all i x.Kind x.Parts=if (if 6≤x.Kind then dp+1 else dp)≤8 then some ⟨sz,if 6≤x.Kind then dp+1 else dp⟩ else none:=by unfold P.shaped;rw [hR]
  rw [e] at K
  generalize (if 6≤x.Kind then dp+1 else dp)=d at K ⊢
  by_cases q:d≤8
  ·rw [if_pos q] at K
   exact K _ _ _ (fun y hy=>by cases hy;exact ⟨decide_eq_true q,rfl,rfl⟩) (fun hy=>by simp at hy)
  ·rw [if_neg q] at K
   exact K _ _ _ (fun y hy=>by simp at hy) (fun _=>decide_eq_false q)
 ·refine K _ _ _ (fun y hy=>?_) (fun hy=>rfl)
  unfold P.shaped at hy
  rw [hR] at hy
  simp at hy
end Go.Bvm.JN
set_option linter.unusedVariables false
set_option linter.unusedSimpArgs false
set_option maxRecDepth 20000
namespace Go.Bvm.JN
open Go.Bvm
namespace P
def mayL:List api_Json→List Shp→Option (List Shp)
 | [],all=>some all
 | x::r,all=>if node x then match shaped all all.length x.Kind x.Parts with
  | some y=>mayL r (all++[y])
  | none=>none
  else none
def lastSize (all:List Shp) (n:Nat):Bool:=match all.getLast? with | some y=>decide (y.size=n) | none=>false
def May (l:List api_Json):Bool:=decide (1≤l.length∧l.length≤300) && match mayL l [] with
 | some all=>lastSize all l.length
 | none=>false
def Good (all:List Shp):Prop:=∀ (j:Nat) (y:Shp),all[j]?=some y→1≤y.size∧y.size≤j+1∧y.deep≤8
theorem shGo_bd {all:List Shp} (G:Good all) {i:Nat} (hi:all.length≤i):∀ (r:List Int) (sz dp:Nat) (s d:Nat),shGo all i r sz dp=some (s,d)→1≤sz→sz≤i+1→1≤s∧s≤i+1
 | [],sz,dp,s,d,h,h1,h2=>by simp [shGo] at h;omega
 | p::r,sz,dp,s,d,h,h1,h2=>by
  unfold shGo at h
  split at h
  ·rename_i hp
   split at h
   ·rename_i y hy
    have:=G _ _ hy
    exact shGo_bd G hi r _ _ s d h (by omega) (by omega)
   ·simp at h
  ·simp at h
theorem Good.snoc {all:List Shp} (G:Good all) {kd:Int} {ps:List Int} {y:Shp} (h:shaped all all.length kd ps=some y):Good (all++[y]):=by
 have hy:1≤y.size∧y.size≤all.length+1∧y.deep≤8:=by
  unfold shaped at h
  cases hs:shGo all all.length ps.reverse 1 0 with
  | none=>rw [hs] at h;simp at h
  | some z=>
   obtain ⟨sz,dp⟩:=z
   rw [hs] at h
   have:=shGo_bd G (Nat.le_refl _) _ _ _ _ _ hs (by omega) (by omega)
   dsimp only at h
   generalize (if 6≤kd then dp+1 else dp)=d at h
   by_cases q:d≤8
   ·rw [if_pos q] at h
    cases h
    exact ⟨this.1,this.2,q⟩
   ·rw [if_neg q] at h;simp at h
 intro j z e
 by_cases hj:j<all.length
 ·rw [List.getElem?_append_left hj] at e
  exact G j z e
 ·rw [List.getElem?_append_right (by omega)] at e
  rcases Nat.eq_zero_or_pos (j-all.length) with q | q
  ·rw [q] at e;simp at e;subst e
   exact ⟨hy.1,by omega,hy.2.2⟩
  ·rw [List.getElem?_eq_none (by simpa using Nat.succ_le_of_lt q)] at e;simp at e
end P
theorem part_ag2 (a b c d t:V) (k:V→Bool):part 0 false 2 (.x .agg (vl [a,b]) t) (vl [c,d]) k=k (vl [a,b]):=(Eq.refl _).trans rfl
theorem May_w {X:List Nat} {h:H} {v:V} {l:List api_Json} {k:KV} {n:Nat} (L:Sl (α:=JF) X h v l) (hB:∀ x∈l,x.Keys.length≤1000000∧x.Parts.length≤4096) (K:∀ h',Ex h h'→k (.t (P.May l)) h'=true):run tbl (n+12) Nf_j_May (vl [v]) h k=true:=by
 have hbd:=L.bd
 have hbd:l.length≤maxB:=hbd
 have ll:∀ k,Go.Bvm.lenL v k=k (wz (l.length:Int)):=L.lenL
 have hmB:maxB=140737488355328:=rfl
 rw [run_succ,tbl_j_May]
 unfold T_j_May j_May_12 j_May_0
 have fin:∀ (r:Bool) h',Ex h h'→r=P.May l→k (.t r) h'=true:=fun r h' F' e=>by rw [e];exact K h' F'
 by_cases c1:l.length<1
 ·have c1':(l.length:Int)<1:=by omega
  simp -implicitDefEqProofs (disch:=omega) [ll,c1']
  refine fin _ _ (Fz.refl _ _ _ _) ?_
  unfold P.May
  have:¬ (1≤l.length∧l.length≤300):=by omega
  rw [decide_eq_false this];rfl
 have c1':¬ (l.length:Int)<1:=by omega
 by_cases c2:300<l.length
 ·have c2':(l.length:Int)>300:=by omega
  simp -implicitDefEqProofs (disch:=omega) [ll,c1',c2']
  refine fin _ _ (Fz.refl _ _ _ _) ?_
  unfold P.May
  have:¬ (1≤l.length∧l.length≤300):=by omega
  rw [decide_eq_false this];rfl
 have c2':¬ (l.length:Int)>300:=by omega
 have c3:1≤l.length∧l.length≤300:=by omega
 have hMay:P.May l=match P.mayL l [] with | some all=>P.lastSize all l.length | none=>false:=by
  unfold P.May
  rw [decide_eq_true c3];rfl
 unfold j_May_11 j_May_9
 simp -implicitDefEqProofs (disch:=omega) [ll,c1',c2']
 refine loop_w (fun m e h'=>∃ (i:Nat) (all:List Shp) (va v6 v7:V),m=l.length-i∧i≤l.length∧all.length=i∧e=f8 (.t false) v (wz i) (wz l.length) v va v6 v7∧P.mayL (l.drop i) all=P.mayL l []∧P.Good all∧SlO [] h.next h' va all∧Ex h h') ?_ big l.length _ _ ⟨0,[],slnil,V.u,V.u,rfl,by omega,rfl,rfl,by simp,fun j y e=>by simp at e,.nil _ _ _,Fz.refl _ _ _ _⟩ (by unfold big;omega)
 rintro m e h1 ⟨i,all,va,v6,v7,rfl,hi,hai,rfl,hml,G,A,F1⟩ K' Kn Kx Kr
 have n1:=F1.nx
 have L1:=L.fz F1 (Nat.le_refl _) (by simp)
 unfold j_May_8 j_May_1
 by_cases hi2:i<l.length
 ·have hi3:(i:Int)<l.length:=by omega
  obtain ⟨c,E,a1,a2,a3⟩:=L1.at (i:=(i:Int)) (Int.natCast_nonneg i) (getE? (show (i:Int).toNat<l.length from hi2))
  have a1':∀ k,iadV 5 v (wz (i:Int)) k=k (pel v (i:Int) 0):=a1
  have E':∃ w1 w2,c=[wz l[i].Kind,wz l[i].N,vs l[i].S,w1,w2]∧inR l[i].Kind∧inR l[i].N∧l[i].S.length≤maxB∧Sl X h1 w1 l[i].Keys∧Sl X h1 w2 l[i].Parts:=E
  obtain ⟨w1,w2,rfl,f0,f1,f2,f3,f4⟩:=E'
  have a3':∀ k,lda 5 (pel v (i:Int) 0) h1 k=k (.x .agg (vl [wz l[i].Kind,wz l[i].N,vs l[i].S,w1,w2]) V.nil):=fun k=>a3 0 5 k (by decide)
  have hb:=hB _ (List.getElem_mem hi2)
  have hdr:l.drop i=l[i]::l.drop (i+1):=List.drop_eq_getElem_cons hi2
  rw [hdr,P.mayL] at hml
  unfold j_May_6 j_May_7
  simp -implicitDefEqProofs (disch:=omega) [hi3,a1',a3']
  refine newA_w rfl (by decide) (by decide) fun h2 n2 B2 x2=>?_
  have hn2:h2.next=h1.next+1:=n2
  refine sta_w B2 rfl (by simp) (by simp) fun h3 n3 B3 x3=>?_
  have B3:Bk h3 h1.next 0 0 Ty_api_Json true true [wz l[i].Kind,wz l[i].N,vs l[i].S,w1,w2]:=B3
  have E3:Ex h1 h3:=⟨by omega,fun j hj=>(x3.2 j (by omega)).trans (x2.2 j (by omega)),fun j hj _=>(x3.2 j (by omega)).trans (x2.2 j (by omega))⟩
  have Da:=B3.lda (m:=5) rfl (off:=0) (n:=5) (lim:=5) (by decide) (by decide)
  unfold j_May_2
  simp -implicitDefEqProofs (disch:=omega) [Da]
  refine node_w (n:=n+1) f0 f1 f2 (f3.fz E3 (Nat.le_refl _) (by simp)) (f4.fz E3 (Nat.le_refl _) (by simp)) hb.1 (by omega) fun h4 F4=>?_
  have n4:=F4.nx
  have E4:Ex h1 h4:=E3.loc F4 (by omega) (by omega)
  have E04:Ex h h4:=F1.loc E4 n1 n1
  cases hnd:P.node l[i] with
  | false=>
   rw [hnd] at hml
   simp -implicitDefEqProofs (disch:=omega) [nots]
   refine Kr _ _ ?_
   simp -implicitDefEqProofs (disch:=omega)
   exact fin _ _ E04 (by rw [hMay,← hml];rfl)
  | true=>
   rw [hnd,if_pos rfl,hai] at hml
   simp -implicitDefEqProofs (disch:=omega) [nots]
   unfold j_May_5
   have L4:=L.fz E04 (Nat.le_refl _) (by simp)
   have A4:=A.fz E4 (Nat.le_refl _) (by simp)
   simp -implicitDefEqProofs (disch:=omega)
   refine shaped_w (n:=n+10) L4 A4.sl hai (List.getElem?_eq_getElem hi2) (by omega) hb.2 (fun j y e=>(G j y e).2.1) fun s d ok hs1 hs2=>?_
   unfold shV
   simp -implicitDefEqProofs (disch:=omega)
   refine newA_w rfl (by decide) (by decide) fun h5 n5 B5 x5=>?_
   have hn5:h5.next=h4.next+1:=n5
   refine sta_w B5 rfl (by simp) (by simp) fun h6 n6 B6 x6=>?_
   have B6:Bk h6 h4.next 0 0 Ty_json_shape true true [wz s,wz d]:=B6
   have E6:Ex h4 h6:=⟨by omega,fun j hj=>(x6.2 j (by omega)).trans (x5.2 j (by omega)),fun j hj _=>(x6.2 j (by omega)).trans (x5.2 j (by omega))⟩
   have E06:Ex h h6:=E04.loc E6 (by omega) (by omega)
   unfold j_May_3
   cases hsh:P.shaped all i l[i].Kind l[i].Parts with
   | none=>
    have:=hs2 hsh
    subst this
    rw [hsh] at hml
    simp -implicitDefEqProofs (disch:=omega) [nots]
    refine Kr _ _ ?_
    simp -implicitDefEqProofs (disch:=omega)
    exact fin _ _ E06 (by rw [hMay,← hml])
   | some y=>
    obtain ⟨rfl,rfl,rfl⟩:=hs1 y hsh
    rw [hsh] at hml
    have G':P.Good (all++[y]):=G.snoc (kd:=l[i].Kind) (ps:=l[i].Parts) (by rw [hai];exact hsh)
    have gy:=G' i y (by rw [List.getElem?_append_right (by omega),hai];simp)
    have Dy:=B6.lda (m:=2) rfl (off:=0) (n:=2) (lim:=2) (by decide) (by decide)
    unfold j_May_4
    simp -implicitDefEqProofs (disch:=omega) [nots,Dy,part_ag2]
    have A6:=A4.fz E6 (Nat.le_refl _) (by simp)
    refine SlO.app1 (x:=y) A6 ⟨rfl,gy.1,by omega,by omega⟩ (by decide) rfl (by decide) (by show (all.length+1)*2≤_;omega) (by omega) (by simp) (by decide) fun h7 w A7 g gw F7=>?_
    exact Kn _ _ _ (by omega) ⟨i+1,all++[y],w,wz i,.p h4.next 0 2 0,rfl,by omega,by simp [hai],by simp,hml,G',A7,E06.loc F7 (Nat.le_refl _) (Nat.le_refl _)⟩
 ·have hi3:¬ (i:Int)<l.length:=by omega
  simp -implicitDefEqProofs (disch:=omega) [hi3]
  refine Kx _ _ _ ?_
  have hil:i=l.length:=by omega
  rw [List.drop_eq_nil_of_le (by omega),P.mayL] at hml
  unfold j_May_10
  obtain ⟨y,hy⟩ : ∃ y,all[all.length-1]?=some y:=⟨_,List.getElem?_eq_getElem (by omega)⟩
  have hlast:P.lastSize all l.length=decide (y.size=l.length):=by
   unfold P.lastSize
   rw [List.getLast?_eq_getElem?,hy]
  have ey:((l.length:Int)-1).toNat=all.length-1:=by omega
  obtain ⟨c,E,a1,a2,a3⟩:=A.sl.at (i:=(l.length:Int)-1) (by omega) (by rw [ey];exact hy)
  have E':c=[wz y.size,wz y.deep]∧1≤y.size∧y.size≤1000000000∧y.deep≤1000000000:=E
  obtain ⟨rfl,_⟩:=E'
  have a1':∀ k,iadV 2 va (wz ((l.length:Int)-1)) k=k (pel va ((l.length:Int)-1) 0):=a1
  have a2':∀ k,ld1 (pel va ((l.length:Int)-1) 0) h1 k=k (wz y.size):=fun k=>a2 0 k (by decide)
  have:=fin (decide (y.size=l.length)) h1 F1 (by rw [hMay,← hml];exact hlast.symm)
  have e2:decide ((y.size:Int)=(l.length:Int))=decide (y.size=l.length):=by simp only [decide_eq_decide];omega
  simp -implicitDefEqProofs (disch:=omega) [ll,a1',a2',e2]
  exact this
end Go.Bvm.JN
set_option linter.unusedVariables false
set_option linter.unusedSimpArgs false
set_option maxRecDepth 20000
namespace Go.Bvm.JN
open Go.Bvm
namespace P
def word (kd:Int):Str:=if kd=1 then [110,117,108,108] else if kd=2 then [102,97,108,115,101] else [116,114,117,101]
def spellP (sp:Nat→Str) (x:api_Json):Nat→Str
 | 0=>[]
 | k+1=>spellP sp x k++((if 0<k then [44] else [])++((if x.Kind=7 then quote (x.Keys.getD k [])++[58] else [])++sp (x.Parts.getD k 0).toNat))
def ends (kd:Int):UInt8×UInt8:=if kd=7 then (123,125) else (91,93)
def spell (l:List api_Json):Nat→Nat→Str
 | 0,_=>[]
 | f+1,i=>match l[i]? with
  | none=>[]
  | some x=>if x.Kind=4 then Lib.itoa x.N else if x.Kind=5 then quote x.S else if x.Kind=6∨x.Kind=7 then [(ends x.Kind).1]++spellP (spell l f) x x.Parts.length++[(ends x.Kind).2] else word x.Kind
structure Ok (l:List api_Json) (all:List Shp):Prop where
 len:all.length=l.length
 good:Good all
 at_:∀ (i:Nat) (x:api_Json),l[i]?=some x→node x=true∧shaped (all.take i) i x.Kind x.Parts=all[i]?
theorem mayL_len:∀ (l:List api_Json) (a all:List Shp),mayL l a=some all→all.length=a.length+l.length∧all.take a.length=a
 | [],a,all,h=>by simp [mayL] at h;subst h;simp
 | x::r,a,all,h=>by
  unfold mayL at h
  split at h
  ·split at h
   ·rename_i y hy
    have:=mayL_len r (a++[y]) all h
    refine ⟨by rw [this.1];simp;omega,?_⟩
    have h2:=congrArg (List.take a.length) this.2
    rw [List.take_take,List.take_left,Nat.min_eq_left (by simp)] at h2
    exact h2
   ·simp at h
  ·simp at h
theorem mayL_ok:∀ (l:List api_Json) (a all:List Shp),mayL l a=some all→Good a→Good all∧∀ (i:Nat) (x:api_Json),l[i]?=some x→node x=true∧shaped (all.take (a.length+i)) (a.length+i) x.Kind x.Parts=all[a.length+i]?
 | [],a,all,h,G=>by
  simp [mayL] at h
  subst h
  exact ⟨G,fun i x e=>by simp at e⟩
 | x::r,a,all,h,G=>by
  unfold mayL at h
  split at h
  ·rename_i hn
   split at h
   ·rename_i y hy
    have hl:=mayL_len r (a++[y]) all h
    obtain ⟨G',H⟩:=mayL_ok r (a++[y]) all h (G.snoc hy)
    refine ⟨G',fun i z e=>?_⟩
    cases i with
    | zero=>
     simp at e
     subst e
     refine ⟨hn,?_⟩
     have h1:all.take a.length=a:=by
      have h2:=congrArg (List.take a.length) hl.2
      rw [List.take_take,List.take_left,Nat.min_eq_left (by simp)] at h2
      exact h2
     have h3:all[a.length]?=some y:=by
      have h4:=congrArg (fun l=>l[a.length]?) hl.2
      simp only [List.length_append,List.length_singleton] at h4
      rw [List.getElem?_take_of_lt (by omega)] at h4
      rw [h4];simp
     rw [Nat.add_zero,h1,h3]
     exact hy
    | succ i=>
     have:=H i z (by simpa using e)
     simp only [List.length_append,List.length_singleton] at this
     rw [show a.length+1+i=a.length+(i+1) by omega] at this
     exact this
   ·simp at h
  ·simp at h
theorem ok_of {l:List api_Json} (h:May l=true):∃ all,Ok l all∧lastSize all l.length=true∧1≤l.length∧l.length≤300:=by
 unfold May at h
 simp only [Bool.and_eq_true,decide_eq_true_eq] at h
 obtain ⟨h1,h2⟩:=h
 cases hm:mayL l [] with
 | none=>rw [hm] at h2;simp at h2
 | some all=>
  rw [hm] at h2
  have hl:=mayL_len l [] all hm
  obtain ⟨G,H⟩:=mayL_ok l [] all hm (fun j y e=>by simp at e)
  refine ⟨all,⟨by rw [hl.1];simp,G,fun i x e=>?_⟩,h2,h1.1,h1.2⟩
  have:=H i x e
  simpa using this
theorem shGo_sum {all:List Shp} {i:Nat}:∀ (r:List Int) (sz dp s d:Nat),shGo all i r sz dp=some (s,d)→1≤sz→dp≤d∧(∀ p∈r,0≤p∧p.toNat<i∧∃ y,all[p.toNat]?=some y∧y.deep≤d)∧s=sz+(r.map fun p=>((all[p.toNat]?).map Shp.size).getD 0).sum
 | [],sz,dp,s,d,h,h1=>by simp [shGo] at h;simp;omega
 | p::r,sz,dp,s,d,h,h1=>by
  unfold shGo at h
  split at h
  ·rename_i hp
   split at h
   ·rename_i y hy
    have:=shGo_sum r _ _ s d h (by omega)
    refine ⟨by omega,fun q hq=>?_,?_⟩
    ·rcases List.mem_cons.1 hq with e | e
     ·subst e
      exact ⟨hp.1,by omega,y,hy,by omega⟩
     ·exact this.2.1 q e
    ·rw [this.2.2,List.map_cons,List.sum_cons,hy];simp;omega
   ·simp at h
  ·simp at h
theorem Ok.part {l:List api_Json} {all:List Shp} (O:Ok l all) {i:Nat} {x:api_Json} (hx:l[i]?=some x):∃ y,all[i]?=some y∧(x.Kind≠6→x.Kind≠7→x.Parts=[])∧(x.Kind≠7→x.Keys=[])∧(x.Kind=7→x.Keys.length=x.Parts.length∧∀ s∈x.Keys,plain s 3000=true)∧plain x.S 3000=true∧1≤x.Kind∧x.Kind≤7∧
  (∀ p∈x.Parts,0≤p∧p.toNat<i∧∃ z,all[p.toNat]?=some z∧(6≤x.Kind→z.deep+1≤y.deep))∧y.size=1+(x.Parts.map fun p=>((all[p.toNat]?).map Shp.size).getD 0).sum:=by
 obtain ⟨hn,hs⟩:=O.at_ i x hx
 have hi:i<l.length:=(List.getElem?_eq_some_iff.1 hx).1
 have hil:i<all.length:=by rw [O.len];exact hi
 rw [List.getElem?_eq_getElem hil] at hs
 refine ⟨all[i],List.getElem?_eq_getElem hil,?_⟩
 unfold node at hn
 simp only [Bool.and_eq_true,decide_eq_true_eq] at hn
 obtain ⟨⟨⟨⟨hk,_⟩,_⟩,hS⟩,hr⟩:=hn
 have hpk:x.Kind≠6→x.Kind≠7→x.Parts=[]:=fun h6 h7=>by
  rw [if_neg h7] at hr
  simp only [Bool.and_eq_true,Bool.or_eq_true,decide_eq_true_eq] at hr
  rcases hr.2 with q | q
  ·exact absurd q h6
  ·exact q
 have hkk:x.Kind≠7→x.Keys=[]:=fun h7=>by
  rw [if_neg h7] at hr
  simp only [Bool.and_eq_true,decide_eq_true_eq] at hr
  exact hr.1
 refine ⟨hpk,hkk,fun h7=>?_,hS,hk.1,hk.2,?_⟩
 ·rw [if_pos h7] at hr
  simp only [Bool.and_eq_true,decide_eq_true_eq] at hr
  exact ⟨hr.1.1,fun s hs=>List.all_eq_true.1 hr.1.2 s hs⟩
 unfold shaped at hs
 cases hg:shGo (all.take i) i x.Parts.reverse 1 0 with
 | none=>rw [hg] at hs;simp at hs
 | some z=>
  obtain ⟨sz,dp⟩:=z
  rw [hg] at hs
  have hsum:=shGo_sum _ _ _ _ _ hg (Nat.le_refl _)
  dsimp only at hs
  have hy:all[i]=⟨sz,if 6≤x.Kind then dp+1 else dp⟩:=by
   generalize (if 6≤x.Kind then dp+1 else dp)=d at hs ⊢
   by_cases q:d≤8
   ·rw [if_pos q] at hs;exact (Option.some.inj hs).symm
   ·rw [if_neg q] at hs;simp at hs
  refine ⟨fun p hp=>?_,?_⟩
  ·obtain ⟨h1,h2,z,h3,h4⟩:=hsum.2.1 p (List.mem_reverse.2 hp)
   rw [List.getElem?_take_of_lt h2] at h3
   refine ⟨h1,h2,z,h3,fun h6=>?_⟩
   rw [hy,if_pos h6]
   show z.deep+1≤dp+1
   omega
  ·rw [hy]
   show sz=_
   rw [hsum.2.2,List.map_reverse,List.sum_reverse]
   congr 2
   refine List.map_congr_left fun p hp=>?_
   obtain ⟨h1,h2,z,h3,h4⟩:=hsum.2.1 p (List.mem_reverse.2 hp)
   rw [List.getElem?_take_of_lt h2]
end P
end Go.Bvm.JN
set_option linter.unusedVariables false
set_option linter.unusedSimpArgs false
set_option maxRecDepth 20000
namespace Go.Bvm.JN
open Go.Bvm
namespace P
theorem plain_len {s:Str} (h:plain s 3000=true):s.length≤3000:=by
 unfold plain at h
 simp only [Bool.and_eq_true,decide_eq_true_eq] at h
 exact h.1
theorem sum_take {α:Type} (f:α→Nat) {l:List α} {k:Nat} (h:k<l.length):((l.take (k+1)).map f).sum=((l.take k).map f).sum+f l[k]:=by
 rw [List.take_succ_eq_append_getElem h,List.map_append,List.sum_append];simp
abbrev szOf (all:List Shp) (p:Int):Nat:=((all[p.toNat]?).map Shp.size).getD 0
theorem spellP_len {all:List Shp} {sp:Nat→Str} {x:api_Json} (hk:∀ s∈x.Keys,s.length≤3000) (hsp:∀ p∈x.Parts,(sp p.toNat).length+6004≤12100*szOf all p):∀ k,k≤x.Parts.length→(spellP sp x k).length≤12100*((x.Parts.take k).map (szOf all)).sum
 | 0,_=>by simp [spellP]
 | k+1,h=>by
  have ih:=spellP_len hk hsp k (by omega)
  have h1:=hsp x.Parts[k] (List.getElem_mem _)
  have e1:x.Parts.getD k 0=x.Parts[k]:=by rw [List.getD_eq_getElem?_getD,List.getElem?_eq_getElem (by omega)];rfl
  have h2:(x.Keys.getD k []).length≤3000:=by
   rw [List.getD_eq_getElem?_getD]
   by_cases q:k<x.Keys.length
   ·rw [List.getElem?_eq_getElem q];exact hk _ (List.getElem_mem _)
   ·rw [List.getElem?_eq_none (by omega)];simp
  have h3:=quote_len (x.Keys.getD k [])
  have h4:(if 0<k then [44] else ([]:Str)).length≤1:=by split <;> simp
  have h5:(if x.Kind=7 then quote (x.Keys.getD k [])++[58] else []).length≤6003:=by
   split
   ·rw [List.length_append];show _+1≤_;omega
   ·simp
  rw [spellP,sum_take _ (by omega),e1]
  simp only [List.length_append]
  omega
theorem spell_len {l:List api_Json} {all:List Shp} (O:Ok l all) (hz:∀ x∈l,inR x.N):∀ (f i:Nat) (y:Shp),all[i]?=some y→y.deep<f→(spell l f i).length+6004≤12100*y.size
 | 0,i,y,h,hd=>by omega
 | f+1,i,y,h,hd=>by
  have hi:i<l.length:=by rw [← O.len];exact (List.getElem?_eq_some_iff.1 h).1
  have hx:=List.getElem?_eq_getElem hi
  obtain ⟨y',e,p1,p0,p2,p3,p4,p5,p6,p7⟩:=O.part hx
  rw [h] at e
  cases e
  rw [spell,hx]
  dsimp only
  split
  ·have:=itoa_len _ (hz _ (List.getElem_mem hi));omega
  ·split
   ·have:=quote_len l[i].S;have:=plain_len p3;omega
   ·split
    ·rename_i hk
     have:=spellP_len (all:=all) (sp:=spell l f) (x:=l[i]) (fun s hs=>by
      rcases hk with k6 | k7
      ·rw [p0 (by omega)] at hs;simp at hs
      ·exact plain_len ((p2 k7).2 s hs)) (fun p hp=>by
      obtain ⟨_,_,z,hz1,hz2⟩:=p6 p hp
      have hdz:=hz2 (by omega)
      have:=spell_len O hz f p.toNat z hz1 (by omega)
      unfold szOf
      rw [hz1]
      exact this) l[i].Parts.length (Nat.le_refl _)
     rw [List.take_length] at this
     simp only [List.length_append,List.length_singleton]
     have:y.size=1+(l[i].Parts.map (szOf all)).sum:=p7
     omega
    ·unfold word
     split
     ·simp;omega
     ·split <;> simp <;> omega
end P
end Go.Bvm.JN
set_option linter.unusedVariables false
set_option linter.unusedSimpArgs false
set_option maxRecDepth 20000
namespace Go.Bvm.JN
open Go.Bvm
noncomputable abbrev bb (b:Nat):V:=.p b 0 2 0
theorem sl9_eq (v:V) (e:L8) (k:L8→Bool):sl9 v e k=k ⟨e.c0,⟨e.c1.c0,v,e.c1.c2,e.c1.c3,e.c1.c4,e.c1.c5,e.c1.c6,e.c1.c7⟩,e.c2,e.c3,e.c4,e.c5,e.c6,e.c7⟩:=(Eq.refl _).trans rfl
def SpS (m f:Nat) (l:List api_Json) (all:List Shp) (v:V):Prop:=∀ (c:Nat) (h:H) (b i:Nat) (t:Str) (y:Shp) (k:KV),all[i]?=some y→y.deep<f→WO c h b t→Sl (α:=JF) [] h v l→Pin h→Pg<h.next→t.length+12100*y.size≤800000000→
 (∀ h',WO c h' b (t++P.spell l f i)→Fz c h.next MB h h'→k tup0 h'=true)→run tbl m Nf_j_spell (vl [bb b,v,wz i]) h k=true
noncomputable abbrev fs (q b:Nat) (en:Str) (k:Int) (len:Int) (pv v7 v:V) (v9:V):L8:=⟨⟨.t true,.p q 0 5 0,bb b,vs en,wz k,wz len,pv,v7⟩,⟨v,v9,V.u,V.u,V.u,V.u,V.u,V.u⟩,n8 V.u,n8 V.u,n8 V.u,n8 V.u,n8 V.u,n8 V.u⟩
theorem spell3_w {c b:Nat} {h h1:H} {t:Str} {k:Nat} {lf:Nat} {e69 e:L8} {K:KX} {n:Nat} (h4:e69.c0.c4=wz k) (h2:e.c0.c2=bb b) (W:WO c h1 b t) (hl:t.length≤900000000) (F:Fz c h.next MB h h1)
  (Kf:∀ h2,WO c h2 b (t++(if 0<k then [44] else []))→Fz c h.next MB h h2→K X.n e h2=true):j_spell_3 (run tbl (n+4)) lf e69 e h1 K=true:=by
 unfold j_spell_3
 have n1:=F.nx
 rw [h4,h2]
 by_cases hk:0<k
 ·have hk3:(k:Int)>0:=by omega
  simp -implicitDefEqProofs (disch:=omega) [hk,hk3]
  refine writeByte_w W (by omega) fun h3 W3 F3=>?_
  have:=Kf h3 (by rw [if_pos hk];exact W3) (F.trans F3 (Nat.le_refl _) n1 (fun _ k=>k))
  exact this
 ·have hk3:¬ (k:Int)>0:=by omega
  simp -implicitDefEqProofs (disch:=omega) [hk,hk3]
  exact Kf h1 (by rw [if_neg hk,List.append_nil];exact W) F
theorem spell4_w {Z:List Nat} {c b q:Nat} {h h1:H} {t:Str} {k:Nat} {lf:Nat} {x:api_Json} {w1 w2:V} {e:L8} {K:KX} {n:Nat} (hkr:inR x.Kind) (hx:e.c0.c1=.p q 0 5 0) (h7:e.c0.c7=wz k) (h2:e.c0.c2=bb b) (W:WO c h1 b t) (hl:t.length≤800010000) (F:Fz c h.next MB h h1)
  (B:Bk h1 q 0 0 Ty_api_Json true true [wz x.Kind,wz x.N,vs x.S,w1,w2]) (qh:q<h1.next) (KS:Sl Z h1 w1 x.Keys) (hk:x.Kind=7→∃ s,x.Keys[k]?=some s∧s.length≤3000)
  (Kf:∀ h2,WO c h2 b (t++(if x.Kind=7 then P.quote (x.Keys.getD k [])++[58] else []))→Fz c h.next MB h h2→K X.n e h2=true):j_spell_4 (run tbl (n+4)) lf e h1 K=true:=by
 unfold j_spell_4
 have n1:=F.nx
 have La:=fun {o m}=>B.ld (n:=5) rfl (off:=o) (lim:=m)
 rw [hx,h7,h2]
 by_cases c7:x.Kind=7
 ·obtain ⟨s,hs,hsl⟩:=hk c7
  have hki:k<x.Keys.length:=(List.getElem?_eq_some_iff.1 hs).1
  obtain ⟨_,a1,a2⟩:=at_Str KS hki
  have es:x.Keys[k]=s:=by rw [List.getElem?_eq_getElem hki] at hs;exact Option.some.inj hs
  have eg:x.Keys.getD k []=s:=by rw [List.getD_eq_getElem?_getD,hs];rfl
  rw [es] at a2
  simp -implicitDefEqProofs (disch:=omega) [La,c7,a1,a2]
  refine quoted_w W (by omega) (by omega) fun h3 W3 F3=>?_
  have n3:=F3.nx
  have hq:=P.quote_len s
  refine writeByte_w W3 (by simp;omega) fun h4 W4 F4=>?_
  refine Kf h4 ?_ ((F.trans F3 (Nat.le_refl _) n1 (fun _ k=>k)).trans F4 (Nat.le_refl _) (by omega) (fun _ k=>k))
  rw [if_pos c7,eg,← List.append_assoc]
  exact W4
 ·simp -implicitDefEqProofs (disch:=omega) [La,c7]
  exact Kf h1 (by rw [if_neg c7,List.append_nil];exact W) F
theorem spell_loop {l:List api_Json} {all:List Shp} (O:P.Ok l all) {n f:Nat} {v:V} (SP:SpS (n+4) f l all v) (hlen:∀ (i:Nat) (y:Shp),all[i]?=some y→y.deep<f→(P.spell l f i).length+6004≤12100*y.size)
  {c:Nat} {h:H} {b q i:Nat} {t en:Str} {x:api_Json} {y:Shp} {w1 w2 v7 v9:V} {K:KX} (hx:l[i]?=some x) (hy:all[i]?=some y) (hd:y.deep<f+1) (hkd:x.Kind=6∨x.Kind=7)
  (B:Bk h q 0 0 Ty_api_Json true true [wz x.Kind,wz x.N,vs x.S,w1,w2]) (qh:q<h.next) (KS:Sl [] h w1 x.Keys) (PS:Sl [] h w2 x.Parts) (W:WO c h b t) (L:Sl (α:=JF) [] h v l) (p:Pin h) (ph:Pg<h.next) (hlt:t.length+12100*y.size≤800000001) (hpb:x.Parts.length≤4096)
  (Kf:∀ h' e',e'.c0.c2=bb b→e'.c0.c3=vs en→WO c h' b (t++P.spellP (P.spell l f) x x.Parts.length)→Fz c h.next MB h h'→K X.n e' h'=true) :
  j_spell_9 (run tbl (n+4)) big (⟨⟨.t true,.p q 0 5 0,bb b,vs en,V.u,V.u,V.u,v7⟩,⟨v,v9,V.u,V.u,V.u,V.u,V.u,V.u⟩,n8 V.u,n8 V.u,n8 V.u,n8 V.u,n8 V.u,n8 V.u⟩ : L8) h K=true:=by
 obtain ⟨y',e,p1,p0,p2,p3,p4,p5,p6,p7⟩:=O.part hx
 rw [hy] at e
 cases e
 have pb:=PS.bd;have kb:=KS.bd
 have hmB:maxB=140737488355328:=rfl
 have hy3:=(O.good i y hy).2.1
 have hkl:∀ s∈x.Keys,s.length≤3000:=fun s hs=>by
  by_cases h7:x.Kind=7
  ·exact P.plain_len ((p2 h7).2 s hs)
  ·rw [p0 h7] at hs;simp at hs
 have hsp:∀ pp∈x.Parts,(P.spell l f pp.toNat).length+6004≤12100*P.szOf all pp:=fun pp hp=>by
  obtain ⟨_,_,z,hz1,hz2⟩:=p6 pp hp
  have:=hlen pp.toNat z hz1 (by have:=hz2 (by omega);omega)
  unfold P.szOf
  rw [hz1];exact this
 have hpl:=P.spellP_len (all:=all) hkl hsp
 have La:=fun {o m}=>B.ld (n:=5) rfl (off:=o) (lim:=m)
 unfold j_spell_9
 simp -implicitDefEqProofs (disch:=omega) [La,PS.lenL]
 refine loop_w (fun m e h'=>∃ (k:Nat) (v7 v9:V),m=x.Parts.length-k∧k≤x.Parts.length∧e=fs q b en k x.Parts.length w2 v7 v v9∧WO c h' b (t++P.spellP (P.spell l f) x k)∧Fz c h.next MB h h') ?_ big x.Parts.length _ _ ⟨0,v7,v9,rfl,by omega,rfl,by simpa [P.spellP] using W,Fz.refl _ _ _ _⟩ ?_
 ·rintro m e h1 ⟨k,v7,v9,rfl,hk,rfl,W1,F1⟩ K' Kn Kx Kr
  have n1:=F1.nx
  have B1:=B.fz F1 qh (by decide)
  have KS1:=KS.fz F1 (Nat.le_refl _) (by decide)
  have PS1:=PS.fz F1 (Nat.le_refl _) (by decide)
  have L1:=L.fz F1 (Nat.le_refl _) (by decide)
  have p1':=p.fz F1 ph (by decide)
  have hplk:=hpl k hk
  unfold j_spell_8 j_spell_2
  by_cases hk2:k<x.Parts.length
  ·have hk3:(k:Int)<x.Parts.length:=by omega
   obtain ⟨hin,a1,a2⟩:=at_Int PS1 hk2
   obtain ⟨q1,q2,z,hz1,hz2⟩:=p6 _ (List.getElem_mem hk2)
   have hdz:=hz2 (by omega)
   have ez:(wz x.Parts[k]:V)=wz ((x.Parts[k].toNat:Nat):Int):=by rw [Int.toNat_of_nonneg q1]
   have szz:P.szOf all x.Parts[k]=z.size:=by unfold P.szOf;rw [hz1];rfl
   have hst:=P.sum_take (P.szOf all) hk2
   have hsl:((x.Parts.take (k+1)).map (P.szOf all)).sum≤(x.Parts.map (P.szOf all)).sum:=by
    conv=>rhs;rw [← List.take_append_drop (k+1) x.Parts]
    rw [List.map_append,List.sum_append];omega
   have hys:y.size=1+(x.Parts.map (P.szOf all)).sum:=p7
   unfold j_spell_6 j_spell_7
   simp -implicitDefEqProofs (disch:=omega) [hk3,a1,a2,sl9_eq]
   refine spell3_w (c:=c) (h:=h) (k:=k) rfl rfl W1 (by simp;omega) F1 fun h2 W2 F2=>?_
   have n2:=F2.nx
   have B2:=B.fz F2 qh (by decide)
   have hkk:x.Kind=7→∃ s,x.Keys[k]?=some s∧s.length≤3000:=fun c7=>by
    have:=(p2 c7).1
    exact ⟨_,List.getElem?_eq_getElem (by omega),hkl _ (List.getElem_mem _)⟩
   have l4:(if 0<k then [44] else ([]:Str)).length≤1:=by split <;> simp
   simp -implicitDefEqProofs (disch:=omega)
   refine spell4_w (c:=c) (h:=h) (k:=k) (x:=x) (by unfold inR;omega) rfl rfl rfl W2 (by simp only [List.length_append];omega) F2 B2 (by omega) (KS.fz F2 (Nat.le_refl _) (by decide)) hkk fun h3 W3 F3=>?_
   have n3:=F3.nx
   have l5:(if x.Kind=7 then P.quote (x.Keys.getD k [])++[58] else []).length≤6003:=by
    split
    ·rename_i c7
     obtain ⟨s,hs,hsl⟩:=hkk c7
     have eg:x.Keys.getD k []=s:=by rw [List.getD_eq_getElem?_getD,hs];rfl
     have:=P.quote_len s
     rw [List.length_append,eg];show _+1≤_;omega
    ·simp
   have zs:=hlen _ z hz1 (by omega)
   unfold j_spell_5
   simp -implicitDefEqProofs (disch:=omega)
   rw [ez]
   refine SP c h3 b _ _ z _ hz1 (by omega) W3 (L.fz F3 (Nat.le_refl _) (by decide)) (p.fz F3 ph (by decide)) (by omega) (by simp only [List.length_append];omega) fun h4 W4 F4=>?_
   simp -implicitDefEqProofs (disch:=omega)
   refine Kn _ _ _ (by omega) ⟨k+1,wz k,wz x.Parts[k],rfl,by omega,by rw [ez];simp,?_,F3.trans F4 (Nat.le_refl _) n3 (fun _ k=>k)⟩
   have eg:x.Parts.getD k 0=x.Parts[k]:=by rw [List.getD_eq_getElem?_getD,List.getElem?_eq_getElem hk2];rfl
   rw [P.spellP,eg]
   simpa [List.append_assoc] using W4
  ·have hk3:¬ (k:Int)<x.Parts.length:=by omega
   have:k=x.Parts.length:=by omega
   subst this
   simp -implicitDefEqProofs (disch:=omega)
   refine Kx _ _ _ ?_
   simp -implicitDefEqProofs (disch:=omega)
   exact Kf _ _ rfl rfl W1 F1
 ·unfold big;omega
end Go.Bvm.JN
set_option linter.unusedVariables false
set_option linter.unusedSimpArgs false
set_option maxRecDepth 20000
namespace Go.Bvm.JN
open Go.Bvm
theorem spell_w {l:List api_Json} {all:List Shp} (O:P.Ok l all) {n:Nat} {v:V} (hz:∀ x∈l,inR x.N) (hB:∀ x∈l,x.Keys.length≤1000000∧x.Parts.length≤4096):∀ f,SpS (n+f+5) f l all v
 | 0=>fun c h b i t y k hy hd=>absurd hd (by omega)
 | f+1=>by
  intro c h b i t y k hy hd W L p ph hlt K
  have hi:i<l.length:=by rw [← O.len];exact (List.getElem?_eq_some_iff.1 hy).1
  have hx:=List.getElem?_eq_getElem hi
  obtain ⟨y',e,p1,p0,p2,p3,p4,p5,p6,p7⟩:=O.part hx
  rw [hy] at e
  cases e
  have hS:=P.plain_len p3
  have hy1:=(O.good i y hy).1
  rw [show n+(f+1)+5=(n+f+5)+1 by omega,run_succ,tbl_j_spell]
  unfold T_j_spell j_spell_15
  obtain ⟨cs,E,a1,a2,a3⟩:=L.at (i:=(i:Int)) (Int.natCast_nonneg i) (getE? (show (i:Int).toNat<l.length from hi))
  have a1':∀ k,iadV 5 v (wz (i:Int)) k=k (pel v (i:Int) 0):=a1
  have E':∃ w1 w2,cs=[wz l[i].Kind,wz l[i].N,vs l[i].S,w1,w2]∧inR l[i].Kind∧inR l[i].N∧l[i].S.length≤maxB∧Sl [] h w1 l[i].Keys∧Sl [] h w2 l[i].Parts:=E
  obtain ⟨w1,w2,rfl,f0,f1,f2,f3,f4⟩:=E'
  have a3':∀ k,lda 5 (pel v (i:Int) 0) h k=k (.x .agg (vl [wz l[i].Kind,wz l[i].N,vs l[i].S,w1,w2]) V.nil):=fun k=>a3 0 5 k (by decide)
  simp -implicitDefEqProofs (disch:=omega) [a1',a3']
  refine newA_w rfl (by decide) (by decide) fun h2 n2 B2 x2=>?_
  have hn2:h2.next=h.next+1:=n2
  refine sta_w B2 rfl (by simp) (by simp) fun h3 n3 B3 x3=>?_
  have B3:Bk h3 h.next 0 0 Ty_api_Json true true [wz l[i].Kind,wz l[i].N,vs l[i].S,w1,w2]:=B3
  have E3:Ex h h3:=⟨by omega,fun j hj=>(x3.2 j (by omega)).trans (x2.2 j (by omega)),fun j hj _=>(x3.2 j (by omega)).trans (x2.2 j (by omega))⟩
  have W3:=W.fz E3 (Nat.le_refl _) (by decide)
  have p3':=p.fz E3 ph (by decide)
  have F3:Fz c h.next MB h h3:=⟨E3.nx,fun j hj=>E3.lo j (by have:=W.1;omega),fun j hj _=>E3.lo j hj⟩
  have La:=fun {o m}=>B3.ld (n:=5) rfl (off:=o) (lim:=m)
  have sp:P.spell l (f+1) i=if l[i].Kind=4 then Lib.itoa l[i].N else if l[i].Kind=5 then P.quote l[i].S else if l[i].Kind=6∨l[i].Kind=7 then [(P.ends l[i].Kind).1]++P.spellP (P.spell l f) l[i] l[i].Parts.length++[(P.ends l[i].Kind).2] else P.word l[i].Kind:=by
   rw [P.spell,hx]
  generalize hxx:l[i]=x at *
  unfold j_spell_14
  by_cases c4:x.Kind=4
  ·rw [if_pos c4] at sp
   have hit:=itoa_len x.N f1
   simp -implicitDefEqProofs (disch:=omega) [La,c4]
   rw [Itoa_eq p3' f1]
   refine writeString_w W3 (by omega) fun h4 r W4 F4=>?_
   exact K h4 (by rw [sp];exact W4) (F3.trans F4 (Nat.le_refl _) E3.nx (fun _ k=>k))
  by_cases c5:x.Kind=5
  ·rw [if_neg c4,if_pos c5] at sp
   simp -implicitDefEqProofs (disch:=omega) [La,c4,c5]
   refine quoted_w W3 (by omega) (by omega) fun h4 W4 F4=>?_
   exact K h4 (by rw [sp];exact W4) (F3.trans F4 (Nat.le_refl _) E3.nx (fun _ k=>k))
  rw [if_neg c4,if_neg c5] at sp
  unfold j_spell_0
  by_cases c67:x.Kind=6∨x.Kind=7
  ·rw [if_pos c67] at sp
   have SP:SpS (n+f+1+4) f l all v:=by rw [show n+f+1+4=n+f+5 by omega];exact spell_w O hz hB f
   have go:∀ (en:Str) (o cl:UInt8),P.ends x.Kind=(o,cl)→en=[o,cl]→j_spell_11 (run tbl (n+f+1+4)) big (⟨⟨.t true,.p h.next 0 5 0,bb b,vs en,V.u,V.u,V.u,V.u⟩,⟨v,V.u,V.u,V.u,V.u,V.u,V.u,V.u⟩,n8 V.u,n8 V.u,n8 V.u,n8 V.u,n8 V.u,n8 V.u⟩ : L8) h3 (fun x e h=>finK (fun e h k=>k (V.x .tup V.nil V.nil)) k (unX 0 x) e h)=true:=by
    intro en o cl he1 he2
    subst he2
    have s0:∀ k,sidxV (vs [o,cl]) (wz 0) k=k (vy o):=fun k=>sidx_at (s:=[o,cl]) (i:=0) rfl (by omega) k
    have s1:∀ k,sidxV (vs [o,cl]) (wz 1) k=k (vy cl):=fun k=>sidx_at (s:=[o,cl]) (i:=1) rfl (by omega) k
    unfold j_spell_11
    simp -implicitDefEqProofs (disch:=omega) [s0]
    refine writeByte_w W3 (by omega) fun h4 W4 F4=>?_
    have n4:=F4.nx
    have F04:=F3.trans F4 (Nat.le_refl _) E3.nx (fun _ k=>k)
    refine spell_loop (n:=n+f+1) O SP (fun j z hj hdz=>P.spell_len O hz f j z hj hdz) (i:=i) (x:=x) (y:=y) (q:=h.next) hx hy hd c67 (B3.fz F4 (by omega) (by decide)) (by omega) ((f3.fz E3 (Nat.le_refl _) (by simp)).fz F4 (Nat.le_refl _) (by decide)) ((f4.fz E3 (Nat.le_refl _) (by simp)).fz F4 (Nat.le_refl _) (by decide)) W4 ((L.fz E3 (Nat.le_refl _) (by simp)).fz F4 (Nat.le_refl _) (by decide)) (p3'.fz F4 (by omega) (by decide)) (by omega) (by rw [List.length_append,List.length_singleton];omega) (by have:=hB _ (List.getElem_mem hi);rw [hxx] at this;exact this.2) fun h5 e5 q1 q2 W5 F5=>?_
    unfold j_spell_10
    rw [q1,q2]
    simp -implicitDefEqProofs (disch:=omega) [s1]
    have hsl:=P.spell_len O hz (f+1) i y hy hd
    rw [sp,he1] at hsl
    simp only [List.length_append,List.length_singleton] at hsl
    refine writeByte_w W5 (by simp;omega) fun h6 W6 F6=>?_
    have n5:=F5.nx
    refine K h6 ?_ ((F04.trans F5 (Nat.le_refl _) (by omega) (fun _ k=>k)).trans F6 (Nat.le_refl _) (by omega) (fun _ k=>k))
    rw [sp,he1]
    simpa [List.append_assoc] using W6
   rcases c67 with c6 | c7
   ·simp -implicitDefEqProofs (disch:=omega) [La,c4,c5,c6]
    unfold j_spell_13 j_spell_1
    simp -implicitDefEqProofs (disch:=omega) [La,c6]
    exact go [91,93] 91 93 (by unfold P.ends;rw [if_neg (by omega)]) rfl
   ·simp -implicitDefEqProofs (disch:=omega) [La,c4,c5,c7]
    unfold j_spell_13 j_spell_1
    simp -implicitDefEqProofs (disch:=omega) [La,c7]
    exact go [123,125] 123 125 (by unfold P.ends;rw [if_pos c7]) rfl
  ·rw [if_neg c67] at sp
   have c6:¬ x.Kind=6:=fun e=>c67 (.inl e)
   have c7:¬ x.Kind=7:=fun e=>c67 (.inr e)
   simp -implicitDefEqProofs (disch:=omega) [La,c4,c5,c6,c7]
   unfold j_spell_13 j_spell_12
   simp -implicitDefEqProofs (disch:=omega) [La]
   refine bslA_w rfl (by decide) fun h4 n4 B4 x4=>?_
   have hn4:h4.next=h3.next+1:=n4
   have E4:Ex h3 h4:=⟨by omega,fun j hj=>x4.2 j (by omega),fun j hj _=>x4.2 j (by omega)⟩
   have B3':=B3.fz E4 (by omega) (by simp)
   have La:=fun {o m}=>B3'.ld (n:=5) rfl (off:=o) (lim:=m)
   have Lb:=fun {o m}=>B4.ld (n:=3) rfl (off:=o) (lim:=m)
   have W4:=W3.fz E4 (Nat.le_refl _) (by decide)
   have F4:Fz c h.next MB h h4:=F3.trans (E4.mono (c:=c) (b:=h.next) (M:=MB) (by have:=W.1;omega) (by omega) (by simp)) (Nat.le_refl _) (Nat.le_refl _) (fun _ k=>k)
   have n34:=E4.nx
   have fin:∀ (s:Str),s=P.word x.Kind→run tbl (n+f+5) Nf_st_Builder_WriteString (vl [bb b,vs s]) h4 (fun v124 h125=>k (V.x Tag.tup V.nil V.nil) h125)=true:=fun s hs=>by
    have hsl:s.length≤5:=by
     rw [hs];unfold P.word
     split
     ·simp
     ·split <;> simp
    refine writeString_w (n:=n+f+2) W4 (by omega) fun h5 r W5 F5=>?_
    exact K h5 (by rw [sp,← hs];exact W5) (F4.trans F5 (Nat.le_refl _) (by omega) (fun _ k=>k))
   have h123:x.Kind=1∨x.Kind=2∨x.Kind=3:=by omega
   rcases h123 with c1 | c1 | c1
   ·simp -implicitDefEqProofs (disch:=omega) [La,Lb,c1]
    exact fin _ (by unfold P.word;rw [if_pos c1])
   ·simp -implicitDefEqProofs (disch:=omega) [La,Lb,c1]
    exact fin _ (by unfold P.word;rw [if_neg (by omega),if_pos c1])
   ·simp -implicitDefEqProofs (disch:=omega) [La,Lb,c1]
    exact fin _ (by unfold P.word;rw [if_neg (by omega),if_neg (by omega)])
namespace P
def Text (l:List api_Json):Str:=spell l 9 (l.length-1)
end P
theorem Text_w {h:H} {v:V} {l:List api_Json} {k:KV} {n:Nat} (L:Sl (α:=JF) [] h v l) (p:Pin h) (ph:Pg<h.next) (hm:P.May l=true) (hz:∀ x∈l,inR x.N) (hB:∀ x∈l,x.Keys.length≤1000000∧x.Parts.length≤4096)
  (K:∀ h',Ex h h'→(P.Text l).length≤5000000→k (vs (P.Text l)) h'=true):run tbl (n+15) Nf_j_Text (vl [v]) h k=true:=by
 obtain ⟨all,O,hls,hl1,hl2⟩:=P.ok_of hm
 obtain ⟨y,hy⟩ : ∃ y,all[l.length-1]?=some y:=⟨_,List.getElem?_eq_getElem (by rw [O.len];omega)⟩
 have g:=O.good _ _ hy
 have ll:∀ k,Go.Bvm.lenL v k=k (wz (l.length:Int)):=L.lenL
 have el:(wz ((l.length:Int)-1):V)=wz ((l.length-1:Nat):Int):=by congr 1;omega
 rw [run_succ,tbl_j_Text]
 unfold T_j_Text j_Text_0
 simp -implicitDefEqProofs (disch:=omega)
 refine newA_w rfl (by decide) (by decide) fun h1 n1 B1 x1=>?_
 have hn1:h1.next=h.next+1:=n1
 have E1:Ex h h1:=x1.ex (Nat.le_refl _)
 have W1:WO h.next h1 h.next []:=⟨⟨by omega,Nat.le_refl _⟩,_,_,B1,.inl rfl,fun _=>rfl,.nil _ _ _⟩
 have hsl:=P.spell_len O hz 9 _ y hy (by omega)
 simp -implicitDefEqProofs (disch:=omega) [ll]
 rw [el]
 refine spell_w O hz hB 9 (n:=n) h.next h1 h.next _ [] y _ hy (by omega) W1 (L.fz E1 (Nat.le_refl _) (by simp)) (p.fz E1 ph (by decide)) (by omega) (by simp;omega) fun h2 W2 F2=>?_
 have n2:=F2.nx
 rw [List.nil_append] at W2
 have E2:Ex h h2:=⟨by omega,fun j hj=>(F2.lo j hj).trans (E1.lo j hj),fun j hj _=>(F2.lo j hj).trans (E1.lo j hj)⟩
 refine builderString_w W2 (by omega) fun h3 F3=>?_
 have E3:Ex h h3:=⟨by have:=F3.nx;omega,fun j hj=>(F3.lo j hj).trans (E2.lo j hj),fun j hj _=>(F3.lo j hj).trans (E2.lo j hj)⟩
 exact K h3 E3 (by unfold P.Text;omega)
theorem Write_w {h:H} {v:V} {l:List api_Json} {k:KV} {n:Nat} (L:Sl (α:=JF) [] h v l) (p:Pin h) (ph:Pg<h.next) (hz:∀ x∈l,inR x.N) (hB:∀ x∈l,x.Keys.length≤1000000∧x.Parts.length≤4096)
  (K:∀ h' s e,Ex h h'→(P.May l=true→s=P.Text l∧e=0∧s.length≤5000000)→(P.May l=false→s=[]∧e=1)→k (.x .tup (vl [vs s,wz e]) V.nil) h'=true):run tbl (n+16) Nf_j_Write (vl [v]) h k=true:=by
 rw [run_succ,tbl_j_Write]
 unfold T_j_Write j_Write_2 j_Write_0
 simp -implicitDefEqProofs (disch:=omega)
 refine May_w (n:=n+3) L hB fun h1 E1=>?_
 have n1:=E1.nx
 cases hm:P.May l with
 | false=>
  simp -implicitDefEqProofs (disch:=omega) [nots]
  exact K h1 _ _ E1 (fun q=>by rw [hm] at q;simp at q) (fun _=>⟨rfl,rfl⟩)
 | true=>
  simp -implicitDefEqProofs (disch:=omega) [nots]
  unfold j_Write_1
  simp -implicitDefEqProofs (disch:=omega)
  refine Text_w (n:=n) (L.fz E1 (Nat.le_refl _) (by simp)) (p.fz E1 ph (by decide)) (by omega) hm hz hB fun h2 E2 hl=>?_
  exact K h2 _ _ (E1.loc E2 n1 n1) (fun _=>⟨rfl,rfl,hl⟩) (fun q=>by rw [hm] at q;simp at q)
end Go.Bvm.JN
