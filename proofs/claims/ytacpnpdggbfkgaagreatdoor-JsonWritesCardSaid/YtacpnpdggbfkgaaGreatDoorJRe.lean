/- Functions run by the abstract machine on values that are not all known. Conditions: stated in each theorem. -/
import Derived.Test.YtacpnpdggbfkgaaGreatDoorJRd
set_option linter.unusedVariables false
set_option linter.unusedSimpArgs false
set_option linter.unusedVariables false
set_option linter.unusedSimpArgs false
set_option maxRecDepth 20000
namespace Go.Bvm.JN
open Go.Bvm
namespace P
def word (kd:Int):Str:=if kd=1 then [110,117,108,108] else if kd=2 then [102,97,108,115,101] else [116,114,117,101]
def spellP (sp:Nat→Str) (x:api_Json):Nat→Str
 | 0=>[]
 | k+1=>spellP sp x k++((if 0<k then [44] else [])++((if x.Kind=7 then quote (x.Keys.getD k [])++[58] else [])++sp (x.Parts.getD k 0).toNat))
def ends (kd:Int):UInt8×UInt8:=if kd=7 then (123,125) else (91,93)
def spell (l:List api_Json):Nat→Nat→Str
 | 0,_=>[]
 | f+1,i=>match l[i]? with
  | none=>[]
  | some x=>if x.Kind=4 then Lib.itoa x.N else if x.Kind=5 then quote x.S else if x.Kind=6∨x.Kind=7 then [(ends x.Kind).1]++spellP (spell l f) x x.Parts.length++[(ends x.Kind).2] else word x.Kind
structure Ok (l:List api_Json) (all:List Shp):Prop where
 len:all.length=l.length
 good:Good all
 at_:∀ (i:Nat) (x:api_Json),l[i]?=some x→node x=true∧shaped (all.take i) i x.Kind x.Parts=all[i]?
theorem mayL_len:∀ (l:List api_Json) (a all:List Shp),mayL l a=some all→all.length=a.length+l.length∧all.take a.length=a
 | [],a,all,h=>by simp [mayL] at h;subst h;simp
 | x::r,a,all,h=>by
  unfold mayL at h
  split at h
  ·split at h
   ·rename_i y hy
    have:=mayL_len r (a++[y]) all h
    refine ⟨by rw [this.1];simp;omega,?_⟩
    have h2:=congrArg (List.take a.length) this.2
    rw [List.take_take,List.take_left,Nat.min_eq_left (by simp)] at h2
    exact h2
   ·simp at h
  ·simp at h
theorem mayL_ok:∀ (l:List api_Json) (a all:List Shp),mayL l a=some all→Good a→Good all∧∀ (i:Nat) (x:api_Json),l[i]?=some x→node x=true∧shaped (all.take (a.length+i)) (a.length+i) x.Kind x.Parts=all[a.length+i]?
 | [],a,all,h,G=>by
  simp [mayL] at h
  subst h
  exact ⟨G,fun i x e=>by simp at e⟩
 | x::r,a,all,h,G=>by
  unfold mayL at h
  split at h
  ·rename_i hn
   split at h
   ·rename_i y hy
    have hl:=mayL_len r (a++[y]) all h
    obtain ⟨G',H⟩:=mayL_ok r (a++[y]) all h (G.snoc hy)
    refine ⟨G',fun i z e=>?_⟩
    cases i with
    | zero=>
     simp at e
     subst e
     refine ⟨hn,?_⟩
     have h1:all.take a.length=a:=by
      have h2:=congrArg (List.take a.length) hl.2
      rw [List.take_take,List.take_left,Nat.min_eq_left (by simp)] at h2
      exact h2
     have h3:all[a.length]?=some y:=by
      have h4:=congrArg (fun l=>l[a.length]?) hl.2
      simp only [List.length_append,List.length_singleton] at h4
      rw [List.getElem?_take_of_lt (by omega)] at h4
      rw [h4];simp
     rw [Nat.add_zero,h1,h3]
     exact hy
    | succ i=>
     have:=H i z (by simpa using e)
     simp only [List.length_append,List.length_singleton] at this
     rw [show a.length+1+i=a.length+(i+1) by omega] at this
     exact this
   ·simp at h
  ·simp at h
theorem ok_of {l:List api_Json} (h:May l=true):∃ all,Ok l all∧lastSize all l.length=true∧1≤l.length∧l.length≤300:=by
 unfold May at h
 simp only [Bool.and_eq_true,decide_eq_true_eq] at h
 obtain ⟨h1,h2⟩:=h
 cases hm:mayL l [] with
 | none=>rw [hm] at h2;simp at h2
 | some all=>
  rw [hm] at h2
  have hl:=mayL_len l [] all hm
  obtain ⟨G,H⟩:=mayL_ok l [] all hm (fun j y e=>by simp at e)
  refine ⟨all,⟨by rw [hl.1];simp,G,fun i x e=>?_⟩,h2,h1.1,h1.2⟩
  have:=H i x e
  simpa using this
theorem shGo_sum {all:List Shp} {i:Nat}:∀ (r:List Int) (sz dp s d:Nat),shGo all i r sz dp=some (s,d)→1≤sz→dp≤d∧(∀ p∈r,0≤p∧p.toNat<i∧∃ y,all[p.toNat]?=some y∧y.deep≤d)∧s=sz+(r.map fun p=>((all[p.toNat]?).map Shp.size).getD 0).sum
 | [],sz,dp,s,d,h,h1=>by simp [shGo] at h;simp;omega
 | p::r,sz,dp,s,d,h,h1=>by
  unfold shGo at h
  split at h
  ·rename_i hp
   split at h
   ·rename_i y hy
    have:=shGo_sum r _ _ s d h (by omega)
    refine ⟨by omega,fun q hq=>?_,?_⟩
    ·rcases List.mem_cons.1 hq with e | e
     ·subst e
      exact ⟨hp.1,by omega,y,hy,by omega⟩
     ·exact this.2.1 q e
    ·rw [this.2.2,List.map_cons,List.sum_cons,hy];simp;omega
   ·simp at h
  ·simp at h
theorem Ok.part {l:List api_Json} {all:List Shp} (O:Ok l all) {i:Nat} {x:api_Json} (hx:l[i]?=some x):∃ y,all[i]?=some y∧(x.Kind≠6→x.Kind≠7→x.Parts=[])∧(x.Kind≠7→x.Keys=[])∧(x.Kind=7→x.Keys.length=x.Parts.length∧∀ s∈x.Keys,plain s 3000=true)∧plain x.S 3000=true∧1≤x.Kind∧x.Kind≤7∧
  (∀ p∈x.Parts,0≤p∧p.toNat<i∧∃ z,all[p.toNat]?=some z∧(6≤x.Kind→z.deep+1≤y.deep))∧y.size=1+(x.Parts.map fun p=>((all[p.toNat]?).map Shp.size).getD 0).sum:=by
 obtain ⟨hn,hs⟩:=O.at_ i x hx
 have hi:i<l.length:=(List.getElem?_eq_some_iff.1 hx).1
 have hil:i<all.length:=by rw [O.len];exact hi
 rw [List.getElem?_eq_getElem hil] at hs
 refine ⟨all[i],List.getElem?_eq_getElem hil,?_⟩
 unfold node at hn
 simp only [Bool.and_eq_true,decide_eq_true_eq] at hn
 obtain ⟨⟨⟨⟨hk,_⟩,_⟩,hS⟩,hr⟩:=hn
 have hpk:x.Kind≠6→x.Kind≠7→x.Parts=[]:=fun h6 h7=>by
  rw [if_neg h7] at hr
  simp only [Bool.and_eq_true,Bool.or_eq_true,decide_eq_true_eq] at hr
  rcases hr.2 with q | q
  ·exact absurd q h6
  ·exact q
 have hkk:x.Kind≠7→x.Keys=[]:=fun h7=>by
  rw [if_neg h7] at hr
  simp only [Bool.and_eq_true,decide_eq_true_eq] at hr
  exact hr.1
 refine ⟨hpk,hkk,fun h7=>?_,hS,hk.1,hk.2,?_⟩
 ·rw [if_pos h7] at hr
  simp only [Bool.and_eq_true,decide_eq_true_eq] at hr
  exact ⟨hr.1.1,fun s hs=>List.all_eq_true.1 hr.1.2 s hs⟩
 unfold shaped at hs
 cases hg:shGo (all.take i) i x.Parts.reverse 1 0 with
 | none=>rw [hg] at hs;simp at hs
 | some z=>
  obtain ⟨sz,dp⟩:=z
  rw [hg] at hs
  have hsum:=shGo_sum _ _ _ _ _ hg (Nat.le_refl _)
  dsimp only at hs
  have hy:all[i]=⟨sz,if 6≤x.Kind then dp+1 else dp⟩:=by
   generalize (if 6≤x.Kind then dp+1 else dp)=d at hs ⊢
   by_cases q:d≤8
   ·rw [if_pos q] at hs;exact (Option.some.inj hs).symm
   ·rw [if_neg q] at hs;simp at hs
  refine ⟨fun p hp=>?_,?_⟩
  ·obtain ⟨h1,h2,z,h3,h4⟩:=hsum.2.1 p (List.mem_reverse.2 hp)
   rw [List.getElem?_take_of_lt h2] at h3
   refine ⟨h1,h2,z,h3,fun h6=>?_⟩
   rw [hy,if_pos h6]
   show z.deep+1≤dp+1
   omega
  ·rw [hy]
   show sz=_
   rw [hsum.2.2,List.map_reverse,List.sum_reverse]
   congr 2
   refine List.map_congr_left fun p hp=>?_
   obtain ⟨h1,h2,z,h3,h4⟩:=hsum.2.1 p (List.mem_reverse.2 hp)
   rw [List.getElem?_take_of_lt h2]
end P
end Go.Bvm.JN
set_option linter.unusedVariables false
set_option linter.unusedSimpArgs false
set_option maxRecDepth 20000
namespace Go.Bvm.JN
open Go.Bvm
namespace P
theorem plain_len {s:Str} (h:plain s 3000=true):s.length≤3000:=by
 unfold plain at h
 simp only [Bool.and_eq_true,decide_eq_true_eq] at h
 exact h.1
theorem sum_take {α:Type} (f:α→Nat) {l:List α} {k:Nat} (h:k<l.length):((l.take (k+1)).map f).sum=((l.take k).map f).sum+f l[k]:=by
 rw [List.take_succ_eq_append_getElem h,List.map_append,List.sum_append];simp
abbrev szOf (all:List Shp) (p:Int):Nat:=((all[p.toNat]?).map Shp.size).getD 0
theorem spellP_len {all:List Shp} {sp:Nat→Str} {x:api_Json} (hk:∀ s∈x.Keys,s.length≤3000) (hsp:∀ p∈x.Parts,(sp p.toNat).length+6004≤12100*szOf all p):∀ k,k≤x.Parts.length→(spellP sp x k).length≤12100*((x.Parts.take k).map (szOf all)).sum
 | 0,_=>by simp [spellP]
 | k+1,h=>by
  have ih:=spellP_len hk hsp k (by omega)
  have h1:=hsp x.Parts[k] (List.getElem_mem _)
  have e1:x.Parts.getD k 0=x.Parts[k]:=by rw [List.getD_eq_getElem?_getD,List.getElem?_eq_getElem (by omega)];rfl
  have h2:(x.Keys.getD k []).length≤3000:=by
   rw [List.getD_eq_getElem?_getD]
   by_cases q:k<x.Keys.length
   ·rw [List.getElem?_eq_getElem q];exact hk _ (List.getElem_mem _)
   ·rw [List.getElem?_eq_none (by omega)];simp
  have h3:=quote_len (x.Keys.getD k [])
  have h4:(if 0<k then [44] else ([]:Str)).length≤1:=by split <;> simp
  have h5:(if x.Kind=7 then quote (x.Keys.getD k [])++[58] else []).length≤6003:=by
   split
   ·rw [List.length_append];show _+1≤_;omega
   ·simp
  rw [spellP,sum_take _ (by omega),e1]
  simp only [List.length_append]
  omega
theorem spell_len {l:List api_Json} {all:List Shp} (O:Ok l all) (hz:∀ x∈l,inR x.N):∀ (f i:Nat) (y:Shp),all[i]?=some y→y.deep<f→(spell l f i).length+6004≤12100*y.size
 | 0,i,y,h,hd=>by omega
 | f+1,i,y,h,hd=>by
  have hi:i<l.length:=by rw [← O.len];exact (List.getElem?_eq_some_iff.1 h).1
  have hx:=List.getElem?_eq_getElem hi
  obtain ⟨y',e,p1,p0,p2,p3,p4,p5,p6,p7⟩:=O.part hx
  rw [h] at e
  cases e
  rw [spell,hx]
  dsimp only
  split
  ·have:=itoa_len _ (hz _ (List.getElem_mem hi));omega
  ·split
   ·have:=quote_len l[i].S;have:=plain_len p3;omega
   ·split
    ·rename_i hk
     have:=spellP_len (all:=all) (sp:=spell l f) (x:=l[i]) (fun s hs=>by
      rcases hk with k6 | k7
      ·rw [p0 (by omega)] at hs;simp at hs
      ·exact plain_len ((p2 k7).2 s hs)) (fun p hp=>by
      obtain ⟨_,_,z,hz1,hz2⟩:=p6 p hp
      have hdz:=hz2 (by omega)
      have:=spell_len O hz f p.toNat z hz1 (by omega)
      unfold szOf
      rw [hz1]
      exact this) l[i].Parts.length (Nat.le_refl _)
     rw [List.take_length] at this
     simp only [List.length_append,List.length_singleton]
     have:y.size=1+(l[i].Parts.map (szOf all)).sum:=p7
     omega
    ·unfold word
     split
     ·simp;omega
     ·split <;> simp <;> omega
end P
end Go.Bvm.JN
set_option linter.unusedVariables false
set_option linter.unusedSimpArgs false
set_option maxRecDepth 20000
namespace Go.Bvm.JN
open Go.Bvm
noncomputable abbrev bb (b:Nat):V:=.p b 0 2 0
theorem sl9_eq (v:V) (e:L8) (k:L8→Bool):sl9 v e k=k ⟨e.c0,⟨e.c1.c0,v,e.c1.c2,e.c1.c3,e.c1.c4,e.c1.c5,e.c1.c6,e.c1.c7⟩,e.c2,e.c3,e.c4,e.c5,e.c6,e.c7⟩:=(Eq.refl _).trans rfl
def SpS (m f:Nat) (l:List api_Json) (all:List Shp) (v:V):Prop:=∀ (c:Nat) (h:H) (b i:Nat) (t:Str) (y:Shp) (k:KV),all[i]?=some y→y.deep<f→WO c h b t→Sl (α:=JF) [] h v l→Pin h→Pg<h.next→t.length+12100*y.size≤800000000→
 (∀ h',WO c h' b (t++P.spell l f i)→Fz c h.next MB h h'→k tup0 h'=true)→run tbl m Nf_j_spell (vl [bb b,v,wz i]) h k=true
noncomputable abbrev fs (q b:Nat) (en:Str) (k:Int) (len:Int) (pv v7 v:V) (v9:V):L8:=⟨⟨.t true,.p q 0 5 0,bb b,vs en,wz k,wz len,pv,v7⟩,⟨v,v9,V.u,V.u,V.u,V.u,V.u,V.u⟩,n8 V.u,n8 V.u,n8 V.u,n8 V.u,n8 V.u,n8 V.u⟩
theorem spell3_w {c b:Nat} {h h1:H} {t:Str} {k:Nat} {lf:Nat} {e69 e:L8} {K:KX} {n:Nat} (h4:e69.c0.c4=wz k) (h2:e.c0.c2=bb b) (W:WO c h1 b t) (hl:t.length≤900000000) (F:Fz c h.next MB h h1)
  (Kf:∀ h2,WO c h2 b (t++(if 0<k then [44] else []))→Fz c h.next MB h h2→K X.n e h2=true):j_spell_3 (run tbl (n+4)) lf e69 e h1 K=true:=by
 unfold j_spell_3
 have n1:=F.nx
 rw [h4,h2]
 by_cases hk:0<k
 ·have hk3:(k:Int)>0:=by omega
  simp -implicitDefEqProofs (disch:=omega) [hk,hk3]
  refine writeByte_w W (by omega) fun h3 W3 F3=>?_
  have:=Kf h3 (by rw [if_pos hk];exact W3) (F.trans F3 (Nat.le_refl _) n1 (fun _ k=>k))
  exact this
 ·have hk3:¬ (k:Int)>0:=by omega
  simp -implicitDefEqProofs (disch:=omega) [hk,hk3]
  exact Kf h1 (by rw [if_neg hk,List.append_nil];exact W) F
theorem spell4_w {Z:List Nat} {c b q:Nat} {h h1:H} {t:Str} {k:Nat} {lf:Nat} {x:api_Json} {w1 w2:V} {e:L8} {K:KX} {n:Nat} (hkr:inR x.Kind) (hx:e.c0.c1=.p q 0 5 0) (h7:e.c0.c7=wz k) (h2:e.c0.c2=bb b) (W:WO c h1 b t) (hl:t.length≤800010000) (F:Fz c h.next MB h h1)
  (B:Bk h1 q 0 0 Ty_api_Json true true [wz x.Kind,wz x.N,vs x.S,w1,w2]) (qh:q<h1.next) (KS:Sl Z h1 w1 x.Keys) (hk:x.Kind=7→∃ s,x.Keys[k]?=some s∧s.length≤3000)
  (Kf:∀ h2,WO c h2 b (t++(if x.Kind=7 then P.quote (x.Keys.getD k [])++[58] else []))→Fz c h.next MB h h2→K X.n e h2=true):j_spell_4 (run tbl (n+4)) lf e h1 K=true:=by
 unfold j_spell_4
 have n1:=F.nx
 have La:=fun {o m}=>B.ld (n:=5) rfl (off:=o) (lim:=m)
 rw [hx,h7,h2]
 by_cases c7:x.Kind=7
 ·obtain ⟨s,hs,hsl⟩:=hk c7
  have hki:k<x.Keys.length:=(List.getElem?_eq_some_iff.1 hs).1
  obtain ⟨_,a1,a2⟩:=at_Str KS hki
  have es:x.Keys[k]=s:=by rw [List.getElem?_eq_getElem hki] at hs;exact Option.some.inj hs
  have eg:x.Keys.getD k []=s:=by rw [List.getD_eq_getElem?_getD,hs];rfl
  rw [es] at a2
  simp -implicitDefEqProofs (disch:=omega) [La,c7,a1,a2]
  refine quoted_w W (by omega) (by omega) fun h3 W3 F3=>?_
  have n3:=F3.nx
  have hq:=P.quote_len s
  refine writeByte_w W3 (by simp;omega) fun h4 W4 F4=>?_
  refine Kf h4 ?_ ((F.trans F3 (Nat.le_refl _) n1 (fun _ k=>k)).trans F4 (Nat.le_refl _) (by omega) (fun _ k=>k))
  rw [if_pos c7,eg,← List.append_assoc]
  exact W4
 ·simp -implicitDefEqProofs (disch:=omega) [La,c7]
  exact Kf h1 (by rw [if_neg c7,List.append_nil];exact W) F
theorem spell_loop {l:List api_Json} {all:List Shp} (O:P.Ok l all) {n f:Nat} {v:V} (SP:SpS (n+4) f l all v) (hlen:∀ (i:Nat) (y:Shp),all[i]?=some y→y.deep<f→(P.spell l f i).length+6004≤12100*y.size)
  {c:Nat} {h:H} {b q i:Nat} {t en:Str} {x:api_Json} {y:Shp} {w1 w2 v7 v9:V} {K:KX} (hx:l[i]?=some x) (hy:all[i]?=some y) (hd:y.deep<f+1) (hkd:x.Kind=6∨x.Kind=7)
  (B:Bk h q 0 0 Ty_api_Json true true [wz x.Kind,wz x.N,vs x.S,w1,w2]) (qh:q<h.next) (KS:Sl [] h w1 x.Keys) (PS:Sl [] h w2 x.Parts) (W:WO c h b t) (L:Sl (α:=JF) [] h v l) (p:Pin h) (ph:Pg<h.next) (hlt:t.length+12100*y.size≤800000001) (hpb:x.Parts.length≤4096)
  (Kf:∀ h' e',e'.c0.c2=bb b→e'.c0.c3=vs en→WO c h' b (t++P.spellP (P.spell l f) x x.Parts.length)→Fz c h.next MB h h'→K X.n e' h'=true) :
  j_spell_9 (run tbl (n+4)) big (⟨⟨.t true,.p q 0 5 0,bb b,vs en,V.u,V.u,V.u,v7⟩,⟨v,v9,V.u,V.u,V.u,V.u,V.u,V.u⟩,n8 V.u,n8 V.u,n8 V.u,n8 V.u,n8 V.u,n8 V.u⟩ : L8) h K=true:=by
 obtain ⟨y',e,p1,p0,p2,p3,p4,p5,p6,p7⟩:=O.part hx
 rw [hy] at e
 cases e
 have pb:=PS.bd;have kb:=KS.bd
 have hmB:maxB=140737488355328:=rfl
 have hy3:=(O.good i y hy).2.1
 have hkl:∀ s∈x.Keys,s.length≤3000:=fun s hs=>by
  by_cases h7:x.Kind=7
  ·exact P.plain_len ((p2 h7).2 s hs)
  ·rw [p0 h7] at hs;simp at hs
 have hsp:∀ pp∈x.Parts,(P.spell l f pp.toNat).length+6004≤12100*P.szOf all pp:=fun pp hp=>by
  obtain ⟨_,_,z,hz1,hz2⟩:=p6 pp hp
  have:=hlen pp.toNat z hz1 (by have:=hz2 (by omega);omega)
  unfold P.szOf
  rw [hz1];exact this
 have hpl:=P.spellP_len (all:=all) hkl hsp
 have La:=fun {o m}=>B.ld (n:=5) rfl (off:=o) (lim:=m)
 unfold j_spell_9
 simp -implicitDefEqProofs (disch:=omega) [La,PS.lenL]
 refine loop_w (fun m e h'=>∃ (k:Nat) (v7 v9:V),m=x.Parts.length-k∧k≤x.Parts.length∧e=fs q b en k x.Parts.length w2 v7 v v9∧WO c h' b (t++P.spellP (P.spell l f) x k)∧Fz c h.next MB h h') ?_ big x.Parts.length _ _ ⟨0,v7,v9,rfl,by omega,rfl,by simpa [P.spellP] using W,Fz.refl _ _ _ _⟩ ?_
 ·rintro m e h1 ⟨k,v7,v9,rfl,hk,rfl,W1,F1⟩ K' Kn Kx Kr
  have n1:=F1.nx
  have B1:=B.fz F1 qh (by decide)
  have KS1:=KS.fz F1 (Nat.le_refl _) (by decide)
  have PS1:=PS.fz F1 (Nat.le_refl _) (by decide)
  have L1:=L.fz F1 (Nat.le_refl _) (by decide)
  have p1':=p.fz F1 ph (by decide)
  have hplk:=hpl k hk
  unfold j_spell_8 j_spell_2
  by_cases hk2:k<x.Parts.length
  ·have hk3:(k:Int)<x.Parts.length:=by omega
   obtain ⟨hin,a1,a2⟩:=at_Int PS1 hk2
   obtain ⟨q1,q2,z,hz1,hz2⟩:=p6 _ (List.getElem_mem hk2)
   have hdz:=hz2 (by omega)
   have ez:(wz x.Parts[k]:V)=wz ((x.Parts[k].toNat:Nat):Int):=by rw [Int.toNat_of_nonneg q1]
   have szz:P.szOf all x.Parts[k]=z.size:=by unfold P.szOf;rw [hz1];rfl
   have hst:=P.sum_take (P.szOf all) hk2
   have hsl:((x.Parts.take (k+1)).map (P.szOf all)).sum≤(x.Parts.map (P.szOf all)).sum:=by
    conv=>rhs;rw [← List.take_append_drop (k+1) x.Parts]
    rw [List.map_append,List.sum_append];omega
   have hys:y.size=1+(x.Parts.map (P.szOf all)).sum:=p7
   unfold j_spell_6 j_spell_7
   simp -implicitDefEqProofs (disch:=omega) [hk3,a1,a2,sl9_eq]
   refine spell3_w (c:=c) (h:=h) (k:=k) rfl rfl W1 (by simp;omega) F1 fun h2 W2 F2=>?_
   have n2:=F2.nx
   have B2:=B.fz F2 qh (by decide)
   have hkk:x.Kind=7→∃ s,x.Keys[k]?=some s∧s.length≤3000:=fun c7=>by
    have:=(p2 c7).1
    exact ⟨_,List.getElem?_eq_getElem (by omega),hkl _ (List.getElem_mem _)⟩
   have l4:(if 0<k then [44] else ([]:Str)).length≤1:=by split <;> simp
   simp -implicitDefEqProofs (disch:=omega)
   refine spell4_w (c:=c) (h:=h) (k:=k) (x:=x) (by unfold inR;omega) rfl rfl rfl W2 (by simp only [List.length_append];omega) F2 B2 (by omega) (KS.fz F2 (Nat.le_refl _) (by decide)) hkk fun h3 W3 F3=>?_
   have n3:=F3.nx
   have l5:(if x.Kind=7 then P.quote (x.Keys.getD k [])++[58] else []).length≤6003:=by
    split
    ·rename_i c7
     obtain ⟨s,hs,hsl⟩:=hkk c7
     have eg:x.Keys.getD k []=s:=by rw [List.getD_eq_getElem?_getD,hs];rfl
     have:=P.quote_len s
     rw [List.length_append,eg];show _+1≤_;omega
    ·simp
   have zs:=hlen _ z hz1 (by omega)
   unfold j_spell_5
   simp -implicitDefEqProofs (disch:=omega)
   rw [ez]
   refine SP c h3 b _ _ z _ hz1 (by omega) W3 (L.fz F3 (Nat.le_refl _) (by decide)) (p.fz F3 ph (by decide)) (by omega) (by simp only [List.length_append];omega) fun h4 W4 F4=>?_
   simp -implicitDefEqProofs (disch:=omega)
   refine Kn _ _ _ (by omega) ⟨k+1,wz k,wz x.Parts[k],rfl,by omega,by rw [ez];simp,?_,F3.trans F4 (Nat.le_refl _) n3 (fun _ k=>k)⟩
   have eg:x.Parts.getD k 0=x.Parts[k]:=by rw [List.getD_eq_getElem?_getD,List.getElem?_eq_getElem hk2];rfl
   rw [P.spellP,eg]
   simpa [List.append_assoc] using W4
  ·have hk3:¬ (k:Int)<x.Parts.length:=by omega
   have:k=x.Parts.length:=by omega
   subst this
   simp -implicitDefEqProofs (disch:=omega)
   refine Kx _ _ _ ?_
   simp -implicitDefEqProofs (disch:=omega)
   exact Kf _ _ rfl rfl W1 F1
 ·unfold big;omega
end Go.Bvm.JN
set_option linter.unusedVariables false
set_option linter.unusedSimpArgs false
set_option maxRecDepth 20000
namespace Go.Bvm.JN
open Go.Bvm
theorem spell_w {l:List api_Json} {all:List Shp} (O:P.Ok l all) {n:Nat} {v:V} (hz:∀ x∈l,inR x.N) (hB:∀ x∈l,x.Keys.length≤1000000∧x.Parts.length≤4096):∀ f,SpS (n+f+5) f l all v
 | 0=>fun c h b i t y k hy hd=>absurd hd (by omega)
 | f+1=>by
  intro c h b i t y k hy hd W L p ph hlt K
  have hi:i<l.length:=by rw [← O.len];exact (List.getElem?_eq_some_iff.1 hy).1
  have hx:=List.getElem?_eq_getElem hi
  obtain ⟨y',e,p1,p0,p2,p3,p4,p5,p6,p7⟩:=O.part hx
  rw [hy] at e
  cases e
  have hS:=P.plain_len p3
  have hy1:=(O.good i y hy).1
  rw [show n+(f+1)+5=(n+f+5)+1 by omega,run_succ,tbl_j_spell]
  unfold T_j_spell j_spell_15
  obtain ⟨cs,E,a1,a2,a3⟩:=L.at (i:=(i:Int)) (Int.natCast_nonneg i) (getE? (show (i:Int).toNat<l.length from hi))
  have a1':∀ k,iadV 5 v (wz (i:Int)) k=k (pel v (i:Int) 0):=a1
  have E':∃ w1 w2,cs=[wz l[i].Kind,wz l[i].N,vs l[i].S,w1,w2]∧inR l[i].Kind∧inR l[i].N∧l[i].S.length≤maxB∧Sl [] h w1 l[i].Keys∧Sl [] h w2 l[i].Parts:=E
  obtain ⟨w1,w2,rfl,f0,f1,f2,f3,f4⟩:=E'
  have a3':∀ k,lda 5 (pel v (i:Int) 0) h k=k (.x .agg (vl [wz l[i].Kind,wz l[i].N,vs l[i].S,w1,w2]) V.nil):=fun k=>a3 0 5 k (by decide)
  simp -implicitDefEqProofs (disch:=omega) [a1',a3']
  refine newA_w rfl (by decide) (by decide) fun h2 n2 B2 x2=>?_
  have hn2:h2.next=h.next+1:=n2
  refine sta_w B2 rfl (by simp) (by simp) fun h3 n3 B3 x3=>?_
  have B3:Bk h3 h.next 0 0 Ty_api_Json true true [wz l[i].Kind,wz l[i].N,vs l[i].S,w1,w2]:=B3
  have E3:Ex h h3:=⟨by omega,fun j hj=>(x3.2 j (by omega)).trans (x2.2 j (by omega)),fun j hj _=>(x3.2 j (by omega)).trans (x2.2 j (by omega))⟩
  have W3:=W.fz E3 (Nat.le_refl _) (by decide)
  have p3':=p.fz E3 ph (by decide)
  have F3:Fz c h.next MB h h3:=⟨E3.nx,fun j hj=>E3.lo j (by have:=W.1;omega),fun j hj _=>E3.lo j hj⟩
  have La:=fun {o m}=>B3.ld (n:=5) rfl (off:=o) (lim:=m)
  have sp:P.spell l (f+1) i=if l[i].Kind=4 then Lib.itoa l[i].N else if l[i].Kind=5 then P.quote l[i].S else if l[i].Kind=6∨l[i].Kind=7 then [(P.ends l[i].Kind).1]++P.spellP (P.spell l f) l[i] l[i].Parts.length++[(P.ends l[i].Kind).2] else P.word l[i].Kind:=by
   rw [P.spell,hx]
  generalize hxx:l[i]=x at *
  unfold j_spell_14
  by_cases c4:x.Kind=4
  ·rw [if_pos c4] at sp
   have hit:=itoa_len x.N f1
   simp -implicitDefEqProofs (disch:=omega) [La,c4]
   rw [Itoa_eq p3' f1]
   refine writeString_w W3 (by omega) fun h4 r W4 F4=>?_
   exact K h4 (by rw [sp];exact W4) (F3.trans F4 (Nat.le_refl _) E3.nx (fun _ k=>k))
  by_cases c5:x.Kind=5
  ·rw [if_neg c4,if_pos c5] at sp
   simp -implicitDefEqProofs (disch:=omega) [La,c4,c5]
   refine quoted_w W3 (by omega) (by omega) fun h4 W4 F4=>?_
   exact K h4 (by rw [sp];exact W4) (F3.trans F4 (Nat.le_refl _) E3.nx (fun _ k=>k))
  rw [if_neg c4,if_neg c5] at sp
  unfold j_spell_0
  by_cases c67:x.Kind=6∨x.Kind=7
  ·rw [if_pos c67] at sp
   have SP:SpS (n+f+1+4) f l all v:=by rw [show n+f+1+4=n+f+5 by omega];exact spell_w O hz hB f
   have go:∀ (en:Str) (o cl:UInt8),P.ends x.Kind=(o,cl)→en=[o,cl]→j_spell_11 (run tbl (n+f+1+4)) big (⟨⟨.t true,.p h.next 0 5 0,bb b,vs en,V.u,V.u,V.u,V.u⟩,⟨v,V.u,V.u,V.u,V.u,V.u,V.u,V.u⟩,n8 V.u,n8 V.u,n8 V.u,n8 V.u,n8 V.u,n8 V.u⟩ : L8) h3 (fun x e h=>finK (fun e h k=>k (V.x .tup V.nil V.nil)) k (unX 0 x) e h)=true:=by
    intro en o cl he1 he2
    subst he2
    have s0:∀ k,sidxV (vs [o,cl]) (wz 0) k=k (vy o):=fun k=>sidx_at (s:=[o,cl]) (i:=0) rfl (by omega) k
    have s1:∀ k,sidxV (vs [o,cl]) (wz 1) k=k (vy cl):=fun k=>sidx_at (s:=[o,cl]) (i:=1) rfl (by omega) k
    unfold j_spell_11
    simp -implicitDefEqProofs (disch:=omega) [s0]
    refine writeByte_w W3 (by omega) fun h4 W4 F4=>?_
    have n4:=F4.nx
    have F04:=F3.trans F4 (Nat.le_refl _) E3.nx (fun _ k=>k)
    refine spell_loop (n:=n+f+1) O SP (fun j z hj hdz=>P.spell_len O hz f j z hj hdz) (i:=i) (x:=x) (y:=y) (q:=h.next) hx hy hd c67 (B3.fz F4 (by omega) (by decide)) (by omega) ((f3.fz E3 (Nat.le_refl _) (by simp)).fz F4 (Nat.le_refl _) (by decide)) ((f4.fz E3 (Nat.le_refl _) (by simp)).fz F4 (Nat.le_refl _) (by decide)) W4 ((L.fz E3 (Nat.le_refl _) (by simp)).fz F4 (Nat.le_refl _) (by decide)) (p3'.fz F4 (by omega) (by decide)) (by omega) (by rw [List.length_append,List.length_singleton];omega) (by have:=hB _ (List.getElem_mem hi);rw [hxx] at this;exact this.2) fun h5 e5 q1 q2 W5 F5=>?_
    unfold j_spell_10
    rw [q1,q2]
    simp -implicitDefEqProofs (disch:=omega) [s1]
    have hsl:=P.spell_len O hz (f+1) i y hy hd
    rw [sp,he1] at hsl
    simp only [List.length_append,List.length_singleton] at hsl
    refine writeByte_w W5 (by simp;omega) fun h6 W6 F6=>?_
    have n5:=F5.nx
    refine K h6 ?_ ((F04.trans F5 (Nat.le_refl _) (by omega) (fun _ k=>k)).trans F6 (Nat.le_refl _) (by omega) (fun _ k=>k))
    rw [sp,he1]
    simpa [List.append_assoc] using W6
   rcases c67 with c6 | c7
   ·simp -implicitDefEqProofs (disch:=omega) [La,c4,c5,c6]
    unfold j_spell_13 j_spell_1
    simp -implicitDefEqProofs (disch:=omega) [La,c6]
    exact go [91,93] 91 93 (by unfold P.ends;rw [if_neg (by omega)]) rfl
   ·simp -implicitDefEqProofs (disch:=omega) [La,c4,c5,c7]
    unfold j_spell_13 j_spell_1
    simp -implicitDefEqProofs (disch:=omega) [La,c7]
    exact go [123,125] 123 125 (by unfold P.ends;rw [if_pos c7]) rfl
  ·rw [if_neg c67] at sp
   have c6:¬ x.Kind=6:=fun e=>c67 (.inl e)
   have c7:¬ x.Kind=7:=fun e=>c67 (.inr e)
   simp -implicitDefEqProofs (disch:=omega) [La,c4,c5,c6,c7]
   unfold j_spell_13 j_spell_12
   simp -implicitDefEqProofs (disch:=omega) [La]
   refine bslA_w rfl (by decide) fun h4 n4 B4 x4=>?_
   have hn4:h4.next=h3.next+1:=n4
   have E4:Ex h3 h4:=⟨by omega,fun j hj=>x4.2 j (by omega),fun j hj _=>x4.2 j (by omega)⟩
   have B3':=B3.fz E4 (by omega) (by simp)
   have La:=fun {o m}=>B3'.ld (n:=5) rfl (off:=o) (lim:=m)
   have Lb:=fun {o m}=>B4.ld (n:=3) rfl (off:=o) (lim:=m)
   have W4:=W3.fz E4 (Nat.le_refl _) (by decide)
   have F4:Fz c h.next MB h h4:=F3.trans (E4.mono (c:=c) (b:=h.next) (M:=MB) (by have:=W.1;omega) (by omega) (by simp)) (Nat.le_refl _) (Nat.le_refl _) (fun _ k=>k)
   have n34:=E4.nx
   have fin:∀ (s:Str),s=P.word x.Kind→run tbl (n+f+5) Nf_st_Builder_WriteString (vl [bb b,vs s]) h4 (fun v124 h125=>k (V.x Tag.tup V.nil V.nil) h125)=true:=fun s hs=>by
    have hsl:s.length≤5:=by
     rw [hs];unfold P.word
     split
     ·simp
     ·split <;> simp
    refine writeString_w (n:=n+f+2) W4 (by omega) fun h5 r W5 F5=>?_
    exact K h5 (by rw [sp,← hs];exact W5) (F4.trans F5 (Nat.le_refl _) (by omega) (fun _ k=>k))
   have h123:x.Kind=1∨x.Kind=2∨x.Kind=3:=by omega
   rcases h123 with c1 | c1 | c1
   ·simp -implicitDefEqProofs (disch:=omega) [La,Lb,c1]
    exact fin _ (by unfold P.word;rw [if_pos c1])
   ·simp -implicitDefEqProofs (disch:=omega) [La,Lb,c1]
    exact fin _ (by unfold P.word;rw [if_neg (by omega),if_pos c1])
   ·simp -implicitDefEqProofs (disch:=omega) [La,Lb,c1]
    exact fin _ (by unfold P.word;rw [if_neg (by omega),if_neg (by omega)])
namespace P
def Text (l:List api_Json):Str:=spell l 9 (l.length-1)
end P
theorem Text_w {h:H} {v:V} {l:List api_Json} {k:KV} {n:Nat} (L:Sl (α:=JF) [] h v l) (p:Pin h) (ph:Pg<h.next) (hm:P.May l=true) (hz:∀ x∈l,inR x.N) (hB:∀ x∈l,x.Keys.length≤1000000∧x.Parts.length≤4096)
  (K:∀ h',Ex h h'→(P.Text l).length≤5000000→k (vs (P.Text l)) h'=true):run tbl (n+15) Nf_j_Text (vl [v]) h k=true:=by
 obtain ⟨all,O,hls,hl1,hl2⟩:=P.ok_of hm
 obtain ⟨y,hy⟩ : ∃ y,all[l.length-1]?=some y:=⟨_,List.getElem?_eq_getElem (by rw [O.len];omega)⟩
 have g:=O.good _ _ hy
 have ll:∀ k,Go.Bvm.lenL v k=k (wz (l.length:Int)):=L.lenL
 have el:(wz ((l.length:Int)-1):V)=wz ((l.length-1:Nat):Int):=by congr 1;omega
 rw [run_succ,tbl_j_Text]
 unfold T_j_Text j_Text_0
 simp -implicitDefEqProofs (disch:=omega)
 refine newA_w rfl (by decide) (by decide) fun h1 n1 B1 x1=>?_
 have hn1:h1.next=h.next+1:=n1
 have E1:Ex h h1:=x1.ex (Nat.le_refl _)
 have W1:WO h.next h1 h.next []:=⟨⟨by omega,Nat.le_refl _⟩,_,_,B1,.inl rfl,fun _=>rfl,.nil _ _ _⟩
 have hsl:=P.spell_len O hz 9 _ y hy (by omega)
 simp -implicitDefEqProofs (disch:=omega) [ll]
 rw [el]
 refine spell_w O hz hB 9 (n:=n) h.next h1 h.next _ [] y _ hy (by omega) W1 (L.fz E1 (Nat.le_refl _) (by simp)) (p.fz E1 ph (by decide)) (by omega) (by simp;omega) fun h2 W2 F2=>?_
 have n2:=F2.nx
 rw [List.nil_append] at W2
 have E2:Ex h h2:=⟨by omega,fun j hj=>(F2.lo j hj).trans (E1.lo j hj),fun j hj _=>(F2.lo j hj).trans (E1.lo j hj)⟩
 refine builderString_w W2 (by omega) fun h3 F3=>?_
 have E3:Ex h h3:=⟨by have:=F3.nx;omega,fun j hj=>(F3.lo j hj).trans (E2.lo j hj),fun j hj _=>(F3.lo j hj).trans (E2.lo j hj)⟩
 exact K h3 E3 (by unfold P.Text;omega)
theorem Write_w {h:H} {v:V} {l:List api_Json} {k:KV} {n:Nat} (L:Sl (α:=JF) [] h v l) (p:Pin h) (ph:Pg<h.next) (hz:∀ x∈l,inR x.N) (hB:∀ x∈l,x.Keys.length≤1000000∧x.Parts.length≤4096)
  (K:∀ h' s e,Ex h h'→(P.May l=true→s=P.Text l∧e=0∧s.length≤5000000)→(P.May l=false→s=[]∧e=1)→k (.x .tup (vl [vs s,wz e]) V.nil) h'=true):run tbl (n+16) Nf_j_Write (vl [v]) h k=true:=by
 rw [run_succ,tbl_j_Write]
 unfold T_j_Write j_Write_2 j_Write_0
 simp -implicitDefEqProofs (disch:=omega)
 refine May_w (n:=n+3) L hB fun h1 E1=>?_
 have n1:=E1.nx
 cases hm:P.May l with
 | false=>
  simp -implicitDefEqProofs (disch:=omega) [nots]
  exact K h1 _ _ E1 (fun q=>by rw [hm] at q;simp at q) (fun _=>⟨rfl,rfl⟩)
 | true=>
  simp -implicitDefEqProofs (disch:=omega) [nots]
  unfold j_Write_1
  simp -implicitDefEqProofs (disch:=omega)
  refine Text_w (n:=n) (L.fz E1 (Nat.le_refl _) (by simp)) (p.fz E1 ph (by decide)) (by omega) hm hz hB fun h2 E2 hl=>?_
  exact K h2 _ _ (E1.loc E2 n1 n1) (fun _=>⟨rfl,rfl,hl⟩) (fun q=>by rw [hm] at q;simp at q)
theorem Check_w {h:H} {v:V} {l:List api_Json} {k:KV} {n:Nat} (L:Sl (α:=JF) [] h v l) (hB:∀ x∈l,x.Keys.length≤1000000∧x.Parts.length≤4096)
  (K:∀ h',Ex h h'→k (wz (if P.May l=true then 0 else 1)) h'=true):run tbl (n+13) Nf_j_Check (vl [v]) h k=true:=by
 rw [run_succ,tbl_j_Check]
 unfold T_j_Check j_Check_2 j_Check_0
 simp -implicitDefEqProofs (disch:=omega)
 refine May_w (n:=n) L hB fun h1 E1=>?_
 have:=K h1 E1
 cases hm:P.May l with
 | false=>
  simp -implicitDefEqProofs (disch:=omega) [nots]
  rw [hm] at this
  exact this
 | true=>
  simp -implicitDefEqProofs (disch:=omega) [nots]
  unfold j_Check_1
  simp -implicitDefEqProofs (disch:=omega)
  rw [hm] at this
  exact this
end Go.Bvm.JN
set_option linter.unusedVariables false
set_option linter.unusedSimpArgs false
set_option maxRecDepth 20000
namespace Go.Bvm.JN
open Go.Bvm
def ErrAt (h:H) (g:Nat):Prop:=∃ (c:Arr) (size frz elem:Nat) (ex:Bool) (t:Nat) (a b:V),hget g h.tr=.bk c size 0 frz elem ex false∧aget 0 c=.x (.iface t) a b
theorem ErrAt.kd {h:H} {g:Nat} (e:ErrAt h g):kd (hget g h.tr)=0:=by obtain ⟨c,s,f,el,ex,t,a,b,e,_⟩:=e;rw [e];rfl
theorem ErrAt.fz {c b:Nat} {M:List Nat} {h h':H} {g:Nat} (p:ErrAt h g) (F:Fz c b M h h') (hb:g<b) (n:0∉M):ErrAt h' g:=by
 have e:=F.hi g hb (by rw [p.kd];exact n)
 obtain ⟨c,s,f,el,ex,t,a,b,q,r⟩:=p
 exact ⟨c,s,f,el,ex,t,a,b,e.trans q,r⟩
theorem onErr_w {h:H} {g:Nat} (e:ErrAt h g) (k:Bool):onErr (hget g h.tr) k=k:=by
 obtain ⟨c,s,f,el,ex,t,a,b,q,r⟩:=e
 rw [q]
 show both true (onIf (aget 0 c) false fun _ _=>k)=k
 rw [r];rfl
theorem tbl_sc_Atoi (cf:CallF):tbl cf Nf_sc_Atoi=extAtoi 135 1 2:=rfl
theorem extAtoi_u (T g1 g2 m n:Nat) (h:H) (k:KV):extAtoi T g1 g2 (vl [.s m n]) h k=onErr (hget g1 h.tr) (onErr (hget g2 h.tr) (both (Nat.ble m 1000000000) (k (atoiV T (unpk m n)) h))):=rfl
theorem Atoi_eq {h:H} {s:Str} (e1:ErrAt h 1) (e2:ErrAt h 2) (hs:s.length≤1000000000) {n:Nat} {k:KV}:run tbl (n+1) Nf_sc_Atoi (vl [vs s]) h k=k (atoiV 135 s) h:=by
 rw [run_succ,tbl_sc_Atoi]
 show extAtoi 135 1 2 (vl [.s s.length (pack s)]) h k=_
 rw [extAtoi_u,onErr_w e1,onErr_w e2,ble_dec,bothd hs,unpk_pack]
namespace P
def stepK (x:api_Json) (s:Str):Int:=if x.Kind=6 then match Lib.atoiAll s with
 | .ok n=>if Lib.itoa n=s∧0≤n∧n<x.Parts.length then n else -1
 | _=>-1
 else idxS s x.Keys 0
def step (x:api_Json) (s:Str):Int:=if stepK x s<0 then -1 else x.Parts.getD (stepK x s).toNat 0
def get (l:List api_Json):List Str→Nat→Int
 | [],at_=>at_
 | s::r,at_=>match l[at_]? with
  | none=>-1
  | some x=>if step x s<0 then -1 else get l r (step x s).toNat
end P
theorem eqN_in (a b c d:V) (k:V→Bool):eqN nilI nots (V.x .inil a b) (V.x .inil c d) k=k (.t false):=(Eq.refl _).trans rfl
theorem eqN_if (T:Nat) (a b c d:V) (k:V→Bool):eqN nilI nots (V.x (.iface T) a b) (V.x .inil c d) k=k (.t true):=(Eq.refl _).trans rfl
theorem atoiV_ok {T:Nat} {s:Str} {n:Int} (h:Lib.atoiAll s=.ok n):atoiV T s=.x .tup (vl [wz n,V.x .inil V.nil V.nil]) V.nil:=by unfold atoiV;rw [h];rfl
theorem atoiV_no {T:Nat} {s:Str} (h:∀ n,Lib.atoiAll s≠.ok n):atoiV T s=.x .tup (vl [V.x .any V.nil V.nil,V.x (.iface T) (V.x .any V.nil V.nil) V.nil]) V.nil:=by
 unfold atoiV
 split
 ·rename_i v e;exact absurd e (h v)
 ·rfl
theorem idxS_lt (s:Str):∀ (xs:List Str) (i:Int),0≤i→0≤idxS s xs i→idxS s xs i<i+xs.length
 | [],i,h,q=>by unfold idxS at q;omega
 | x::r,i,h,q=>by
  unfold idxS at q ⊢
  split
  ·simp;omega
  ·rename_i e
   rw [if_neg e] at q
   have:=idxS_lt s r (i+1) (by omega) q
   simp;omega
theorem step_w {Z:List Nat} {h:H} {x:api_Json} {s:Str} {w1 w2:V} {k:KV} {n:Nat} (f0:inR x.Kind) (KS:Sl Z h w1 x.Keys) (PS:Sl Z h w2 x.Parts) (h6:x.Kind≠7→x.Keys=[]) (h7:x.Kind=7→x.Keys.length=x.Parts.length) (hk:x.Keys.length≤1000000) (hs:s.length≤1000000)
  (e1:ErrAt h 1) (e2:ErrAt h 2) (p:Pin h) (g1:1<h.next) (g2:2<h.next) (g3:Pg<h.next)
  (K:∀ h',Ex h h'→k (wz (P.step x s)) h'=true):run tbl (n+3) Nf_j_step (vl [.x .agg (vl [wz x.Kind,wz x.N,vs x.S,w1,w2]) V.nil,vs s]) h k=true:=by
 have pbd:=PS.bd
 have hmB:maxB=140737488355328:=rfl
 rw [run_succ,tbl_j_step]
 unfold T_j_step j_step_5
 simp -implicitDefEqProofs (disch:=omega)
 refine newA_w rfl (by decide) (by decide) fun h1 n1 B1 x1=>?_
 have hn1:h1.next=h.next+1:=n1
 have E1:Ex h h1:=x1.ex (Nat.le_refl _)
 have La:=fun {o m}=>B1.ld (n:=5) rfl (off:=o) (lim:=m)
 have KS1:=KS.fz E1 (Nat.le_refl _) (by simp)
 have PS1:=PS.fz E1 (Nat.le_refl _) (by simp)
 have e11:=e1.fz E1 g1 (by simp)
 have e21:=e2.fz E1 g2 (by simp)
 have p1:=p.fz E1 g3 (by decide)
 have hib:=idxS_bd s x.Keys 0 (by omega)
 have fin:=K h1 E1
 simp -implicitDefEqProofs (disch:=omega) [La]
 refine index_w KS1 hk ?_
 unfold j_step_2
 have fin2:∀ (kk:Int),kk=P.stepK x s→-1≤kk→kk<x.Parts.length∨kk<0→seqM (j_step_3 (run tbl (n+2)) big) (j_step_4 (run tbl (n+2)) big) (f8 (wz 0) (wz kk) (.p h.next 0 5 0) V.u V.u V.u V.u V.u) h1 (fun x e h=>finK (fun e h k=>k e.c0.c0) k x e h)=true:=by
  intro kk hkk hk1 hk2
  unfold j_step_3
  unfold P.step at fin
  rw [← hkk] at fin
  by_cases hn:kk<0
  ·rw [if_pos hn] at fin
   simp -implicitDefEqProofs (disch:=omega) [hn]
   exact fin
  ·rw [if_neg hn] at fin
   have hlt:kk.toNat<x.Parts.length:=by omega
   obtain ⟨_,a1,a2⟩:=at_Int PS1 hlt
   rw [Int.toNat_of_nonneg (by omega)] at a1 a2
   simp -implicitDefEqProofs (disch:=omega) [hn]
   unfold j_step_4
   simp -implicitDefEqProofs (disch:=omega) [La,a1,a2]
   rw [List.getD_eq_getElem?_getD,List.getElem?_eq_getElem hlt] at fin
   exact fin
 by_cases c6:x.Kind=6
 ·have hkx:x.Keys=[]:=h6 (by omega)
  simp -implicitDefEqProofs (disch:=omega) [La,c6]
  unfold j_step_1
  rw [Atoi_eq e11 e21 (by omega)]
  by_cases hok:∃ z,Lib.atoiAll s=.ok z
  ·obtain ⟨z,hz⟩:=hok
   have hzb:=Lib.atoiAll_bounds hz
   have hzr:inR z:=by unfold inR;omega
   have hkk:P.stepK x s=if Lib.itoa z=s∧0≤z∧z<x.Parts.length then z else -1:=by unfold P.stepK;rw [if_pos c6,hz]
   rw [atoiV_ok hz]
   simp -implicitDefEqProofs (disch:=omega) [eqN_in]
   rw [Itoa_eq p1 hzr]
   unfold j_step_0
   by_cases q1:Lib.itoa z=s
   ·by_cases q2:z<0
    ·simp -implicitDefEqProofs (disch:=omega) [q1,q2,La,PS1.lenL]
     exact fin2 (-1) (by rw [hkk,if_neg (by omega)]) (by omega) (.inr (by omega))
    ·by_cases q3:z<x.Parts.length
     ·have q3':¬ z≥x.Parts.length:=by omega
      simp -implicitDefEqProofs (disch:=omega) [q1,q2,La,PS1.lenL,q3']
      exact fin2 z (by rw [hkk,if_pos ⟨q1,by omega,q3⟩]) (by omega) (.inl q3)
     ·have q3':z≥x.Parts.length:=by omega
      simp -implicitDefEqProofs (disch:=omega) [q1,q2,La,PS1.lenL,q3']
      exact fin2 (-1) (by rw [hkk,if_neg (by omega)]) (by omega) (.inr (by omega))
   ·simp -implicitDefEqProofs (disch:=omega) [q1,La,PS1.lenL]
    exact fin2 (-1) (by rw [hkk,if_neg (fun q=>q1 q.1)]) (by omega) (.inr (by omega))
  ·have hno:∀ z,Lib.atoiAll s≠.ok z:=fun z hz=>hok ⟨z,hz⟩
   have hkk:P.stepK x s=-1:=by
    unfold P.stepK
    rw [if_pos c6]
    split
    ·rename_i z hz;exact absurd hz (hno z)
    ·rfl
   rw [atoiV_no hno]
   unfold j_step_0
   simp -implicitDefEqProofs (disch:=omega) [eqN_if]
   exact fin2 (-1) hkk.symm (by omega) (.inr (by omega))
 ·have hkk:P.stepK x s=idxS s x.Keys 0:=by unfold P.stepK;rw [if_neg c6]
  simp -implicitDefEqProofs (disch:=omega) [La,c6]
  refine fin2 _ hkk.symm hib.1 ?_
  by_cases c7:x.Kind=7
  ·have:=h7 c7
   by_cases q:idxS s x.Keys 0<0
   ·exact .inr q
   ·have hl:=idxS_lt s x.Keys 0 (by omega) (by omega)
    exact .inl (by omega)
  ·right
   rw [h6 c7]
   unfold idxS
   omega
end Go.Bvm.JN
set_option linter.unusedVariables false
set_option linter.unusedSimpArgs false
set_option maxRecDepth 20000
namespace Go.Bvm.JN
open Go.Bvm
theorem step_or {x:api_Json} {s:Str} (h7:x.Kind=7→x.Keys.length=x.Parts.length) (h6:x.Kind≠7→x.Keys=[]):P.step x s=-1∨P.step x s∈x.Parts:=by
 unfold P.step
 by_cases hn:P.stepK x s<0
 ·rw [if_pos hn];exact .inl rfl
 ·rw [if_neg hn]
  right
  have hlt:(P.stepK x s).toNat<x.Parts.length:=by
   unfold P.stepK at hn ⊢
   by_cases c6:x.Kind=6
   ·rw [if_pos c6] at hn ⊢
    split at hn
    ·split at hn
     ·rename_i z _ q
      rw [if_pos q];omega
     ·omega
    ·omega
   ·rw [if_neg c6] at hn ⊢
    have hl:=idxS_lt s x.Keys 0 (by omega) (by omega)
    by_cases c7:x.Kind=7
    ·have:=h7 c7;omega
    ·rw [h6 c7] at hn;unfold idxS at hn;omega
  rw [List.getD_eq_getElem?_getD,List.getElem?_eq_getElem hlt]
  exact List.getElem_mem hlt
theorem Get_w {h:H} {v pv:V} {l:List api_Json} {path:List Str} {k:KV} {n:Nat} (L:Sl (α:=JF) [] h v l) (PA:Sl [] h pv path) (hpl:path.length≤1000000) (hps:∀ s∈path,s.length≤1000000) (hB:∀ x∈l,x.Keys.length≤1000000∧x.Parts.length≤4096)
  (e1:ErrAt h 1) (e2:ErrAt h 2) (p:Pin h) (g1:2<h.next) (g3:Pg<h.next)
  (K:∀ h' z e,Ex h h'→(P.May l=false→z=0∧e=1)→(P.May l=true→(P.get l path (l.length-1)<0→z=0∧e=3)∧(0≤P.get l path (l.length-1)→z=P.get l path (l.length-1)∧e=0))→k (.x .tup (vl [wz z,wz e]) V.nil) h'=true):run tbl (n+13) Nf_j_Get (vl [v,pv]) h k=true:=by
 have ll:∀ k,Go.Bvm.lenL v k=k (wz (l.length:Int)):=L.lenL
 rw [run_succ,tbl_j_Get]
 unfold T_j_Get j_Get_8 j_Get_0
 simp -implicitDefEqProofs (disch:=omega)
 refine May_w (n:=n) L hB fun h1 E1=>?_
 have n1:=E1.nx
 cases hm:P.May l with
 | false=>
  simp -implicitDefEqProofs (disch:=omega) [nots]
  exact K h1 _ _ E1 (fun _=>⟨rfl,rfl⟩) (fun q=>by rw [hm] at q;simp at q)
 | true=>
  obtain ⟨all,O,hls,hl1,hl2⟩:=P.ok_of hm
  have PA1:=PA.fz E1 (Nat.le_refl _) (by simp)
  simp -implicitDefEqProofs (disch:=omega) [nots]
  unfold j_Get_7 j_Get_5
  simp -implicitDefEqProofs (disch:=omega) [ll,PA1.lenL]
  have el:(wz ((l.length:Int)-1):V)=wz ((l.length-1:Nat):Int):=by congr 1;omega
  rw [el]
  refine loop_w (fun m e h'=>∃ (i a:Nat),m=path.length-i∧i≤path.length∧a<l.length∧e=f8 (wz 0) (wz 0) v pv (wz i) (wz path.length) pv (wz a)∧P.get l (path.drop i) a=P.get l path (l.length-1)∧Ex h h') ?_ big path.length _ _ ⟨0,l.length-1,rfl,by omega,by omega,rfl,by simp,E1⟩ (by unfold big;omega)
  rintro m e h2 ⟨i,a,rfl,hi,ha,rfl,hg,E2⟩ K' Kn Kx Kr
  have n2:=E2.nx
  unfold j_Get_4 j_Get_1
  by_cases hi2:i<path.length
  ·have hi3:(i:Int)<path.length:=by omega
   have L2:=L.fz E2 (Nat.le_refl _) (by simp)
   have PA2:=PA.fz E2 (Nat.le_refl _) (by simp)
   obtain ⟨_,a1,a2⟩:=at_Str PA2 hi2
   obtain ⟨c,E,b1,b2,b3⟩:=L2.at (i:=(a:Int)) (Int.natCast_nonneg a) (getE? (show (a:Int).toNat<l.length from ha))
   have b1':∀ k,iadV 5 v (wz (a:Int)) k=k (pel v (a:Int) 0):=b1
   have E':∃ w1 w2,c=[wz l[a].Kind,wz l[a].N,vs l[a].S,w1,w2]∧inR l[a].Kind∧inR l[a].N∧l[a].S.length≤maxB∧Sl [] h2 w1 l[a].Keys∧Sl [] h2 w2 l[a].Parts:=E
   obtain ⟨w1,w2,rfl,f0,f1,f2,f3,f4⟩:=E'
   have b3':∀ k,lda 5 (pel v (a:Int) 0) h2 k=k (.x .agg (vl [wz l[a].Kind,wz l[a].N,vs l[a].S,w1,w2]) V.nil):=fun k=>b3 0 5 k (by decide)
   have hx:=List.getElem?_eq_getElem ha
   obtain ⟨y,hy,p1,p0,p2,p3,p4,p5,p6,p7⟩:=O.part hx
   have hb:=hB _ (List.getElem_mem ha)
   have hdr:path.drop i=path[i]::path.drop (i+1):=List.drop_eq_getElem_cons hi2
   rw [hdr,P.get,hx] at hg
   dsimp only at hg
   unfold j_Get_2 j_Get_3
   simp -implicitDefEqProofs (disch:=omega) [hi3,a1,a2,b1',b3']
   refine step_w (n:=n+9) f0 f3 f4 p0 (fun c7=>(p2 c7).1) hb.1 (hps _ (List.getElem_mem hi2)) (e1.fz E2 (by omega) (by simp)) (e2.fz E2 (by omega) (by simp)) (p.fz E2 g3 (by decide)) (by omega) (by omega) (by omega) fun h3 E3=>?_
   have E03:=E2.loc E3 n2 n2
   have hor:=step_or (x:=l[a]) (s:=path[i]) (fun c7=>(p2 c7).1) p0
   have hbd:-1≤P.step l[a] path[i]∧P.step l[a] path[i]≤300:=by
    rcases hor with q | q
    ·omega
    ·obtain ⟨q1,q2,_⟩:=p6 _ q;omega
   by_cases hn:P.step l[a] path[i]<0
   ·rw [if_pos hn] at hg
    simp -implicitDefEqProofs (disch:=omega) [hn]
    refine Kr _ _ ?_
    exact K h3 _ _ E03 (fun q=>by rw [hm] at q;simp at q) (fun _=>⟨fun _=>⟨rfl,rfl⟩,fun q=>by omega⟩)
   ·rw [if_neg hn] at hg
    have hin:P.step l[a] path[i]∈l[a].Parts:=hor.resolve_left (by omega)
    obtain ⟨q1,q2,_⟩:=p6 _ hin
    simp -implicitDefEqProofs (disch:=omega) [hn]
    refine Kn _ _ _ (by omega) ⟨i+1,(P.step l[a] path[i]).toNat,rfl,by omega,by omega,by rw [Int.toNat_of_nonneg q1];simp,hg,E03⟩
  ·have hi3:¬ (i:Int)<path.length:=by omega
   simp -implicitDefEqProofs (disch:=omega) [hi3]
   refine Kx _ _ _ ?_
   unfold j_Get_6
   simp -implicitDefEqProofs (disch:=omega)
   rw [List.drop_eq_nil_of_le (by omega),P.get] at hg
   exact K h2 _ _ E2 (fun q=>by rw [hm] at q;simp at q) (fun _=>⟨fun q=>by omega,fun _=>⟨hg,rfl⟩⟩)
end Go.Bvm.JN
set_option linter.unusedVariables false
set_option linter.unusedSimpArgs false
set_option maxRecDepth 20000
namespace Go.Bvm.JN
open Go.Bvm
theorem app1b {c:Nat} {h:H} {v:V} {l:Str} {b:UInt8} {k:KV} (S:SlO [] c h v l) (hl:l.length≤1000000000) (hc:c≤h.next)
  (K:∀ h' w,SlO [] c h' w (l++[b])→Fz c h.next [kR Ty_uint8] h h'→k w h'=true):bslA h.next 1 1 Ty_uint8 (vl [vy b]) ⟨h.next+1,h.tr⟩ (fun v' h1=>app 1 Ty_uint8 v v' h1 k)=true:=
 SlO.app1 (x:=b) S rfl (by decide) rfl (by decide) (by show (l.length+1)*1≤_;omega) hc (by simp) (by decide) fun h' w S' _ _ F=>K h' w S' F
theorem rQuote_w {h:H} {s:Str} (hs:s.length≤1000000) {k:KV} {n:Nat} (K:∀ h',Ex h h'→k (vs (P.quote s)) h'=true):run tbl (n+1) Nf_r_Quote (vl [vs s]) h k=true:=by
 rw [run_succ,tbl_r_Quote]
 unfold T_r_Quote r_Quote_6
 simp -implicitDefEqProofs (disch:=omega)
 refine app1b (c:=h.next) (b:=34) (SlO.nil _ _ _) (by simp) (Nat.le_refl _) fun h1 w S1 F1=>?_
 have E1:Ex h h1:=F1.loc (Fz.refl h.next h.next [] h1) (Nat.le_refl _) (Nat.le_refl _) |> fun F=>⟨F1.nx,F1.lo,fun j hj _=>F1.lo j hj⟩
 unfold r_Quote_4
 simp -implicitDefEqProofs (disch:=omega)
 refine loop_w (fun m e h'=>∃ (i:Nat) (w:V),m=s.length-i∧i≤s.length∧e=f8 (vs []) (wz i) (vs s) w V.u V.u V.u V.u∧SlO [] h.next h' w ([34]++P.esc (s.take i))∧Ex h h') ?_ big s.length _ _ ⟨0,w,rfl,by omega,rfl,by simpa [P.esc] using S1,E1⟩ (by unfold big;omega)
 rintro m e h2 ⟨i,w,rfl,hi,rfl,S2,E2⟩ K' Kn Kx Kr
 have n2:=E2.nx
 have el:=P.esc_len (s.take i)
 have tl:(s.take i).length≤s.length:=by simp;omega
 have ex:∀ {a b:H},Ex h a→Fz h.next a.next [kR Ty_uint8] a b→Ex h b:=fun A B=>⟨Nat.le_trans A.nx B.nx,fun j hj=>(B.lo j hj).trans (A.lo j hj),fun j hj _=>(B.lo j hj).trans (A.lo j hj)⟩
 unfold r_Quote_0
 by_cases hi2:i<s.length
 ·have hi3:(i:Int)<s.length:=by omega
  unfold r_Quote_1 r_Quote_2 r_Quote_3
  by_cases hq:s[i]=34
  ·simp -implicitDefEqProofs (disch:=omega) [hi2,hi3,hq]
   refine app1b (b:=92) S2 (by simp;omega) n2 fun h3 w3 S3 F3=>?_
   have E3:=ex E2 F3
   refine app1b (b:=34) S3 (by simp;omega) E3.nx fun h4 w4 S4 F4=>?_
   refine Kn _ _ _ (by omega) ⟨i+1,w4,rfl,by omega,by simp,?_,ex E3 F4⟩
   rw [P.esc_take hi2]
   unfold P.escC
   rw [if_pos (.inl hq),hq]
   simpa using S4
  ·by_cases hq2:s[i]=92
   ·simp -implicitDefEqProofs (disch:=omega) [hi2,hi3,hq,hq2]
    refine app1b (b:=92) S2 (by simp;omega) n2 fun h3 w3 S3 F3=>?_
    have E3:=ex E2 F3
    refine app1b (b:=92) S3 (by simp;omega) E3.nx fun h4 w4 S4 F4=>?_
    refine Kn _ _ _ (by omega) ⟨i+1,w4,rfl,by omega,by simp,?_,ex E3 F4⟩
    rw [P.esc_take hi2]
    unfold P.escC
    rw [if_pos (.inr hq2),hq2]
    simpa using S4
   ·simp -implicitDefEqProofs (disch:=omega) [hi2,hi3,hq,hq2]
    refine app1b (b:=s[i]) S2 (by simp;omega) n2 fun h3 w3 S3 F3=>?_
    refine Kn _ _ _ (by omega) ⟨i+1,w3,rfl,by omega,by simp,?_,ex E2 F3⟩
    rw [P.esc_take hi2]
    unfold P.escC
    rw [if_neg (by rintro (z | z);exact hq z;exact hq2 z)]
    simpa using S3
 ·have hi3:¬ (i:Int)<s.length:=by omega
  simp -implicitDefEqProofs (disch:=omega) [hi3]
  refine Kx _ _ _ ?_
  unfold r_Quote_5
  simp -implicitDefEqProofs (disch:=omega)
  rw [List.take_of_length_le (by omega)] at S2
  have el:=P.esc_len s
  refine app1b (b:=34) S2 (by simp;omega) n2 fun h3 w3 S3 F3=>?_
  rw [b2s_w S3.sl (by simp;omega)]
  have:=K h3 (ex E2 F3)
  unfold P.quote at this
  simpa using this
end Go.Bvm.JN
set_option linter.unusedVariables false
set_option linter.unusedSimpArgs false
set_option maxRecDepth 20000
namespace Go.Bvm.JN
open Go.Bvm
def RwS (m f:Nat) (l:List api_Json) (all:List Shp) (v:V):Prop:=∀ (h:H) (i:Nat) (y:Shp) (k:KV),all[i]?=some y→y.deep<f→Sl (α:=JF) [] h v l→Pin h→Pg<h.next→
 (∀ h',Ex h h'→k (vs (P.spell l f i)) h'=true)→run tbl m Nf_r_Write (vl [v,wz i]) h k=true
theorem rWrite_loop {l:List api_Json} {all:List Shp} (O:P.Ok l all) {n f:Nat} {v:V} (SP:RwS (n+2) f l all v) (hlen:∀ (i:Nat) (y:Shp),all[i]?=some y→y.deep<f→(P.spell l f i).length+6004≤12100*y.size)
  {h:H} {q i:Nat} {x:api_Json} {y:Shp} {w1 w2:V} {K:KX} (hx:l[i]?=some x) (hy:all[i]?=some y) (hd:y.deep<f+1) (hkd:x.Kind=6∨x.Kind=7)
  (B:Bk h q 0 0 Ty_api_Json true true [wz x.Kind,wz x.N,vs x.S,w1,w2]) (qh:q<h.next) (KS:Sl [] h w1 x.Keys) (PS:Sl [] h w2 x.Parts) (L:Sl (α:=JF) [] h v l) (p:Pin h) (ph:Pg<h.next) (hpb:x.Parts.length≤4096) (hll:l.length≤300)
  (Kf:∀ h' k',Ex h h'→K X.n (f8 (vs []) k' (.p q 0 5 0) (vs (P.spellP (P.spell l f) x x.Parts.length)) v V.u V.u V.u) h'=true) :
  r_Write_8 (run tbl (n+2)) big (f8 (vs []) V.u (.p q 0 5 0) (vs []) v V.u V.u V.u) h K=true:=by
 obtain ⟨y',e,p1,p0,p2,p3,p4,p5,p6,p7⟩:=O.part hx
 rw [hy] at e
 cases e
 have pb:=PS.bd;have kb:=KS.bd
 have hmB:maxB=140737488355328:=rfl
 have hy3:=(O.good i y hy).2.1
 have hy4:y.size≤300:=by
  have:=(List.getElem?_eq_some_iff.1 hx).1
  omega
 have hkl:∀ s∈x.Keys,s.length≤3000:=fun s hs=>by
  by_cases h7:x.Kind=7
  ·exact P.plain_len ((p2 h7).2 s hs)
  ·rw [p0 h7] at hs;simp at hs
 have hsp:∀ pp∈x.Parts,(P.spell l f pp.toNat).length+6004≤12100*P.szOf all pp:=fun pp hp=>by
  obtain ⟨_,_,z,hz1,hz2⟩:=p6 pp hp
  have:=hlen pp.toNat z hz1 (by have:=hz2 (by omega);omega)
  unfold P.szOf
  rw [hz1];exact this
 have hpl:=P.spellP_len (all:=all) hkl hsp
 have hf0:inR x.Kind:=by unfold inR;omega
 unfold r_Write_8
 simp -implicitDefEqProofs (disch:=omega)
 refine loop_w (fun m e h'=>∃ (k:Nat),m=x.Parts.length-k∧k≤x.Parts.length∧e=f8 (vs []) (wz k) (.p q 0 5 0) (vs (P.spellP (P.spell l f) x k)) v V.u V.u V.u∧Ex h h') ?_ big x.Parts.length _ _ ⟨0,rfl,by omega,rfl,Fz.refl _ _ _ _⟩ (by unfold big;omega)
 rintro m e h1 ⟨k,rfl,hk,rfl,F1⟩ K' Kn Kx Kr
 have n1:=F1.nx
 have B1:=B.fz F1 qh (by simp)
 have KS1:=KS.fz F1 (Nat.le_refl _) (by simp)
 have PS1:=PS.fz F1 (Nat.le_refl _) (by simp)
 have L1:=L.fz F1 (Nat.le_refl _) (by simp)
 have p1':=p.fz F1 ph (by decide)
 have La:=fun {o m}=>B1.ld (n:=5) rfl (off:=o) (lim:=m)
 have hplk:=hpl k hk
 unfold r_Write_3
 by_cases hk2:k<x.Parts.length
 ·have hk3:(k:Int)<x.Parts.length:=by omega
  obtain ⟨hin,a1,a2⟩:=at_Int PS1 hk2
  obtain ⟨q1,q2,z,hz1,hz2⟩:=p6 _ (List.getElem_mem hk2)
  have hdz:=hz2 (by omega)
  have ez:(wz x.Parts[k]:V)=wz ((x.Parts[k].toNat:Nat):Int):=by rw [Int.toNat_of_nonneg q1]
  have szz:P.szOf all x.Parts[k]=z.size:=by unfold P.szOf;rw [hz1];rfl
  have hst:=P.sum_take (P.szOf all) hk2
  have hsl:((x.Parts.take (k+1)).map (P.szOf all)).sum≤(x.Parts.map (P.szOf all)).sum:=by
   conv=>rhs;rw [← List.take_append_drop (k+1) x.Parts]
   rw [List.map_append,List.sum_append];omega
  have hys:y.size=1+(x.Parts.map (P.szOf all)).sum:=p7
  have zs:=hlen _ z hz1 (by omega)
  have eg:x.Parts.getD k 0=x.Parts[k]:=by rw [List.getD_eq_getElem?_getD,List.getElem?_eq_getElem hk2];rfl
  obtain ⟨acc,hacc⟩ : ∃ acc,acc=P.spellP (P.spell l f) x k:=⟨_,rfl⟩
  have hsucc:P.spellP (P.spell l f) x (k+1)=acc++((if 0<k then [44] else [])++((if x.Kind=7 then P.quote (x.Keys.getD k [])++[58] else [])++P.spell l f x.Parts[k].toNat)):=by rw [P.spellP,eg,hacc]
  rw [← hacc] at hplk
  rw [← hacc]
  have last:∀ (t:Str) (h2:H) (C:KX),t.length≤900000000→Ex h h2→P.spellP (P.spell l f) x (k+1)=t++P.spell l f x.Parts[k].toNat→(∀ e' h',C X.n e' h'=r_Write_7 (run tbl (n+2)) big e' h' K')→r_Write_6 (run tbl (n+2)) big (f8 (vs []) (wz k) (.p q 0 5 0) (vs t) v V.u V.u V.u) h2 C=true:=by
   intro t h2 C ht F2 he hC
   have n2:=F2.nx
   have B2:=B.fz F2 qh (by simp)
   have PS2:=PS.fz F2 (Nat.le_refl _) (by simp)
   have La:=fun {o m}=>B2.ld (n:=5) rfl (off:=o) (lim:=m)
   obtain ⟨hin,a1,a2⟩:=at_Int PS2 hk2
   unfold r_Write_6
   simp -implicitDefEqProofs (disch:=omega) [La,a1,a2]
   rw [ez]
   refine SP h2 _ z _ hz1 (by omega) (L.fz F2 (Nat.le_refl _) (by simp)) (p.fz F2 ph (by decide)) (by omega) fun h3 F3=>?_
   simp -implicitDefEqProofs (disch:=omega)
   rw [hC]
   unfold r_Write_7
   simp -implicitDefEqProofs (disch:=omega)
   exact Kn _ _ _ (by omega) ⟨k+1,rfl,by omega,by rw [he];simp,F2.loc F3 n2 n2⟩
  have mid:∀ (t:Str) (C:KX),t.length≤800000000→P.spellP (P.spell l f) x (k+1)=t++((if x.Kind=7 then P.quote (x.Keys.getD k [])++[58] else [])++P.spell l f x.Parts[k].toNat)→(∀ e' h',C X.n e' h'=r_Write_6 (run tbl (n+2)) big e' h' (fun x e' h'=>X.rec (r_Write_7 (run tbl (n+2)) big e' h' K') (fun i=>K' (X.x i) e' h') (K' X.r e' h') (unX 2 x)))→r_Write_5 (run tbl (n+2)) big (f8 (vs []) (wz k) (.p q 0 5 0) (vs t) v V.u V.u V.u) h1 C=true:=by
   intro t C ht he hC
   unfold r_Write_5
   by_cases c7:x.Kind=7
   ·have hkl2:=(p2 c7).1
    obtain ⟨hb,b1,b2⟩:=at_Str KS1 (show k<x.Keys.length by omega)
    have hk3000:=hkl _ (List.getElem_mem (show k<x.Keys.length by omega))
    have egk:x.Keys.getD k []=x.Keys[k]:=by rw [List.getD_eq_getElem?_getD,List.getElem?_eq_getElem (by omega)];rfl
    have hq:=P.quote_len x.Keys[k]
    rw [if_pos c7,egk] at he
    simp -implicitDefEqProofs (disch:=omega) [La,c7,b1,b2]
    refine rQuote_w (n:=n+1) (by omega) fun h2 F2=>?_
    have hcat:(t++P.quote x.Keys[k]).length+([58]:Str).length≤1099511627776:=by simp;omega
    simp -implicitDefEqProofs (disch:=omega) [catV_vs _ _ hcat]
    rw [hC]
    refine last _ h2 _ (by simp;omega) (F1.loc F2 n1 n1) (by rw [he];simp) (fun _ _=>rfl)
   ·rw [if_neg c7,List.nil_append] at he
    simp -implicitDefEqProofs (disch:=omega) [La,c7]
    rw [hC]
    exact last t h1 _ (by omega) F1 he (fun _ _=>rfl)
  unfold r_Write_4
  by_cases hk0:0<k
  ·have hk0':(k:Int)>0:=by omega
   rw [if_pos hk0] at hsucc
   have hcat:acc.length+([44]:Str).length≤1099511627776:=by simp;omega
   simp -implicitDefEqProofs (disch:=omega) [La,PS1.lenL,hk3,hk0,hk0',catV_vs _ _ hcat]
   exact mid (acc++[44]) _ (by simp;omega) (by rw [hsucc];simp) fun e' h'=>rfl
  ·have hk0':¬ (k:Int)>0:=by omega
   rw [if_neg hk0,List.nil_append] at hsucc
   simp -implicitDefEqProofs (disch:=omega) [La,PS1.lenL,hk3,hk0,hk0']
   exact mid acc _ (by omega) hsucc fun e' h'=>rfl
 ·have hk3:¬ (k:Int)<x.Parts.length:=by omega
  have:k=x.Parts.length:=by omega
  subst this
  simp -implicitDefEqProofs (disch:=omega) [La,PS1.lenL]
  refine Kx _ _ _ ?_
  simp -implicitDefEqProofs (disch:=omega)
  exact Kf _ _ F1
end Go.Bvm.JN
set_option linter.unusedVariables false
set_option linter.unusedSimpArgs false
set_option maxRecDepth 20000
namespace Go.Bvm.JN
open Go.Bvm
theorem rWrite_w {l:List api_Json} {all:List Shp} (O:P.Ok l all) {n:Nat} {v:V} (hll:l.length≤300) (hz:∀ x∈l,inR x.N) (hB:∀ x∈l,x.Keys.length≤1000000∧x.Parts.length≤4096):∀ f,RwS (n+f+3) f l all v
 | 0=>fun h i y k hy hd=>absurd hd (by omega)
 | f+1=>by
  intro h i y k hy hd L p ph K
  have hi:i<l.length:=by rw [← O.len];exact (List.getElem?_eq_some_iff.1 hy).1
  have hx:=List.getElem?_eq_getElem hi
  obtain ⟨y',e,p1,p0,p2,p3,p4,p5,p6,p7⟩:=O.part hx
  rw [hy] at e
  cases e
  have hS:=P.plain_len p3
  have hy1:=(O.good i y hy).1
  have hy3:=(O.good i y hy).2.1
  rw [show n+(f+1)+3=(n+f+3)+1 by omega,run_succ,tbl_r_Write]
  unfold T_r_Write r_Write_12
  obtain ⟨cs,E,a1,a2,a3⟩:=L.at (i:=(i:Int)) (Int.natCast_nonneg i) (getE? (show (i:Int).toNat<l.length from hi))
  have a1':∀ k,iadV 5 v (wz (i:Int)) k=k (pel v (i:Int) 0):=a1
  have E':∃ w1 w2,cs=[wz l[i].Kind,wz l[i].N,vs l[i].S,w1,w2]∧inR l[i].Kind∧inR l[i].N∧l[i].S.length≤maxB∧Sl [] h w1 l[i].Keys∧Sl [] h w2 l[i].Parts:=E
  obtain ⟨w1,w2,rfl,f0,f1,f2,f3,f4⟩:=E'
  have a3':∀ k,lda 5 (pel v (i:Int) 0) h k=k (.x .agg (vl [wz l[i].Kind,wz l[i].N,vs l[i].S,w1,w2]) V.nil):=fun k=>a3 0 5 k (by decide)
  simp -implicitDefEqProofs (disch:=omega) [a1',a3']
  refine newA_w rfl (by decide) (by decide) fun h2 n2 B2 x2=>?_
  have hn2:h2.next=h.next+1:=n2
  refine sta_w B2 rfl (by simp) (by simp) fun h3 n3 B3 x3=>?_
  have B3:Bk h3 h.next 0 0 Ty_api_Json true true [wz l[i].Kind,wz l[i].N,vs l[i].S,w1,w2]:=B3
  have E3:Ex h h3:=⟨by omega,fun j hj=>(x3.2 j (by omega)).trans (x2.2 j (by omega)),fun j hj _=>(x3.2 j (by omega)).trans (x2.2 j (by omega))⟩
  have p3':=p.fz E3 ph (by decide)
  have La:=fun {o m}=>B3.ld (n:=5) rfl (off:=o) (lim:=m)
  have sp:P.spell l (f+1) i=if l[i].Kind=4 then Lib.itoa l[i].N else if l[i].Kind=5 then P.quote l[i].S else if l[i].Kind=6∨l[i].Kind=7 then [(P.ends l[i].Kind).1]++P.spellP (P.spell l f) l[i] l[i].Parts.length++[(P.ends l[i].Kind).2] else P.word l[i].Kind:=by
   rw [P.spell,hx]
  have hsl:=P.spell_len O hz (f+1) i y hy hd
  have fin:∀ h' s,Ex h h'→s=P.spell l (f+1) i→k (vs s) h'=true:=fun h' s F e=>by rw [e];exact K h' F
  have hpb:=hB _ (List.getElem_mem hi)
  generalize hxx:l[i]=x at *
  unfold r_Write_2 r_Write_1
  by_cases c1:x.Kind=1
  ·simp -implicitDefEqProofs (disch:=omega) [La,c1]
   exact fin _ _ E3 (by rw [sp,if_neg (by omega),if_neg (by omega),if_neg (by omega)];unfold P.word;rw [if_pos c1])
  by_cases c2:x.Kind=2
  ·simp -implicitDefEqProofs (disch:=omega) [La,c1,c2]
   exact fin _ _ E3 (by rw [sp,if_neg (by omega),if_neg (by omega),if_neg (by omega)];unfold P.word;rw [if_neg c1,if_pos c2])
  by_cases c3:x.Kind=3
  ·simp -implicitDefEqProofs (disch:=omega) [La,c1,c2]
   unfold r_Write_0
   simp -implicitDefEqProofs (disch:=omega) [La,c3]
   exact fin _ _ E3 (by rw [sp,if_neg (by omega),if_neg (by omega),if_neg (by omega)];unfold P.word;rw [if_neg c1,if_neg c2])
  by_cases c4:x.Kind=4
  ·simp -implicitDefEqProofs (disch:=omega) [La,c1,c2]
   unfold r_Write_0
   simp -implicitDefEqProofs (disch:=omega) [La,c3,c4]
   rw [Itoa_eq p3' f1]
   exact fin _ _ E3 (by rw [sp,if_pos c4])
  by_cases c5:x.Kind=5
  ·simp -implicitDefEqProofs (disch:=omega) [La,c1,c2]
   unfold r_Write_0
   simp -implicitDefEqProofs (disch:=omega) [La,c3,c4,c5]
   refine rQuote_w (n:=n+f+2) (by omega) fun h4 F4=>?_
   exact fin _ _ (E3.loc F4 E3.nx E3.nx) (by rw [sp,if_neg c4,if_pos c5])
  have c67:x.Kind=6∨x.Kind=7:=by omega
  rw [if_neg c4,if_neg c5,if_pos c67] at sp
  simp -implicitDefEqProofs (disch:=omega) [La,c1,c2]
  unfold r_Write_0
  simp -implicitDefEqProofs (disch:=omega) [La,c3,c4,c5]
  unfold r_Write_11
  simp -implicitDefEqProofs (disch:=omega)
  have SP:RwS (n+f+1+2) f l all v:=by rw [show n+f+1+2=n+f+3 by omega];exact rWrite_w O hll hz hB f
  refine rWrite_loop (n:=n+f+1) O SP (fun j z hj hdz=>P.spell_len O hz f j z hj hdz) (i:=i) (x:=x) (y:=y) (q:=h.next) hx hy hd c67 B3 (by omega) (f3.fz E3 (Nat.le_refl _) (by simp)) (f4.fz E3 (Nat.le_refl _) (by simp)) (L.fz E3 (Nat.le_refl _) (by simp)) p3' (by omega) hpb.2 hll fun h5 k5 F5=>?_
  have B5:=B3.fz F5 (by omega) (by simp)
  have La:=fun {o m}=>B5.ld (n:=5) rfl (off:=o) (lim:=m)
  have F05:=E3.loc F5 E3.nx E3.nx
  rw [sp] at hsl
  simp only [List.length_append,List.length_singleton] at hsl
  unfold r_Write_9
  obtain ⟨acc,hacc⟩ : ∃ acc,acc=P.spellP (P.spell l f) x x.Parts.length:=⟨_,rfl⟩
  rw [← hacc] at sp hsl
  rw [← hacc]
  rcases c67 with c6 | c7
  ·have h1:([91]:Str).length+acc.length≤1099511627776:=by simp;omega
   have h2:(91::acc).length+([93]:Str).length≤1099511627776:=by simp;omega
   simp -implicitDefEqProofs (disch:=omega) [La,c6]
   unfold r_Write_10
   simp -implicitDefEqProofs (disch:=omega) [catV_vs _ _ h1,catV_vs _ _ h2]
   exact fin _ _ F05 (by rw [sp];unfold P.ends;rw [if_neg (by omega)];rfl)
  ·have h1:([123]:Str).length+acc.length≤1099511627776:=by simp;omega
   have h2:(123::acc).length+([125]:Str).length≤1099511627776:=by simp;omega
   simp -implicitDefEqProofs (disch:=omega) [La,c7,catV_vs _ _ h1,catV_vs _ _ h2]
   exact fin _ _ F05 (by rw [sp];unfold P.ends;rw [if_pos c7];rfl)
end Go.Bvm.JN
set_option linter.unusedVariables false
set_option linter.unusedSimpArgs false
set_option maxRecDepth 20000
namespace Go.Bvm.JN
open Go.Bvm
theorem Num_eq {a b:Int} (ha:inR a) (hb:inR b) {h:H} {n:Nat} {k:KV}:run tbl (n+1) Nf_z_Num (vl [wz a,wz b]) h k=k (.t (decide (0≤a∧a≤b))) h:=by
 rw [run_succ,tbl_z_Num]
 unfold T_z_Num z_Num_0
 by_cases h1:0≤a
 ·have h1':a≥0:=h1
  by_cases h2:a≤b
  ·simp -implicitDefEqProofs (disch:=omega) [h1,h1',h2]
  ·simp -implicitDefEqProofs (disch:=omega) [h1,h1',h2]
 ·have h1':¬ a≥0:=h1
  simp -implicitDefEqProofs (disch:=omega) [h1,h1']
theorem Between_eq {a b c:Int} (ha:inR a) (hb:inR b) (hc:inR c) {h:H} {n:Nat} {k:KV}:run tbl (n+1) Nf_z_Between (vl [wz a,wz b,wz c]) h k=k (.t (decide (b≤a∧a≤c))) h:=by
 rw [run_succ,tbl_z_Between]
 unfold T_z_Between z_Between_0
 by_cases h1:b≤a
 ·have h1':a≥b:=h1
  by_cases h2:a≤c
  ·simp -implicitDefEqProofs (disch:=omega) [h1,h1',h2]
  ·simp -implicitDefEqProofs (disch:=omega) [h1,h1',h2]
 ·have h1':¬ a≥b:=h1
  simp -implicitDefEqProofs (disch:=omega) [h1,h1']
theorem Has_w {Z:List Nat} {h:H} {v:V} {l:List Str} {s:Str} (A:Sl Z h v l) (hl:l.length≤1000000) {n:Nat} {k:KV} (K:k (.t (decide (s∈l))) h=true):run tbl (n+1) Nf_z_Has (vl [v,vs s]) h k=true:=by
 rw [run_succ,tbl_z_Has]
 unfold T_z_Has z_Has_5 z_Has_3
 simp -implicitDefEqProofs (disch:=omega)
 refine loop_w (fun m e h'=>∃ i:Nat,m=l.length-i∧i≤l.length∧e=f8 (.t false) (wz i) v (vs s) V.u V.u V.u V.u∧h'=h∧¬ s∈l.take i) ?_ big l.length _ _ ⟨0,by simp⟩ (by unfold big;omega)
 rintro m e h' ⟨i,rfl,hi,rfl,rfl,hn⟩ K' Kn Kx Kr
 unfold z_Has_0
 by_cases hi2:i<l.length
 ·have hi3:(i:Int)<l.length:=by omega
  obtain ⟨_,a1,a2⟩:=at_Str A hi2
  unfold z_Has_1 z_Has_2
  by_cases e:l[i]=s
  ·simp -implicitDefEqProofs (disch:=omega) [A.lenL,hi3,a1,a2,e]
   refine Kr _ _ ?_
   simp -implicitDefEqProofs (disch:=omega)
   have:s∈l:=by rw [← e];exact List.getElem_mem hi2
   rw [decide_eq_true this] at K
   exact K
  ·simp -implicitDefEqProofs (disch:=omega) [A.lenL,hi3,a1,a2,e]
   refine Kn _ _ _ (by omega) ⟨i+1,rfl,by omega,by simp,rfl,?_⟩
   rw [List.take_succ_eq_append_getElem hi2]
   intro q
   rcases List.mem_append.1 q with q | q
   ·exact hn q
   ·simp at q;exact e q.symm
 ·have hi3:¬ (i:Int)<l.length:=by omega
  simp -implicitDefEqProofs (disch:=omega) [A.lenL,hi3]
  refine Kx _ _ _ ?_
  unfold z_Has_4
  simp -implicitDefEqProofs (disch:=omega)
  rw [List.take_of_length_le (by omega)] at hn
  rw [decide_eq_false hn] at K
  exact K
theorem rString_w {h:H} {s:Str} (hs:s.length≤maxB) {n:Nat} {k:KV} (K:k (.t (P.plain s 3000)) h=true):run tbl (n+1) Nf_r_String (vl [vs s]) h k=true:=by
 have hmB:maxB=140737488355328:=rfl
 rw [run_succ,tbl_r_String]
 unfold T_r_String r_String_5 r_String_3
 simp -implicitDefEqProofs (disch:=omega)
 refine loop_w (fun m e h'=>∃ i:Nat,m=3002-i∧i≤3001∧i≤s.length∧e=f8 (.t false) (wz i) (vs s) V.u V.u V.u V.u V.u∧h'=h∧(s.take i).all P.plainC=true) ?_ big 3002 _ _ ⟨0,rfl,by omega,by omega,rfl,rfl,rfl⟩ (by unfold big;omega)
 rintro m e h' ⟨i,rfl,hi,his,rfl,rfl,ha⟩ K' Kn Kx Kr
 unfold r_String_0
 have bad:∀ (hi2:i<s.length),P.plainC s[i]=false→P.plain s 3000=false:=fun hi2 hb=>by
  have:s.all P.plainC=false:=by
   cases q:s.all P.plainC with
   | false=>rfl
   | true=>rw [List.all_eq_true.1 q _ (List.getElem_mem hi2)] at hb;simp at hb
  unfold P.plain
  rw [this];simp
 by_cases hi2:i<s.length
 ·have hi3:(i:Int)<s.length:=by omega
  by_cases hi4:i≤3000
  ·have hi5:(i:Int)≤3000:=by omega
   unfold r_String_1 r_String_2
   by_cases c1:s[i]<32
   ·have y1:yLt s[i] 32=true:=decide_eq_true c1
    simp -implicitDefEqProofs (disch:=omega) [hi2,hi3,hi5,y1]
    refine Kr _ _ ?_
    simp -implicitDefEqProofs (disch:=omega)
    rw [bad hi2 (by
     unfold P.plainC;have:¬ 32≤s[i].toNat:=by have:s[i].toNat<32:=c1;omega
     simp [this])] at K
    exact K
   ·have y1:yLt s[i] 32=false:=decide_eq_false c1
    have t1:32≤s[i].toNat:=by have:¬ s[i].toNat<32:=c1;omega
    by_cases c2:126<s[i]
    ·have y2:yLt 126 s[i]=true:=decide_eq_true c2
     simp -implicitDefEqProofs (disch:=omega) [hi2,hi3,hi5,y1,y2]
     refine Kr _ _ ?_
     simp -implicitDefEqProofs (disch:=omega)
     rw [bad hi2 (by
      unfold P.plainC;have:¬ s[i].toNat≤126:=by have:126<s[i].toNat:=c2;omega
      simp [this])] at K
     exact K
    ·have y2:yLt 126 s[i]=false:=decide_eq_false c2
     have t2:s[i].toNat≤126:=by have:¬ 126<s[i].toNat:=c2;omega
     simp -implicitDefEqProofs (disch:=omega) [hi2,hi3,hi5,y1,y2]
     refine Kn _ _ _ (by omega) ⟨i+1,rfl,by omega,by omega,by simp,rfl,?_⟩
     rw [all_take hi2,ha]
     unfold P.plainC
     simp [t1,t2]
  ·have hi5:¬ (i:Int)≤3000:=by omega
   simp -implicitDefEqProofs (disch:=omega) [hi2,hi3,hi5]
   refine Kx _ _ _ ?_
   unfold r_String_4
   have e1:¬ (s.length:Int)≤3000:=by omega
   have e2:P.plain s 3000=false:=by unfold P.plain;rw [decide_eq_false (by omega)];rfl
   rw [e2] at K
   simp -implicitDefEqProofs (disch:=omega) [e1]
   exact K
 ·have hi3:¬ (i:Int)<s.length:=by omega
  simp -implicitDefEqProofs (disch:=omega) [hi3]
  refine Kx _ _ _ ?_
  unfold r_String_4
  rw [List.take_of_length_le (by omega)] at ha
  have e2:P.plain s 3000=decide ((s.length:Int)≤3000):=by unfold P.plain;rw [ha,Bool.and_true];simp only [decide_eq_decide];omega
  rw [e2] at K
  simp -implicitDefEqProofs (disch:=omega)
  exact K
end Go.Bvm.JN
set_option linter.unusedVariables false
set_option linter.unusedSimpArgs false
set_option maxRecDepth 20000
namespace Go.Bvm.JN
open Go.Bvm
namespace R
def own (x:api_Json) (deep:Nat):Bool:=
 if x.Kind=1∨x.Kind=2∨x.Kind=3 then decide (x.N=0) && (decide (x.S=[]) && (decide (x.Keys=[]) && decide (x.Parts=[])))
 else if x.Kind=4 then decide (x.S=[]) && (decide (x.Keys=[]) && (decide (x.Parts=[]) && P.isNum x.N))
 else if x.Kind=5 then decide (x.N=0) && (decide (x.Keys=[]) && (decide (x.Parts=[]) && P.plain x.S 3000))
 else if x.Kind=6 then decide (deep<8) && (decide (x.N=0) && (decide (x.S=[]) && decide (x.Keys=[])))
 else if x.Kind=7 then decide (deep<8) && (decide (x.N=0) && (decide (x.S=[]) && decide (x.Keys.length=x.Parts.length)))
 else false
def plain0 (x:api_Json):Bool:=decide (x.N=0) && (decide (x.S=[]) && decide (x.Keys=[]))
end R
noncomputable abbrev fq (c1 c2:V) (q2:Nat) (c4 c5:V) (deep:Nat) (c7:V) (i q:Nat):L8:=⟨⟨.t false,c1,c2,.p q2 0 5 0,c4,c5,wz deep,c7⟩,⟨wz i,.p q 0 2 0,V.u,V.u,V.u,V.u,V.u,V.u⟩,n8 V.u,n8 V.u,n8 V.u,n8 V.u,n8 V.u,n8 V.u⟩
theorem rnode21_w {Z:List Nat} {h:H} {q q2 i deep:Nat} {x:api_Json} {w1 w2:V} {K:KX} {n:Nat} (f0:inR x.Kind) (f1:inR x.N) (hs:x.S.length≤maxB) (B:Bk h q2 0 0 Ty_api_Json true true [wz x.Kind,wz x.N,vs x.S,w1,w2]) (KS:Sl Z h w1 x.Keys) (PS:Sl Z h w2 x.Parts) (hd:deep≤100)
  (Kt:x.Kind<6→R.own x deep=true→∀ c1 c5,K X.n (fq c1 (.t (R.plain0 x)) q2 (wz x.Kind) c5 deep V.u i q) h=true) (Kf:R.own x deep=false→∀ e',e'.c0.c0=.t false→K X.r e' h=true)
  (Kp:6≤x.Kind→R.own x deep=true→∀ C:KX,(∀ e h,C X.n e h=K X.n e h)→(∀ e h,C X.r e h=K X.r e h)→r_seat_node_18 (run tbl (n+2)) big (fq (.t false) (.t (R.plain0 x)) q2 (wz x.Kind) (.t true) deep V.u i q) h C=true) :
  r_seat_node_21 (run tbl (n+2)) big (.p q2 0 5 0) (fq V.u (.t (R.plain0 x)) q2 V.u V.u deep V.u i q) h K=true:=by
 have kb:=KS.bd;have pb:=PS.bd
 have hmB:maxB=140737488355328:=rfl
 have La:=fun {o m}=>B.ld (n:=5) rfl (off:=o) (lim:=m)
 have lK:(x.Keys=[])=((x.Keys.length:Int)=0):=by apply propext;constructor;intro e;rw [e];rfl;intro e;exact List.eq_nil_of_length_eq_zero (by omega)
 have lP:(x.Parts=[])=((x.Parts.length:Int)=0):=by apply propext;constructor;intro e;rw [e];rfl;intro e;exact List.eq_nil_of_length_eq_zero (by omega)
 have fin:R.own x deep=false→K X.r (fq V.u V.u q2 V.u V.u deep V.u i q) h=true:=fun e=>Kf e _ rfl
 unfold r_seat_node_21 r_seat_node_0
 simp -implicitDefEqProofs (disch:=omega) [La]
 by_cases c123:x.Kind=1∨x.Kind=2∨x.Kind=3
 ·have ho:R.own x deep=(R.plain0 x && decide (x.Parts=[])):=by
   unfold R.own R.plain0
   rw [if_pos c123]
   simp [Bool.and_assoc]
  have go:∀ c1,c1=V.t true→r_seat_node_20 (run tbl (n+2)) big (fq c1 (.t (R.plain0 x)) q2 (wz x.Kind) V.u deep V.u i q) h (fun x e' h'=>K (unX 0 x) e' h')=true:=by
   rintro _ rfl
   unfold r_seat_node_20
   cases hp:R.plain0 x with
   | false=>
    rw [hp] at ho
    simp -implicitDefEqProofs (disch:=omega) [nots]
    exact Kf ho _ rfl
   | true=>
    rw [hp] at ho
    rw [hp] at Kt
    by_cases cp:x.Parts=[]
    ·have cp':(x.Parts.length:Int)=0:=by rw [cp];rfl
     have cp2:¬ (x.Parts.length:Int)>0:=by omega
     simp -implicitDefEqProofs (disch:=omega) [nots,La,PS.lenL,cp2,cp]
     exact Kt (by omega) (by rw [ho];simp [cp]) _ _
    ·have cp2:(x.Parts.length:Int)>0:=by rw [lP] at cp;omega
     have cp3:0<x.Parts.length:=by omega
     simp -implicitDefEqProofs (disch:=omega) [nots,La,PS.lenL,cp2,cp,cp3]
     exact Kf (by rw [ho];simp [cp]) _ rfl
  rcases c123 with c | c | c
  ·simp -implicitDefEqProofs (disch:=omega) [c]
   simpa [c] using go _ rfl
  ·simp -implicitDefEqProofs (disch:=omega) [c]
   simpa [c] using go _ rfl
  ·simp -implicitDefEqProofs (disch:=omega) [c]
   simpa [c] using go _ rfl
 ·have n1:¬ x.Kind=1:=fun e=>c123 (.inl e)
  have n2:¬ x.Kind=2:=fun e=>c123 (.inr (.inl e))
  have n3:¬ x.Kind=3:=fun e=>c123 (.inr (.inr e))
  simp -implicitDefEqProofs (disch:=omega) [n1,n2,n3]
  unfold r_seat_node_20
  have kp:(0<(x.Keys.length:Int)+x.Parts.length)=¬ (x.Keys=[]∧x.Parts=[]):=by
   apply propext;rw [lK,lP];omega
  have kpF:(x.Keys=[]∧x.Parts=[])→¬ ((x.Keys.length:Int)+x.Parts.length>0):=fun e=>by
   have:¬ (0<(x.Keys.length:Int)+x.Parts.length):=by rw [kp];exact fun q=>q e
   omega
  have kpT:¬ (x.Keys=[]∧x.Parts=[])→(x.Keys.length:Int)+x.Parts.length>0:=fun e=>by
   have:0<(x.Keys.length:Int)+x.Parts.length:=by rw [kp];exact e
   omega
  by_cases c4:x.Kind=4
  ·have ho:R.own x deep=(decide (x.S=[]) && (decide (x.Keys=[]) && (decide (x.Parts=[]) && P.isNum x.N))):=by unfold R.own;rw [if_neg c123,if_pos c4]
   simp -implicitDefEqProofs (disch:=omega) [c4]
   unfold r_seat_node_2
   by_cases cs:x.S=[]
   ·by_cases ckp:x.Keys=[]∧x.Parts=[]
    ·have q1:=kpF ckp
     simp -implicitDefEqProofs (disch:=omega) [La,cs,KS.lenL,PS.lenL]
     unfold r_seat_node_1
     simp -implicitDefEqProofs (disch:=omega) [La,q1]
     rw [Between_eq f1 (by unfold inR;omega) (by unfold inR;omega)]
     have hnm:P.isNum x.N=decide (-1073741824≤x.N∧x.N≤1073741824):=by unfold P.isNum;simp
     rw [← hnm]
     cases hi:P.isNum x.N with
     | true=>
      simp -implicitDefEqProofs (disch:=omega) [nots]
      have:=Kt (by omega) (by rw [ho,hi];simp [cs,ckp.1,ckp.2]) (.t false) V.u
      simpa [c4] using this
     | false=>
      simp -implicitDefEqProofs (disch:=omega) [nots]
      exact Kf (by rw [ho,hi];simp) _ rfl
    ·have q1:=kpT ckp
     simp -implicitDefEqProofs (disch:=omega) [La,cs,KS.lenL,PS.lenL]
     unfold r_seat_node_1
     simp -implicitDefEqProofs (disch:=omega) [La,q1]
     exact Kf (by
      rw [ho]
      by_cases ck:x.Keys=[]
      ·have cp:¬ x.Parts=[]:=fun e=>ckp ⟨ck,e⟩
       simp [cp]
      ·simp [ck]) _ rfl
   ·simp -implicitDefEqProofs (disch:=omega) [La,cs,KS.lenL,PS.lenL]
    unfold r_seat_node_1
    simp -implicitDefEqProofs (disch:=omega) [La]
    exact Kf (by rw [ho];simp [cs]) _ rfl
  by_cases c5:x.Kind=5
  ·have ho:R.own x deep=(decide (x.N=0) && (decide (x.Keys=[]) && (decide (x.Parts=[]) && P.plain x.S 3000))):=by unfold R.own;rw [if_neg c123,if_neg c4,if_pos c5]
   simp -implicitDefEqProofs (disch:=omega) [c4,c5]
   unfold r_seat_node_4
   by_cases cs:x.N=0
   ·by_cases ckp:x.Keys=[]∧x.Parts=[]
    ·have q1:=kpF ckp
     simp -implicitDefEqProofs (disch:=omega) [La,cs,KS.lenL,PS.lenL]
     unfold r_seat_node_3
     simp -implicitDefEqProofs (disch:=omega) [La,q1]
     refine rString_w (n:=n+1) hs ?_
     cases hi:P.plain x.S 3000 with
     | true=>
      simp -implicitDefEqProofs (disch:=omega) [nots]
      have:=Kt (by omega) (by rw [ho,hi];simp [cs,ckp.1,ckp.2]) (.t false) V.u
      simpa [c5] using this
     | false=>
      simp -implicitDefEqProofs (disch:=omega) [nots]
      exact Kf (by rw [ho,hi];simp) _ rfl
    ·have q1:=kpT ckp
     simp -implicitDefEqProofs (disch:=omega) [La,cs,KS.lenL,PS.lenL]
     unfold r_seat_node_3
     simp -implicitDefEqProofs (disch:=omega) [La,q1]
     exact Kf (by
      rw [ho]
      by_cases ck:x.Keys=[]
      ·have cp:¬ x.Parts=[]:=fun e=>ckp ⟨ck,e⟩
       simp [cp]
      ·simp [ck]) _ rfl
   ·simp -implicitDefEqProofs (disch:=omega) [La,cs,KS.lenL,PS.lenL]
    unfold r_seat_node_3
    simp -implicitDefEqProofs (disch:=omega) [La]
    exact Kf (by rw [ho];simp [cs]) _ rfl
  simp -implicitDefEqProofs (disch:=omega) [c4,c5]
  unfold r_seat_node_5
  by_cases c6:x.Kind=6
  ·have ho:R.own x deep=(decide (deep<8) && (decide (x.N=0) && (decide (x.S=[]) && decide (x.Keys=[])))):=by unfold R.own;rw [if_neg c123,if_neg c4,if_neg c5,if_pos c6]
   simp -implicitDefEqProofs (disch:=omega) [c6]
   unfold r_seat_node_19 r_seat_node_9
   by_cases d1:deep<8
   ·have d1':¬ (deep:Int)≥8:=by omega
    by_cases d2:x.N=0
    ·by_cases d3:x.S=[]
     ·by_cases d4:x.Keys=[]
      ·have d4':¬ (x.Keys.length:Int)>0:=by rw [d4];simp
       simp -implicitDefEqProofs (disch:=omega) [La,d1',d2]
       unfold r_seat_node_8
       simp -implicitDefEqProofs (disch:=omega) [La,d3]
       unfold r_seat_node_7
       simp -implicitDefEqProofs (disch:=omega) [La,c6,KS.lenL,d4,d4']
       unfold r_seat_node_6
       simp -implicitDefEqProofs (disch:=omega) [La,c6]
       have:=Kp (by omega) (by rw [ho];simp [d1,d2,d3,d4])
       rw [c6] at this
       exact this _ (fun _ _=>rfl) (fun _ _=>rfl)
      ·have d4':(x.Keys.length:Int)>0:=by rw [lK] at d4;omega
       have d4'':0<x.Keys.length:=by omega
       simp -implicitDefEqProofs (disch:=omega) [La,d1',d2]
       unfold r_seat_node_8
       simp -implicitDefEqProofs (disch:=omega) [La,d3]
       unfold r_seat_node_7
       simp -implicitDefEqProofs (disch:=omega) [La,c6,KS.lenL,d4,d4',d4'']
       unfold r_seat_node_6
       simp -implicitDefEqProofs (disch:=omega) [La,c6]
       exact Kf (by rw [ho];simp [d4]) _ rfl
     ·simp -implicitDefEqProofs (disch:=omega) [La,d1',d2]
      unfold r_seat_node_8
      simp -implicitDefEqProofs (disch:=omega) [La,d3]
      unfold r_seat_node_7
      simp -implicitDefEqProofs (disch:=omega) [La]
      unfold r_seat_node_6
      simp -implicitDefEqProofs (disch:=omega) [La]
      exact Kf (by rw [ho];simp [d3]) _ rfl
    ·simp -implicitDefEqProofs (disch:=omega) [La,d1',d2]
     unfold r_seat_node_8
     simp -implicitDefEqProofs (disch:=omega) [La]
     unfold r_seat_node_7
     simp -implicitDefEqProofs (disch:=omega) [La]
     unfold r_seat_node_6
     simp -implicitDefEqProofs (disch:=omega) [La]
     exact Kf (by rw [ho];simp [d2]) _ rfl
   ·have d1':(deep:Int)≥8:=by omega
    simp -implicitDefEqProofs (disch:=omega) [La,d1']
    unfold r_seat_node_8
    simp -implicitDefEqProofs (disch:=omega) [La]
    unfold r_seat_node_7
    simp -implicitDefEqProofs (disch:=omega) [La]
    unfold r_seat_node_6
    simp -implicitDefEqProofs (disch:=omega) [La]
    exact Kf (by rw [ho];simp [d1]) _ rfl
  by_cases c7:x.Kind=7
  ·have ho:R.own x deep=(decide (deep<8) && (decide (x.N=0) && (decide (x.S=[]) && decide (x.Keys.length=x.Parts.length)))):=by unfold R.own;rw [if_neg c123,if_neg c4,if_neg c5,if_neg c6,if_pos c7]
   simp -implicitDefEqProofs (disch:=omega) [c6,c7]
   unfold r_seat_node_19 r_seat_node_9
   by_cases d1:deep<8
   ·have d1':¬ (deep:Int)≥8:=by omega
    by_cases d2:x.N=0
    ·by_cases d3:x.S=[]
     ·by_cases d4:x.Keys.length=x.Parts.length
      ·have d4':(x.Keys.length:Int)=x.Parts.length:=by omega
       simp -implicitDefEqProofs (disch:=omega) [La,d1',d2]
       unfold r_seat_node_8
       simp -implicitDefEqProofs (disch:=omega) [La,d3,c7]
       unfold r_seat_node_7
       simp -implicitDefEqProofs (disch:=omega) [La,c7]
       unfold r_seat_node_6
       simp -implicitDefEqProofs (disch:=omega) [La,c7,KS.lenL,PS.lenL,d4,d4']
       have:=Kp (by omega) (by rw [ho];simp [d1,d2,d3,d4])
       rw [c7] at this
       exact this _ (fun _ _=>rfl) (fun _ _=>rfl)
      ·have d4':¬ (x.Keys.length:Int)=x.Parts.length:=by omega
       simp -implicitDefEqProofs (disch:=omega) [La,d1',d2]
       unfold r_seat_node_8
       simp -implicitDefEqProofs (disch:=omega) [La,d3,c7]
       unfold r_seat_node_7
       simp -implicitDefEqProofs (disch:=omega) [La,c7]
       unfold r_seat_node_6
       simp -implicitDefEqProofs (disch:=omega) [La,c7,KS.lenL,PS.lenL,d4,d4']
       exact Kf (by rw [ho];simp [d4]) _ rfl
     ·simp -implicitDefEqProofs (disch:=omega) [La,d1',d2]
      unfold r_seat_node_8
      simp -implicitDefEqProofs (disch:=omega) [La,d3]
      unfold r_seat_node_7
      simp -implicitDefEqProofs (disch:=omega) [La]
      unfold r_seat_node_6
      simp -implicitDefEqProofs (disch:=omega) [La]
      exact Kf (by rw [ho];simp [d3]) _ rfl
    ·simp -implicitDefEqProofs (disch:=omega) [La,d1',d2]
     unfold r_seat_node_8
     simp -implicitDefEqProofs (disch:=omega) [La]
     unfold r_seat_node_7
     simp -implicitDefEqProofs (disch:=omega) [La]
     unfold r_seat_node_6
     simp -implicitDefEqProofs (disch:=omega) [La]
     exact Kf (by rw [ho];simp [d2]) _ rfl
   ·have d1':(deep:Int)≥8:=by omega
    simp -implicitDefEqProofs (disch:=omega) [La,d1']
    unfold r_seat_node_8
    simp -implicitDefEqProofs (disch:=omega) [La]
    unfold r_seat_node_7
    simp -implicitDefEqProofs (disch:=omega) [La]
    unfold r_seat_node_6
    simp -implicitDefEqProofs (disch:=omega) [La]
    exact Kf (by rw [ho];simp [d1]) _ rfl
  ·have ho:R.own x deep=false:=by unfold R.own;rw [if_neg c123,if_neg c4,if_neg c5,if_neg c6,if_neg c7]
   simp -implicitDefEqProofs (disch:=omega) [c6,c7]
   unfold r_seat_node_19
   simp -implicitDefEqProofs (disch:=omega)
   exact Kf ho _ rfl
end Go.Bvm.JN
set_option linter.unusedVariables false
set_option linter.unusedSimpArgs false
set_option maxRecDepth 20000
namespace Go.Bvm.JN
open Go.Bvm
abbrev Ty_seat:Nat:=Ty_amanuensisref1_seat
namespace R
def keyOk (x:api_Json) (k:Nat):Bool:=P.plain (x.Keys.getD k []) 3000 && !decide (x.Keys.getD k []∈x.Keys.take k)
def partsL (nd:Int→Nat→Option Nat) (x:api_Json) (i:Nat):List Int→Nat→Nat→Option Nat
 | [],_,a=>some a
 | p::r,k,a=>if (0≤p∧p≤(i:Int)-1)∧¬ p<a∧(x.Kind=7→keyOk x k=true) then match nd p a with
  | some a'=>partsL nd x i r (k+1) a'
  | none=>none
  else none
def node (l:List api_Json):Nat→Nat→Nat→Nat→Option Nat
 | 0,_,_,_=>none
 | f+1,i,deep,a=>match l[i]? with
  | none=>none
  | some x=>if own x deep then match partsL (fun p a=>node l f p.toNat (deep+1) a) x i x.Parts 0 a with
   | some a'=>if a'=i then some (a'+1) else none
   | none=>none
   else none
end R
abbrev MS:List Nat:=[kO Ty_seat]
def NdS (m f:Nat) (l:List api_Json) (v:V):Prop:=∀ (c:Nat) (h:H) (q i deep a:Nat) (k:KV),i<l.length→deep≤8→9≤deep+f→a≤1000000→Bk h q 0 0 Ty_seat true true [v,wz a]→c≤q→q<h.next→c≤h.next→Sl (α:=JF) [] h v l→
 (∀ h' a',R.node l f i deep a=some a'→Bk h' q 0 0 Ty_seat true true [v,wz a']→Fz c h.next MS h h'→k (.t true) h'=true)→(∀ h',R.node l f i deep a=none→Fz c h.next MS h h'→k (.t false) h'=true)→run tbl m Nf_r_seat_node (vl [.p q 0 2 0,wz i,wz deep]) h k=true
theorem node_a {l:List api_Json}:∀ {f i deep a a':Nat},R.node l f i deep a=some a'→a'=i+1
 | 0,i,deep,a,a',h=>by simp [R.node] at h
 | f+1,i,deep,a,a',h=>by
  unfold R.node at h
  split at h
  ·simp at h
  ·split at h
   ·split at h
    ·split at h
     ·rename_i e;simp at h;omega
     ·simp at h
    ·simp at h
   ·simp at h
theorem rnode18_w {l:List api_Json} {v:V} {n f:Nat} (ND:NdS (n+2) f l v) {c:Nat} {h:H} {q q2 i deep a:Nat} {x:api_Json} {w1 w2 c1 c2 c4 c5 c7:V} {C:KX} (hx:l[i]?=some x) (hll:l.length≤300) (hd:deep<8) (hdf:9≤deep+f+1) (ha:a≤1000000) (f0:inR x.Kind) (hk7:x.Kind=7→x.Keys.length=x.Parts.length)
  (B:Bk h q2 0 0 Ty_api_Json true true [wz x.Kind,wz x.N,vs x.S,w1,w2]) (WB:Bk h q 0 0 Ty_seat true true [v,wz a]) (q2h:q2<h.next) (qh:q<h.next) (hcq:c≤q) (hch:c≤h.next) (KS:Sl [] h w1 x.Keys) (PS:Sl [] h w2 x.Parts) (L:Sl (α:=JF) [] h v l) (hpb:x.Parts.length≤4096)
  (Kt:∀ h' a' c7',R.partsL (fun p a=>R.node l f p.toNat (deep+1) a) x i x.Parts 0 a=some a'→Bk h' q 0 0 Ty_seat true true [v,wz a']→a'≤1000000→Fz c h.next MS h h'→C X.n (fq c1 c2 q2 c4 c5 deep c7' i q) h'=true)
  (Kf:∀ h' e',R.partsL (fun p a=>R.node l f p.toNat (deep+1) a) x i x.Parts 0 a=none→e'.c0.c0=.t false→Fz c h.next MS h h'→C X.r e' h'=true) :
  r_seat_node_18 (run tbl (n+2)) big (fq c1 c2 q2 c4 c5 deep c7 i q) h C=true:=by
 have hi:i<l.length:=(List.getElem?_eq_some_iff.1 hx).1
 have kb:=KS.bd;have pb:=PS.bd
 have hmB:maxB=140737488355328:=rfl
 unfold r_seat_node_18
 simp -implicitDefEqProofs (disch:=omega)
 refine loop_w (fun m e h'=>∃ (k a':Nat),m=x.Parts.length-k∧k≤x.Parts.length∧a'≤1000000∧e=fq c1 c2 q2 c4 c5 deep (wz k) i q∧Bk h' q 0 0 Ty_seat true true [v,wz a']∧R.partsL (fun p a=>R.node l f p.toNat (deep+1) a) x i (x.Parts.drop k) k a'=R.partsL (fun p a=>R.node l f p.toNat (deep+1) a) x i x.Parts 0 a∧Fz c h.next MS h h') ?_ big x.Parts.length _ _ ⟨0,a,rfl,by omega,ha,rfl,WB,by simp,Fz.refl _ _ _ _⟩ (by unfold big;omega)
 rintro m e h1 ⟨k,a1,rfl,hk,ha1,rfl,WB1,hp,F1⟩ K' Kn Kx Kr
 have n1:=F1.nx
 have B1:=B.fz F1 q2h (by decide)
 have KS1:=KS.fz F1 (Nat.le_refl _) (by decide)
 have PS1:=PS.fz F1 (Nat.le_refl _) (by decide)
 have L1:=L.fz F1 (Nat.le_refl _) (by decide)
 have La:=fun {o m}=>B1.ld (n:=5) rfl (off:=o) (lim:=m)
 have Lw:=fun {o m}=>WB1.ld (n:=2) rfl (off:=o) (lim:=m)
 unfold r_seat_node_10
 by_cases hk2:k<x.Parts.length
 ·have hk3:(k:Int)<x.Parts.length:=by omega
  obtain ⟨hin,b1,b2⟩:=at_Int PS1 hk2
  have hdr:x.Parts.drop k=x.Parts[k]::x.Parts.drop (k+1):=List.drop_eq_getElem_cons hk2
  obtain ⟨p,hpe⟩ : ∃ p,p=x.Parts[k]:=⟨_,rfl⟩
  rw [← hpe] at hin b2 hdr
  rw [hdr,R.partsL] at hp
  have bad:R.partsL (fun p a=>R.node l f p.toNat (deep+1) a) x i x.Parts 0 a=none→K' X.r (fq c1 c2 q2 c4 c5 deep (wz k) i q) h1=true:=fun e=>Kr _ _ (Kf _ _ e rfl F1)
  unfold r_seat_node_16
  simp -implicitDefEqProofs (disch:=omega) [La,PS1.lenL,hk3,b1,b2]
  rw [Num_eq hin (by unfold inR;omega)]
  by_cases A:0≤p∧p≤(i:Int)-1
  ·have ep:(wz p:V)=wz ((p.toNat:Nat):Int):=by rw [Int.toNat_of_nonneg A.1]
   have ed:(wz ((deep:Int)+1):V)=wz ((deep+1:Nat):Int):=by congr 1
   by_cases b:p<a1
   ·rw [if_neg (fun q=>q.2.1 b)] at hp
    unfold r_seat_node_15
    simp -implicitDefEqProofs (disch:=omega) [A,nots,La,Lw,b1,b2,b]
    unfold r_seat_node_14
    simp -implicitDefEqProofs (disch:=omega)
    unfold r_seat_node_13
    simp -implicitDefEqProofs (disch:=omega)
    unfold r_seat_node_12
    simp -implicitDefEqProofs (disch:=omega)
    unfold r_seat_node_11
    simp -implicitDefEqProofs (disch:=omega)
    exact bad hp.symm
   ·-- the part itself
    have rcn:(x.Kind=7→R.keyOk x k=true)→run tbl (n+2) Nf_r_seat_node (vl [.p q 0 2 0,wz p,wz ((deep:Int)+1)]) h1 (fun v511 h512=>notV v511 fun v517=>condV v517 (K' X.r (fq c1 c2 q2 c4 c5 deep (wz k) i q) h512) (r_seat_node_17 (run tbl (n+2)) big (fq c1 c2 q2 c4 c5 deep (wz k) i q) h512 K'))=true:=by
     intro hok
     rw [if_pos ⟨A,b,hok⟩] at hp
     rw [ep,ed]
     refine ND c h1 q _ _ a1 _ (by omega) (by omega) (by omega) ha1 WB1 hcq (by omega) (by omega) L1 (fun h2 a2 e2 WB2 F2=>?_) (fun h2 e2 F2=>?_)
     ·rw [e2] at hp
      have:=node_a e2
      unfold r_seat_node_17
      simp -implicitDefEqProofs (disch:=omega) [nots]
      exact Kn _ _ _ (by omega) ⟨k+1,a2,rfl,by omega,by omega,by simp,WB2,hp,F1.trans F2 (Nat.le_refl _) n1 (fun _ k=>k)⟩
     ·rw [e2] at hp
      simp -implicitDefEqProofs (disch:=omega) [nots]
      exact Kr _ _ (Kf _ _ hp.symm rfl (F1.trans F2 (Nat.le_refl _) n1 (fun _ k=>k)))
    unfold r_seat_node_15
    simp -implicitDefEqProofs (disch:=omega) [A,nots,La,Lw,b1,b2,b]
    unfold r_seat_node_14
    by_cases c7:x.Kind=7
    ·have hkl:k<x.Keys.length:=by rw [hk7 c7];exact hk2
     obtain ⟨hb,d1,d2⟩:=at_Str KS1 hkl
     have eg:x.Keys.getD k []=x.Keys[k]:=by rw [List.getD_eq_getElem?_getD,List.getElem?_eq_getElem hkl];rfl
     have eok:R.keyOk x k=(P.plain x.Keys[k] 3000 && !decide (x.Keys[k]∈x.Keys.take k)):=by unfold R.keyOk;rw [eg]
     simp -implicitDefEqProofs (disch:=omega) [La,c7,d1,d2]
     unfold r_seat_node_13
     simp -implicitDefEqProofs (disch:=omega) [La,c7,d1,d2]
     refine rString_w (n:=n+1) hb ?_
     cases hpl:P.plain x.Keys[k] 3000 with
     | false=>
      rw [if_neg (fun q=>by have:=q.2.2 c7;rw [eok,hpl] at this;simp at this)] at hp
      simp -implicitDefEqProofs (disch:=omega) [nots]
      unfold r_seat_node_12
      simp -implicitDefEqProofs (disch:=omega)
      unfold r_seat_node_11
      simp -implicitDefEqProofs (disch:=omega)
      exact bad hp.symm
     | true=>
      simp -implicitDefEqProofs (disch:=omega) [nots,La,d1,d2]
      unfold r_seat_node_12
      simp -implicitDefEqProofs (disch:=omega) [La,d1,d2]
      refine Sl.take_w KS1 (show k≤x.Keys.length by omega) fun w TK=>?_
      refine Has_w (n:=n+1) TK (by simp;omega) ?_
      by_cases hm:x.Keys[k]∈x.Keys.take k
      ·rw [if_neg (fun q=>by have:=q.2.2 c7;rw [eok,hpl] at this;simp [hm] at this)] at hp
       simp -implicitDefEqProofs (disch:=omega) [hm]
       unfold r_seat_node_11
       simp -implicitDefEqProofs (disch:=omega)
       exact bad hp.symm
      ·simp -implicitDefEqProofs (disch:=omega) [hm,La]
       unfold r_seat_node_11
       simp -implicitDefEqProofs (disch:=omega) [La,b1,b2]
       exact rcn (fun _=>by rw [eok,hpl];simp [hm])
    ·simp -implicitDefEqProofs (disch:=omega) [La,c7]
     unfold r_seat_node_13
     simp -implicitDefEqProofs (disch:=omega)
     unfold r_seat_node_12
     simp -implicitDefEqProofs (disch:=omega) [La]
     unfold r_seat_node_11
     simp -implicitDefEqProofs (disch:=omega) [La,b1,b2]
     exact rcn (fun e=>absurd e c7)
  ·rw [if_neg (fun q=>A q.1)] at hp
   unfold r_seat_node_15
   simp -implicitDefEqProofs (disch:=omega) [A,nots]
   unfold r_seat_node_14
   simp -implicitDefEqProofs (disch:=omega)
   unfold r_seat_node_13
   simp -implicitDefEqProofs (disch:=omega)
   unfold r_seat_node_12
   simp -implicitDefEqProofs (disch:=omega)
   unfold r_seat_node_11
   simp -implicitDefEqProofs (disch:=omega)
   exact bad hp.symm
 ·have hk3:¬ (k:Int)<x.Parts.length:=by omega
  have:k=x.Parts.length:=by omega
  subst this
  rw [List.drop_eq_nil_of_le (Nat.le_refl _),R.partsL] at hp
  simp -implicitDefEqProofs (disch:=omega) [La,PS1.lenL]
  refine Kx _ _ _ ?_
  simp -implicitDefEqProofs (disch:=omega)
  exact Kt _ _ _ hp.symm WB1 ha1 F1
end Go.Bvm.JN
set_option linter.unusedVariables false
set_option linter.unusedSimpArgs false
set_option maxRecDepth 20000
namespace Go.Bvm.JN
open Go.Bvm
theorem rnode_w {l:List api_Json} {n:Nat} {v:V} (hll:l.length≤300) (hB:∀ x∈l,x.Keys.length≤1000000∧x.Parts.length≤4096):∀ f,NdS (n+f+3) f l v
 | 0=>fun c h q i deep a k hi hd hdf=>absurd hdf (by omega)
 | f+1=>by
  intro c h q i deep a k hi hd hdf ha WB hcq qh hch L Kt Kf
  have hx:=List.getElem?_eq_getElem hi
  have hpb:=hB _ (List.getElem_mem hi)
  rw [show n+(f+1)+3=(n+f+3)+1 by omega,run_succ,tbl_r_seat_node]
  unfold T_r_seat_node r_seat_node_25
  obtain ⟨cs,E,a1,a2,a3⟩:=L.at (i:=(i:Int)) (Int.natCast_nonneg i) (getE? (show (i:Int).toNat<l.length from hi))
  have a1':∀ k,iadV 5 v (wz (i:Int)) k=k (pel v (i:Int) 0):=a1
  have E':∃ w1 w2,cs=[wz l[i].Kind,wz l[i].N,vs l[i].S,w1,w2]∧inR l[i].Kind∧inR l[i].N∧l[i].S.length≤maxB∧Sl [] h w1 l[i].Keys∧Sl [] h w2 l[i].Parts:=E
  obtain ⟨w1,w2,rfl,f0,f1,f2,f3,f4⟩:=E'
  have a3':∀ k,lda 5 (pel v (i:Int) 0) h k=k (.x .agg (vl [wz l[i].Kind,wz l[i].N,vs l[i].S,w1,w2]) V.nil):=fun k=>a3 0 5 k (by decide)
  have Lw:=fun {o m}=>WB.ld (n:=2) rfl (off:=o) (lim:=m)
  simp -implicitDefEqProofs (disch:=omega) [Lw,a1',a3']
  refine newA_w rfl (by decide) (by decide) fun h2 n2 B2 x2=>?_
  have hn2:h2.next=h.next+1:=n2
  refine sta_w B2 rfl (by simp) (by simp) fun h3 n3 B3 x3=>?_
  have B3:Bk h3 h.next 0 0 Ty_api_Json true true [wz l[i].Kind,wz l[i].N,vs l[i].S,w1,w2]:=B3
  have E3:Ex h h3:=⟨by omega,fun j hj=>(x3.2 j (by omega)).trans (x2.2 j (by omega)),fun j hj _=>(x3.2 j (by omega)).trans (x2.2 j (by omega))⟩
  have F3:Fz c h.next MS h h3:=⟨E3.nx,fun j hj=>E3.lo j (by omega),fun j hj _=>E3.lo j hj⟩
  have WB3:=WB.fz E3 qh (by simp)
  have L3:=L.fz E3 (Nat.le_refl _) (by simp)
  have KS3:=f3.fz E3 (Nat.le_refl _) (by simp)
  have PS3:=f4.fz E3 (Nat.le_refl _) (by simp)
  have La:=fun {o m}=>B3.ld (n:=5) rfl (off:=o) (lim:=m)
  have hN:R.node l (f+1) i deep a=if R.own l[i] deep then match R.partsL (fun p a=>R.node l f p.toNat (deep+1) a) l[i] i l[i].Parts 0 a with
   | some a'=>if a'=i then some (a'+1) else none
   | none=>none
   else none:=by rw [R.node,hx] <;> rfl
  generalize hxx:l[i]=x at *
  have kb:=KS3.bd
  have hmB:maxB=140737488355328:=rfl
  have lK:(x.Keys=[])=((x.Keys.length:Int)=0):=by apply propext;constructor;intro e;rw [e];rfl;intro e;exact List.eq_nil_of_length_eq_zero (by omega)
  have tail:∀ h4 a4 c1 c4 c5 c7,R.own x deep=true→R.partsL (fun p a=>R.node l f p.toNat (deep+1) a) x i x.Parts 0 a=some a4→Bk h4 q 0 0 Ty_seat true true [v,wz a4]→a4≤1000000→Fz c h.next MS h h4→
    seqM (r_seat_node_22 (run tbl (n+f+3)) big) (r_seat_node_23 (run tbl (n+f+3)) big) (fq c1 (.t (R.plain0 x)) h.next c4 c5 deep c7 i q) h4 (fun x e h=>finK (fun e h k=>k e.c0.c0) k x e h)=true:=by
   intro h4 a4 c1 c4 c5 c7 ho hp WB4 ha4 F4
   rw [if_pos ho,hp] at hN
   dsimp only at hN
   have Lw:=fun {o m}=>WB4.ld (n:=2) rfl (off:=o) (lim:=m)
   unfold r_seat_node_22
   by_cases e:a4=i
   ·rw [if_pos e] at hN
    have e':(a4:Int)=i:=by omega
    simp -implicitDefEqProofs (disch:=omega) [Lw,e,e']
    unfold r_seat_node_23
    simp -implicitDefEqProofs (disch:=omega) [Lw,e,e']
    refine st_w WB4 (by simp) (by simp) rfl fun h5 n5 WB5 x5=>?_
    have F5:Fz c h.next MS h h5:=F4.put x5 hcq (.inr (by rw [WB4.kd];decide))
    have WB5:Bk h5 q 0 0 Ty_seat true true [v,wz ((i:Int)+1)]:=WB5
    rw [e] at hN
    exact Kt h5 (i+1) hN (by simpa using WB5) F5
   ·rw [if_neg e] at hN
    have e':¬ (a4:Int)=i:=by omega
    simp -implicitDefEqProofs (disch:=omega) [Lw,e,e']
    exact Kf h4 hN F4
  have fls:R.own x deep=false→k (V.t false) h3=true:=fun ho=>Kf h3 (by rw [hN,ho];rfl) F3
  have main:seqM (r_seat_node_21 (run tbl (n+f+3)) big (.p h.next 0 5 0)) (seqM (r_seat_node_22 (run tbl (n+f+3)) big) (r_seat_node_23 (run tbl (n+f+3)) big)) (fq V.u (.t (R.plain0 x)) h.next V.u V.u deep V.u i q) h3 (fun x e h=>finK (fun e h k=>k e.c0.c0) k x e h)=true:=by
   show r_seat_node_21 (run tbl (n+f+3)) big (.p h.next 0 5 0) (fq V.u (.t (R.plain0 x)) h.next V.u V.u deep V.u i q) h3 _=true
   refine rnode21_w (n:=n+f+1) f0 f1 f2 B3 KS3 PS3 (by omega) (fun h6 ho c1 c5=>?_) (fun ho e' he=>?_) (fun h6 ho C hC1 hC2=>?_)
   ·have hp:x.Parts=[]:=by
     unfold R.own at ho
     split at ho
     ·simp at ho;exact ho.2.2.2
     ·split at ho
      ·simp at ho;exact ho.2.2.1
      ·split at ho
       ·simp at ho;exact ho.2.2.1
       ·split at ho
        ·omega
        ·split at ho
         ·omega
         ·simp at ho
    exact tail h3 a c1 _ c5 _ ho (by rw [hp,R.partsL]) WB3 ha F3
   ·show k e'.c0.c0 h3=true
    rw [he]
    exact fls ho
   ·have hd8:deep<8:=by
     unfold R.own at ho
     split at ho
     ·omega
     ·split at ho
      ·omega
      ·split at ho
       ·omega
       ·split at ho
        ·simp at ho;exact ho.1
        ·split at ho
         ·simp at ho;exact ho.1
         ·simp at ho
    have hk7:x.Kind=7→x.Keys.length=x.Parts.length:=fun c7=>by
     unfold R.own at ho
     rw [if_neg (by omega),if_neg (by omega),if_neg (by omega),if_neg (by omega),if_pos c7] at ho
     simp at ho
     exact ho.2.2.2
    have ND:NdS (n+f+1+2) f l v:=by rw [show n+f+1+2=n+f+3 by omega];exact rnode_w hll hB f
    refine rnode18_w (n:=n+f+1) ND (x:=x) (by rw [hx,← hxx]) hll hd8 (by omega) ha f0 hk7 B3 WB3 (by omega) (by omega) hcq (by omega) KS3 PS3 L3 hpb.2 (fun h4 a4 c7' hp WB4 ha4 F4=>?_) (fun h4 e4 hp he F4=>?_)
    ·rw [hC1]
     exact tail h4 a4 _ _ _ _ ho hp WB4 ha4 (F3.trans F4 (Nat.le_refl _) E3.nx (fun _ k=>k))
    ·rw [hC2]
     show k e4.c0.c0 h4=true
     rw [he]
     exact Kf h4 (by rw [hN,if_pos ho,hp]) (F3.trans F4 (Nat.le_refl _) E3.nx (fun _ k=>k))
  unfold r_seat_node_24
  by_cases d1:x.N=0
  ·by_cases d2:x.S=[]
   ·by_cases d3:x.Keys=[]
    ·have hp0:R.plain0 x=true:=by unfold R.plain0;simp [d1,d2,d3]
     rw [hp0] at main
     simp -implicitDefEqProofs (disch:=omega) [La,d1,d2,KS3.lenL,d3]
     exact main
    ·have hp0:R.plain0 x=false:=by unfold R.plain0;simp [d3]
     have d3':¬ (x.Keys.length:Int)=0:=by rw [← lK];exact d3
     rw [hp0] at main
     simp -implicitDefEqProofs (disch:=omega) [La,d1,d2,KS3.lenL,d3,d3']
     exact main
   ·have hp0:R.plain0 x=false:=by unfold R.plain0;simp [d2]
    rw [hp0] at main
    simp -implicitDefEqProofs (disch:=omega) [La,d1,d2]
    exact main
  ·have hp0:R.plain0 x=false:=by unfold R.plain0;simp [d1]
   rw [hp0] at main
   simp -implicitDefEqProofs (disch:=omega) [La,d1]
   exact main
namespace R
def May (l:List api_Json):Bool:=decide (1≤l.length∧l.length≤300) && (node l 9 (l.length-1) 0 0).isSome
end R
theorem rMay_w {h:H} {v:V} {l:List api_Json} {k:KV} {n:Nat} (L:Sl (α:=JF) [] h v l) (hB:∀ x∈l,x.Keys.length≤1000000∧x.Parts.length≤4096) (K:∀ h',Ex h h'→k (.t (R.May l)) h'=true):run tbl (n+13) Nf_r_May (vl [v]) h k=true:=by
 have hbd:=L.bd
 have hbd:l.length≤maxB:=hbd
 have hmB:maxB=140737488355328:=rfl
 have ll:∀ k,Go.Bvm.lenL v k=k (wz (l.length:Int)):=L.lenL
 rw [run_succ,tbl_r_May]
 unfold T_r_May r_May_2 r_May_0
 simp -implicitDefEqProofs (disch:=omega) [ll]
 rw [Between_eq (by unfold inR;omega) (by unfold inR;omega) (by unfold inR;omega)]
 by_cases c:1≤l.length∧l.length≤300
 ·have c':1≤(l.length:Int)∧(l.length:Int)≤300:=by omega
  rw [decide_eq_true c']
  simp -implicitDefEqProofs (disch:=omega) [nots]
  unfold r_May_1
  have hpt:∀ k,part 0 true 1 v (vl [slnil,wz 0]) k=k (vl [v,wz 0]):=fun k=>part_one 0 v [slnil,wz 0] L.one (by simp) k
  simp -implicitDefEqProofs (disch:=omega) [hpt]
  refine newA_w rfl (by decide) (by decide) fun h1 n1 B1 x1=>?_
  have hn1:h1.next=h.next+1:=n1
  have E1:Ex h h1:=x1.ex (Nat.le_refl _)
  have el:(wz ((l.length:Int)-1):V)=wz ((l.length-1:Nat):Int):=by congr 1;omega
  simp -implicitDefEqProofs (disch:=omega) [ll]
  rw [el]
  have ex:∀ h',Fz h.next h1.next MS h1 h'→Ex h h':=fun h' F=>⟨by have:=F.nx;omega,fun j hj=>(F.lo j hj).trans (E1.lo j hj),fun j hj _=>(F.lo j hj).trans (E1.lo j hj)⟩
  refine rnode_w (n:=n) c.2 hB 9 h.next h1 h.next _ 0 0 _ (by omega) (by omega) (by omega) (by omega) B1 (Nat.le_refl _) (by omega) (by omega) (L.fz E1 (Nat.le_refl _) (by simp)) (fun h2 a2 e2 _ F2=>?_) (fun h2 e2 F2=>?_)
  ·have:=K h2 (ex h2 F2)
   unfold R.May at this
   rw [decide_eq_true c,e2] at this
   exact this
  ·have:=K h2 (ex h2 F2)
   unfold R.May at this
   rw [decide_eq_true c,e2] at this
   exact this
 ·have c':¬ (1≤(l.length:Int)∧(l.length:Int)≤300):=by omega
  rw [decide_eq_false c']
  simp -implicitDefEqProofs (disch:=omega) [nots]
  have:=K h (Fz.refl _ _ _ _)
  unfold R.May at this
  rw [decide_eq_false c] at this
  exact this
end Go.Bvm.JN
set_option linter.unusedVariables false
set_option linter.unusedSimpArgs false
set_option maxRecDepth 20000
namespace Go.Bvm.JN
open Go.Bvm
namespace R
def hit (x:api_Json) (s:Str) (k:Nat):Bool:=(decide (x.Kind=7) && decide (x.Keys.getD k []=s)) || (decide (x.Kind=6) && decide (Lib.itoa k=s))
def next (x:api_Json) (s:Str):Nat→Int
 | 0=>-1
 | k+1=>if hit x s k=true then x.Parts.getD k 0 else next x s k
def get (l:List api_Json):List Str→Nat→Int
 | [],at_=>at_
 | s::r,at_=>match l[at_]? with
  | none=>-1
  | some x=>if next x s x.Parts.length<0 then -1 else get l r (next x s x.Parts.length).toNat
theorem next_or (x:api_Json) (s:Str):∀ k,k≤x.Parts.length→next x s k=-1∨next x s k∈x.Parts
 | 0,_=>.inl rfl
 | k+1,h=>by
  unfold next
  split
  ·right
   rw [List.getD_eq_getElem?_getD,List.getElem?_eq_getElem (by omega)]
   exact List.getElem_mem _
  ·exact next_or x s k (by omega)
end R
noncomputable abbrev fg (i:Nat) (pv v:V) (a k:V) (q:Nat) (nx:V):L8:=f8 (wz 0) (wz i) pv v a k (.p q 0 5 0) nx
theorem rGet_loop {h:H} {i q:Nat} {pv v a k0 w1 w2:V} {x:api_Json} {path:List Str} {K:KX} {n:Nat} (f0:inR x.Kind) (B:Bk h q 0 0 Ty_api_Json true true [wz x.Kind,wz x.N,vs x.S,w1,w2]) (KS:Sl [] h w1 x.Keys) (PS:Sl [] h w2 x.Parts) (PA:Sl [] h pv path) (hi:i<path.length) (p:Pin h) (hk7:x.Kind=7→x.Keys.length=x.Parts.length) (hpb:x.Parts.length≤4096)
  (Kf:∀ k',K X.n (fg i pv v a k' q (wz (R.next x path[i] x.Parts.length))) h=true):r_Get_6 (run tbl (n+1)) big (fg i pv v a k0 q (wz (-1))) h K=true:=by
 have La:=fun {o m}=>B.ld (n:=5) rfl (off:=o) (lim:=m)
 unfold r_Get_6
 simp -implicitDefEqProofs (disch:=omega)
 refine loop_w (fun m e h'=>∃ (k:Nat),m=x.Parts.length-k∧k≤x.Parts.length∧e=fg i pv v a (wz k) q (wz (R.next x path[i] k))∧h'=h) ?_ big x.Parts.length _ _ ⟨0,rfl,by omega,rfl,rfl⟩ (by unfold big;omega)
 rintro m e h' ⟨k,rfl,hk,rfl,rfl⟩ K' Kn Kx Kr
 unfold r_Get_1
 by_cases hk2:k<x.Parts.length
 ·have hk3:(k:Int)<x.Parts.length:=by omega
  obtain ⟨hin,b1,b2⟩:=at_Int PS hk2
  obtain ⟨_,p1,p2⟩:=at_Str PA hi
  have eg:x.Parts.getD k 0=x.Parts[k]:=by rw [List.getD_eq_getElem?_getD,List.getElem?_eq_getElem hk2];rfl
  have yes:R.hit x path[i] k=true→K' X.n (fg i pv v a (wz ((k:Int)+1)) q (wz x.Parts[k])) h'=true:=fun e=>Kn _ _ _ (by omega) ⟨k+1,rfl,by omega,by rw [R.next,if_pos e,eg];simp,rfl⟩
  have no:R.hit x path[i] k=false→K' X.n (fg i pv v a (wz ((k:Int)+1)) q (wz (R.next x path[i] k))) h'=true:=fun e=>Kn _ _ _ (by omega) ⟨k+1,rfl,by omega,by rw [R.next,e];simp,rfl⟩
  unfold r_Get_4
  by_cases c7:x.Kind=7
  ·have hkl:k<x.Keys.length:=by rw [hk7 c7];exact hk2
   obtain ⟨_,d1,d2⟩:=at_Str KS hkl
   have ek:x.Keys.getD k []=x.Keys[k]:=by rw [List.getD_eq_getElem?_getD,List.getElem?_eq_getElem hkl];rfl
   simp -implicitDefEqProofs (disch:=omega) [La,PS.lenL,hk3,c7,d1,d2]
   unfold r_Get_3
   by_cases e:x.Keys[k]=path[i]
   ·simp -implicitDefEqProofs (disch:=omega) [p1,p2,e]
    unfold r_Get_2
    simp -implicitDefEqProofs (disch:=omega) [p1,p2,eqV_vs,La,b1,b2]
    unfold r_Get_5
    simp -implicitDefEqProofs (disch:=omega)
    exact yes (by unfold R.hit;rw [ek,e];simp [c7])
   ·simp -implicitDefEqProofs (disch:=omega) [p1,p2,e,La,c7]
    unfold r_Get_2
    simp -implicitDefEqProofs (disch:=omega) [p1,p2,eqV_vs,La,b1,b2]
    unfold r_Get_5
    simp -implicitDefEqProofs (disch:=omega)
    exact no (by unfold R.hit;rw [ek];simp [c7,e])
  ·simp -implicitDefEqProofs (disch:=omega) [La,PS.lenL,hk3,c7]
   unfold r_Get_3
   by_cases c6:x.Kind=6
   ·simp -implicitDefEqProofs (disch:=omega) [La,c6]
    unfold r_Get_2
    simp -implicitDefEqProofs (disch:=omega) [p1,p2]
    rw [Itoa_eq p (by unfold inR;omega)]
    by_cases e:Lib.itoa (k:Int)=path[i]
    ·simp -implicitDefEqProofs (disch:=omega) [p1,p2,eqV_vs,e,La,b1,b2]
     unfold r_Get_5
     simp -implicitDefEqProofs (disch:=omega)
     exact yes (by unfold R.hit;simp [c6,e])
    ·simp -implicitDefEqProofs (disch:=omega) [p1,p2,eqV_vs,e,La,b1,b2]
     unfold r_Get_5
     simp -implicitDefEqProofs (disch:=omega)
     exact no (by unfold R.hit;simp [c6,e])
   ·simp -implicitDefEqProofs (disch:=omega) [La,c6]
    unfold r_Get_2
    simp -implicitDefEqProofs (disch:=omega) [p1,p2,eqV_vs,La]
    unfold r_Get_5
    simp -implicitDefEqProofs (disch:=omega)
    exact no (by unfold R.hit;simp [c6,c7])
 ·have hk3:¬ (k:Int)<x.Parts.length:=by omega
  have:k=x.Parts.length:=by omega
  subst this
  simp -implicitDefEqProofs (disch:=omega) [La,PS.lenL]
  refine Kx _ _ _ ?_
  simp -implicitDefEqProofs (disch:=omega)
  exact Kf _
theorem rGet_w {l:List api_Json} {all:List Shp} (O:P.Ok l all) (hl1:1≤l.length) (hll:l.length≤300) {n:Nat} {h:H} {v pv:V} {path:List Str} {k:KV} (L:Sl (α:=JF) [] h v l) (PA:Sl [] h pv path) (hpl:path.length≤1000000) (hB:∀ x∈l,x.Keys.length≤1000000∧x.Parts.length≤4096) (p:Pin h) (ph:Pg<h.next)
  (K:∀ h',Ex h h'→k (wz (R.get l path (l.length-1))) h'=true):run tbl (n+2) Nf_r_Get (vl [v,pv]) h k=true:=by
 have ll:∀ k,Go.Bvm.lenL v k=k (wz (l.length:Int)):=L.lenL
 have el:(wz ((l.length:Int)-1):V)=wz ((l.length-1:Nat):Int):=by congr 1;omega
 rw [run_succ,tbl_r_Get]
 unfold T_r_Get r_Get_13 r_Get_11
 simp -implicitDefEqProofs (disch:=omega) [ll]
 rw [el]
 refine loop_w (fun m e h'=>∃ (i a:Nat) (c5 c6 c7:V),m=path.length-i∧i≤path.length∧a<l.length∧e=f8 (wz 0) (wz i) pv v (wz a) c5 c6 c7∧R.get l (path.drop i) a=R.get l path (l.length-1)∧Ex h h') ?_ big path.length _ _ ⟨0,l.length-1,V.u,V.u,V.u,rfl,by omega,by omega,rfl,by simp,Fz.refl _ _ _ _⟩ (by unfold big;omega)
 rintro m e h1 ⟨i,a,c5,c6,c7,rfl,hi,ha,rfl,hg,F1⟩ K' Kn Kx Kr
 have n1:=F1.nx
 have PA1:=PA.fz F1 (Nat.le_refl _) (by simp)
 have L1:=L.fz F1 (Nat.le_refl _) (by simp)
 unfold r_Get_0
 by_cases hi2:i<path.length
 ·have hi3:(i:Int)<path.length:=by omega
  have hx:=List.getElem?_eq_getElem ha
  obtain ⟨y,hy,p1,p0,p2,p3,p4,p5,p6,p7⟩:=O.part hx
  have hb:=hB _ (List.getElem_mem ha)
  obtain ⟨cs,E,a1,a2,a3⟩:=L1.at (i:=(a:Int)) (Int.natCast_nonneg a) (getE? (show (a:Int).toNat<l.length from ha))
  have a1':∀ k,iadV 5 v (wz (a:Int)) k=k (pel v (a:Int) 0):=a1
  have E':∃ w1 w2,cs=[wz l[a].Kind,wz l[a].N,vs l[a].S,w1,w2]∧inR l[a].Kind∧inR l[a].N∧l[a].S.length≤maxB∧Sl [] h1 w1 l[a].Keys∧Sl [] h1 w2 l[a].Parts:=E
  obtain ⟨w1,w2,rfl,f0,f1,f2,f3,f4⟩:=E'
  have a3':∀ k,lda 5 (pel v (a:Int) 0) h1 k=k (.x .agg (vl [wz l[a].Kind,wz l[a].N,vs l[a].S,w1,w2]) V.nil):=fun k=>a3 0 5 k (by decide)
  have hdr:path.drop i=path[i]::path.drop (i+1):=List.drop_eq_getElem_cons hi2
  rw [hdr,R.get,hx] at hg
  dsimp only at hg
  unfold r_Get_9
  simp -implicitDefEqProofs (disch:=omega) [PA1.lenL,hi3,a1',a3']
  refine newA_w rfl (by decide) (by decide) fun h2 n2 B2 x2=>?_
  have hn2:h2.next=h1.next+1:=n2
  refine sta_w B2 rfl (by simp) (by simp) fun h3 n3 B3 x3=>?_
  have B3:Bk h3 h1.next 0 0 Ty_api_Json true true [wz l[a].Kind,wz l[a].N,vs l[a].S,w1,w2]:=B3
  have E3:Ex h1 h3:=⟨by omega,fun j hj=>(x3.2 j (by omega)).trans (x2.2 j (by omega)),fun j hj _=>(x3.2 j (by omega)).trans (x2.2 j (by omega))⟩
  have F3:=F1.loc E3 n1 n1
  refine rGet_loop (n:=n) (k0:=c5) f0 B3 (f3.fz E3 (Nat.le_refl _) (by simp)) (f4.fz E3 (Nat.le_refl _) (by simp)) (PA1.fz E3 (Nat.le_refl _) (by simp)) hi2 (p.fz F3 ph (by decide)) (fun c7=>(p2 c7).1) hb.2 fun k'=>?_
  have hor:=R.next_or l[a] path[i] _ (Nat.le_refl _)
  have hbd:-1≤R.next l[a] path[i] l[a].Parts.length∧R.next l[a] path[i] l[a].Parts.length≤300:=by
   rcases hor with q | q
   ·omega
   ·obtain ⟨q1,q2,_⟩:=p6 _ q;omega
  unfold r_Get_7
  by_cases hn:R.next l[a] path[i] l[a].Parts.length<0
  ·rw [if_pos hn] at hg
   simp -implicitDefEqProofs (disch:=omega) [hn]
   refine Kr _ _ ?_
   have:=K h3 F3
   rw [← hg] at this
   exact this
  ·rw [if_neg hn] at hg
   obtain ⟨q1,q2,_⟩:=p6 _ (hor.resolve_left (by omega))
   simp -implicitDefEqProofs (disch:=omega) [hn]
   unfold r_Get_8 r_Get_10
   simp -implicitDefEqProofs (disch:=omega)
   exact Kn _ _ _ (by omega) ⟨i+1,(R.next l[a] path[i] l[a].Parts.length).toNat,k',.p h1.next 0 5 0,wz (R.next l[a] path[i] l[a].Parts.length),rfl,by omega,by omega,by rw [Int.toNat_of_nonneg q1];simp,hg,F3⟩
 ·have hi3:¬ (i:Int)<path.length:=by omega
  simp -implicitDefEqProofs (disch:=omega) [PA1.lenL,hi3]
  refine Kx _ _ _ ?_
  unfold r_Get_12
  simp -implicitDefEqProofs (disch:=omega)
  rw [List.drop_eq_nil_of_le (by omega),R.get] at hg
  have:=K h1 F1
  rw [← hg] at this
  exact this
end Go.Bvm.JN
set_option linter.unusedVariables false
set_option linter.unusedSimpArgs false
set_option maxRecDepth 20000
namespace Go.Bvm.JN
open Go.Bvm
namespace R
theorem partsL_app (nd:Int→Nat→Option Nat) (x:api_Json) (i:Nat):∀ (u v:List Int) (k a:Nat),partsL nd x i (u++v) k a=(partsL nd x i u k a).bind fun a'=>partsL nd x i v (k+u.length) a'
 | [],v,k,a=>by simp [partsL]
 | p::u,v,k,a=>by
  rw [List.cons_append,partsL,partsL]
  split
  ·cases nd p a with
   | none=>rfl
   | some a'=>
    dsimp only
    rw [partsL_app nd x i u v (k+1) a',List.length_cons,show k+1+u.length=k+(u.length+1) by omega]
  ·rfl
end R
namespace P
theorem rev_ind {α:Type} {p:List α→Prop} (h0:p []) (h1:∀ l a,p l→p (l++[a])):∀ (n:Nat) (l:List α),l.length=n→p l
 | 0,l,e=>by rw [List.eq_nil_of_length_eq_zero e];exact h0
 | n+1,l,e=>by
  have hl:l≠[]:=by rintro rfl;simp at e
  rw [← List.dropLast_concat_getLast hl]
  exact h1 _ _ (rev_ind h0 h1 n _ (by simp;omega))
theorem parts_fwd {all:List Shp} (G:Good all) {i:Nat} {x:api_Json} {nd:Int→Nat→Option Nat}:∀ (ps:List Int) (k sz dp s d:Nat),shGo all i ps.reverse sz dp=some (s,d)→1≤sz→sz≤i+1→
  (∀ p∈ps,∀ y,all[p.toNat]?=some y→y.deep≤d→nd p (p.toNat+1-y.size)=some (p.toNat+1))→(x.Kind=7→∀ j,j<k+ps.length→R.keyOk x j=true)→s≤i+1∧R.partsL nd x i ps k (i+1-s)=some (i+1-sz):=by
 intro ps
 refine rev_ind (p:=fun ps=>∀ (k sz dp s d:Nat),shGo all i ps.reverse sz dp=some (s,d)→1≤sz→sz≤i+1→(∀ p∈ps,∀ y,all[p.toNat]?=some y→y.deep≤d→nd p (p.toNat+1-y.size)=some (p.toNat+1))→(x.Kind=7→∀ j,j<k+ps.length→R.keyOk x j=true)→s≤i+1∧R.partsL nd x i ps k (i+1-s)=some (i+1-sz)) ?_ ?_ _ ps rfl
 ·intro k sz dp s d h h1 h2 _ _
  simp [shGo] at h
  refine ⟨by omega,?_⟩
  rw [R.partsL,h.1]
 ·intro qs p ih k sz dp s d h h1 h2 hnd hk
  rw [List.reverse_append,List.reverse_singleton,List.singleton_append,shGo] at h
  split at h
  ·rename_i hp
   cases hy:all[p.toNat]? with
   | none=>rw [hy] at h;simp at h
   | some y=>
    rw [hy] at h
    dsimp only at h
    have gy:=G _ y hy
    have hpn:p.toNat+sz=i:=by omega
    have hle:=(shGo_sum _ _ _ _ _ h (by omega)).1
    obtain ⟨q1,q2⟩:=ih k (sz+y.size) (max dp y.deep) s d h (by omega) (by omega) (fun p' hp'=>hnd p' (List.mem_append_left _ hp')) (fun c7 j hj=>hk c7 j (by simp;omega))
    refine ⟨q1,?_⟩
    rw [R.partsL_app,q2,Option.bind_some,R.partsL]
    have c1:(0≤p∧p≤(i:Int)-1)∧¬ p<((i+1-(sz+y.size):Nat):Int)∧(x.Kind=7→R.keyOk x (k+qs.length)=true):=⟨⟨hp.1,by omega⟩,by omega,fun c7=>hk c7 _ (by simp)⟩
    rw [if_pos c1,show i+1-(sz+y.size)=p.toNat+1-y.size by omega,hnd p (by simp) y hy (by omega)]
    dsimp only
    rw [R.partsL]
    congr 1;omega
  ·simp at h
theorem own_of {x:api_Json} {deep:Nat} (h:node x=true) (hd:6≤x.Kind→deep<8):R.own x deep=true:=by
 unfold node at h
 simp only [Bool.and_eq_true,decide_eq_true_eq] at h
 obtain ⟨⟨⟨⟨hk,hsm⟩,hnum⟩,hS⟩,hr⟩:=h
 unfold same at hsm
 simp only [Bool.and_eq_true,Bool.or_eq_true,decide_eq_true_eq] at hsm
 unfold R.own
 by_cases c7:x.Kind=7
 ·rw [if_pos c7] at hr
  simp only [Bool.and_eq_true,decide_eq_true_eq] at hr
  have hN:x.N=0:=hsm.1.resolve_left (by omega)
  have hS0:x.S=[]:=hsm.2.resolve_left (by omega)
  rw [if_neg (by omega),if_neg (by omega),if_neg (by omega),if_neg (by omega),if_pos c7]
  simp [hd (by omega),hN,hS0,hr.1.1]
 ·rw [if_neg c7] at hr
  simp only [Bool.and_eq_true,Bool.or_eq_true,decide_eq_true_eq] at hr
  by_cases c6:x.Kind=6
  ·have hN:x.N=0:=hsm.1.resolve_left (by omega)
   have hS0:x.S=[]:=hsm.2.resolve_left (by omega)
   rw [if_neg (by omega),if_neg (by omega),if_neg (by omega),if_pos c6]
   simp [hd (by omega),hN,hS0,hr.1]
  ·have hP:x.Parts=[]:=hr.2.resolve_left c6
   by_cases c5:x.Kind=5
   ·have hN:x.N=0:=hsm.1.resolve_left (by omega)
    rw [if_neg (by omega),if_neg (by omega),if_pos c5]
    simp [hN,hr.1,hP,hS]
   ·have hS0:x.S=[]:=hsm.2.resolve_left c5
    by_cases c4:x.Kind=4
    ·rw [if_neg (by omega),if_pos c4]
     simp [hS0,hr.1,hP,hnum]
    ·have hN:x.N=0:=hsm.1.resolve_left c4
     rw [if_pos (by omega)]
     simp [hN,hS0,hr.1,hP]
theorem keys_of {x:api_Json} (h:node x=true) (c7:x.Kind=7):∀ j,j<x.Parts.length→R.keyOk x j=true:=by
 intro j hj
 unfold node at h
 simp only [Bool.and_eq_true,decide_eq_true_eq] at h
 obtain ⟨_,hr⟩:=h
 rw [if_pos c7] at hr
 simp only [Bool.and_eq_true,decide_eq_true_eq] at hr
 have hjl:j<x.Keys.length:=by omega
 have ek:x.Keys.getD j []=x.Keys[j]:=by rw [List.getD_eq_getElem?_getD,List.getElem?_eq_getElem hjl];rfl
 unfold R.keyOk
 rw [ek,List.all_eq_true.1 hr.1.2 _ (List.getElem_mem hjl)]
 have hnd:x.Keys.Nodup:=by
  have:=hr.2
  unfold twice at this
  simpa using this
 have:¬ x.Keys[j]∈x.Keys.take j:=((nodup_take hjl).1 (hnd.sublist (List.take_sublist _ _))).2
 simp [this]
theorem node_fwd {l:List api_Json} {all:List Shp} (O:Ok l all):∀ (f i deep:Nat) (y:Shp),all[i]?=some y→y.deep+deep≤8→9≤deep+f→R.node l f i deep (i+1-y.size)=some (i+1)
 | 0,i,deep,y,h,h1,h2=>by omega
 | f+1,i,deep,y,h,h1,h2=>by
  have hi:i<l.length:=by rw [← O.len];exact (List.getElem?_eq_some_iff.1 h).1
  have hx:=List.getElem?_eq_getElem hi
  obtain ⟨hn,hs⟩:=O.at_ i _ hx
  rw [h] at hs
  have gy:=O.good i y h
  rw [R.node,hx]
  dsimp only
  unfold shaped at hs
  cases hg:shGo (all.take i) i l[i].Parts.reverse 1 0 with
  | none=>rw [hg] at hs;simp at hs
  | some z=>
   obtain ⟨sz,dp⟩:=z
   rw [hg] at hs
   dsimp only at hs
   have hy:y=⟨sz,if 6≤l[i].Kind then dp+1 else dp⟩:=by
    generalize (if 6≤l[i].Kind then dp+1 else dp)=d at hs ⊢
    by_cases q:d≤8
    ·rw [if_pos q] at hs;exact (Option.some.inj hs).symm
    ·rw [if_neg q] at hs;simp at hs
   have hd6:6≤l[i].Kind→dp+1+deep≤8:=fun q=>by rw [hy,if_pos q] at h1;exact h1
   have ho:R.own l[i] deep=true:=own_of hn fun q=>by have:=hd6 q;omega
   rw [if_pos ho]
   have GT:Good (all.take i):=fun j z e=>by
    rw [List.getElem?_take] at e
    split at e
    ·exact O.good j z e
    ·simp at e
   have hpk:∀ p∈l[i].Parts,6≤l[i].Kind:=fun p hp=>by
    obtain ⟨y',e,p1,_,_,_,p4,p5,_⟩:=O.part hx
    by_cases c:l[i].Kind=6∨l[i].Kind=7
    ·omega
    ·rw [p1 (fun e=>c (.inl e)) (fun e=>c (.inr e))] at hp;simp at hp
   obtain ⟨q1,q2⟩:=parts_fwd GT (x:=l[i]) (nd:=fun p a=>R.node l f p.toNat (deep+1) a) l[i].Parts 0 1 0 sz dp hg (by omega) (by omega) (fun p hp z hz hzd=>by
    have hz':all[p.toNat]?=some z:=by
     rw [List.getElem?_take] at hz
     split at hz
     ·exact hz
     ·simp at hz
    have:=hd6 (hpk p hp)
    exact node_fwd O f p.toNat (deep+1) z hz' (by omega) (by omega)) (fun c7 j hj=>keys_of hn c7 j (by omega))
   have ey:y.size=sz:=by rw [hy]
   rw [ey,q2]
   simp
end P
end Go.Bvm.JN
set_option linter.unusedVariables false
set_option linter.unusedSimpArgs false
set_option maxRecDepth 20000
namespace Go.Bvm.JN
open Go.Bvm
namespace P
theorem shGo_app {all:List Shp} {i:Nat}:∀ (u v:List Int) (sz dp:Nat),shGo all i (u++v) sz dp=(shGo all i u sz dp).bind fun z=>shGo all i v z.1 z.2
 | [],v,sz,dp=>by simp [shGo]
 | p::u,v,sz,dp=>by
  rw [List.cons_append,shGo,shGo]
  split
  ·cases all[p.toNat]? with
   | none=>rfl
   | some y=>exact shGo_app u v _ _
  ·rfl
theorem mayL_app:∀ (u v:List api_Json) (a:List Shp),mayL (u++v) a=(mayL u a).bind fun b=>mayL v b
 | [],v,a=>by simp [mayL]
 | x::u,v,a=>by
  rw [List.cons_append,mayL,mayL]
  split
  ·cases shaped a a.length x.Kind x.Parts with
   | none=>rfl
   | some y=>exact mayL_app u v _
  ·rfl
def Val (l:List api_Json) (a:Nat) (all:List Shp):Prop:=a≤l.length∧mayL (l.take a) []=some all
theorem Val.len {l:List api_Json} {a:Nat} {all:List Shp} (V:Val l a all):all.length=a:=by
 have:=(mayL_len _ _ _ V.2).1
 have h:=V.1
 simp at this;omega
theorem node_of {x:api_Json} {deep:Nat} (h:R.own x deep=true) (hk:x.Kind=7→(x.Keys.all (plain · 3000)=true∧x.Keys.Nodup)):node x=true:=by
 have h0:plain [] 3000=true:=by decide
 have hn0:isNum 0=true:=by decide
 unfold R.own at h
 unfold node same
 split at h
 ·rename_i c
  simp only [Bool.and_eq_true,decide_eq_true_eq] at h
  rw [if_neg (by omega)]
  simp [h.1,h.2.1,h.2.2.1,h.2.2.2,h0,hn0]
  omega
 ·split at h
  ·rename_i c
   simp only [Bool.and_eq_true,decide_eq_true_eq] at h
   rw [if_neg (by omega)]
   simp [h.1,h.2.1,h.2.2.1,h.2.2.2,h0,c]
  ·split at h
   ·rename_i c
    simp only [Bool.and_eq_true,decide_eq_true_eq] at h
    rw [if_neg (by omega)]
    simp [h.1,h.2.1,h.2.2.1,h.2.2.2,hn0,c]
   ·split at h
    ·rename_i c
     simp only [Bool.and_eq_true,decide_eq_true_eq] at h
     rw [if_neg (by omega)]
     simp [h.2.1,h.2.2.1,h.2.2.2,h0,hn0,c]
    ·split at h
     ·rename_i c
      simp only [Bool.and_eq_true,decide_eq_true_eq] at h
      have hk:=hk c
      rw [if_pos c]
      have e:twice x.Keys=false:=by unfold twice;rw [decide_eq_true hk.2];rfl
      rw [hk.1,e]
      simp [h.2.1,h.2.2.1,h.2.2.2,h0,hn0,c]
     ·simp at h
theorem keys_all {x:api_Json} {nd:Int→Nat→Option Nat} {i:Nat}:∀ (ps:List Int) (k a a':Nat),R.partsL nd x i ps k a=some a'→x.Kind=7→∀ j,k≤j→j<k+ps.length→R.keyOk x j=true
 | [],k,a,a',h,c7,j,h1,h2=>by simp at h2;omega
 | p::r,k,a,a',h,c7,j,h1,h2=>by
  rw [R.partsL] at h
  split at h
  ·rename_i hp
   cases hn:nd p a with
   | none=>rw [hn] at h;simp at h
   | some b=>
    rw [hn] at h
    by_cases e:j=k
    ·rw [e];exact hp.2.2 c7
    ·exact keys_all r (k+1) b a' h c7 j (by omega) (by simp at h2;omega)
  ·simp at h
theorem keys_nodup {x:api_Json} (h:∀ j,j<x.Keys.length→R.keyOk x j=true):x.Keys.all (plain · 3000)=true∧x.Keys.Nodup:=by
 have hk:∀ j (hj:j<x.Keys.length),plain x.Keys[j] 3000=true∧¬ x.Keys[j]∈x.Keys.take j:=fun j hj=>by
  have:=h j hj
  have ek:x.Keys.getD j []=x.Keys[j]:=by rw [List.getD_eq_getElem?_getD,List.getElem?_eq_getElem hj];rfl
  unfold R.keyOk at this
  rw [ek] at this
  simp only [Bool.and_eq_true,Bool.not_eq_true',decide_eq_false_iff_not] at this
  exact this
 refine ⟨List.all_eq_true.2 fun s hs=>?_,?_⟩
 ·obtain ⟨j,hj,rfl⟩:=List.getElem_of_mem hs
  exact (hk j hj).1
 ·have:∀ n,n≤x.Keys.length→(x.Keys.take n).Nodup:=fun n=>by
   induction n with
   | zero=>intro _;simp
   | succ n ih=>intro hn;exact (nodup_take (by omega)).2 ⟨ih (by omega),(hk n (by omega)).2⟩
  have:=this _ (Nat.le_refl _)
  rwa [List.take_of_length_le (Nat.le_refl _)] at this
def NB (l:List api_Json) (f:Nat):Prop:=∀ (i deep a a':Nat) (all:List Shp),R.node l f i deep a=some a'→deep≤8→Val l a all→a≤i→i<l.length→∃ all' d,Val l (i+1) all'∧all'.take a=all∧all'[i]?=some ⟨i+1-a,d⟩∧d+deep≤8
theorem parts_bwd {l:List api_Json} {f:Nat} (N:NB l f) {x:api_Json} {i deep:Nat} (hi:i<l.length):∀ (ps:List Int) (k a a':Nat) (all:List Shp),R.partsL (fun p a=>R.node l f p.toNat (deep+1) a) x i ps k a=some a'→(ps≠[]→deep<8)→Val l a all→a≤i→a≤a'∧a'≤i∧∃ all' D,Val l a' all'∧all'.take a=all∧(ps=[]∨D+deep+1≤8)∧
  ∀ (i0 sz dp:Nat) (al:List Shp),al.take a'=all'→i0+1=sz+a'→1≤sz→shGo al i0 ps.reverse sz dp=some (sz+(a'-a),if ps=[] then dp else max dp D)
 | [],k,a,a',all,h,_,Vv,ha=>by
  simp [R.partsL] at h
  subst h
  refine ⟨Nat.le_refl _,ha,all,0,Vv,?_,.inl rfl,fun i0 sz dp al h1 h2 h3=>by simp [shGo]⟩
  rw [List.take_of_length_le (by rw [Vv.len];exact Nat.le_refl _)]
 | p::r,k,a,a',all,h,hd8,Vv,ha=>by
  have hd8:=hd8 (by simp)
  rw [R.partsL] at h
  split at h
  ·rename_i hp
   cases hn:R.node l f p.toNat (deep+1) a with
   | none=>rw [hn] at h;simp at h
   | some b=>
    rw [hn] at h
    dsimp only at h
    have eb:=node_a hn
    subst eb
    obtain ⟨all1,d1,V1,t1,g1,b1⟩:=N p.toNat (deep+1) a _ all hn (by omega) Vv (by omega) (by omega)
    obtain ⟨m1,m2,all',D,V2,t2,hD,H⟩:=parts_bwd N hi r (k+1) (p.toNat+1) a' all1 h (fun _=>hd8) V1 (by omega)
    refine ⟨by omega,m2,all',if r=[] then d1 else max D d1,V2,?_,.inr ?_,fun i0 sz dp al h1 h2 h3=>?_⟩
    ·rw [← t1,← t2,List.take_take,Nat.min_eq_left (by omega)]
    ·split
     ·omega
     ·rename_i hr
      have:=hD.resolve_left hr
      omega
    ·rw [List.reverse_cons,shGo_app,H i0 sz dp al h1 h2 h3,Option.bind_some]
     dsimp only
     have hal:al[p.toNat]?=some ⟨p.toNat+1-a,d1⟩:=by
      have e1:all'[p.toNat]?=all1[p.toNat]?:=by rw [← t2,List.getElem?_take_of_lt (by omega)]
      have e2:al[p.toNat]?=all'[p.toNat]?:=by rw [← h1,List.getElem?_take_of_lt (by omega)]
      rw [e2,e1,g1]
     rw [shGo,if_pos ⟨hp.1.1,by omega⟩,hal]
     dsimp only
     have hne:¬ (p::r=([]:List Int)):=by simp
     rw [shGo,if_neg hne]
     congr 1
     rw [Prod.mk.injEq]
     refine ⟨by omega,?_⟩
     by_cases hr:r=[]
     ·rw [if_pos hr,if_pos hr]
     ·rw [if_neg hr,if_neg hr];omega
  ·simp at h
theorem node_bwd {l:List api_Json}:∀ f,NB l f
 | 0=>fun i deep a a' all h=>by simp [R.node] at h
 | f+1=>fun i deep a a' all h hdp8 Vv ha hi=>by
  have hx:=List.getElem?_eq_getElem hi
  rw [R.node,hx] at h
  dsimp only at h
  split at h
  ·rename_i ho
   cases hp:R.partsL (fun p a=>R.node l f p.toNat (deep+1) a) l[i] i l[i].Parts 0 a with
   | none=>rw [hp] at h;simp at h
   | some b=>
    rw [hp] at h
    dsimp only at h
    split at h
    ·rename_i e
     rw [e] at hp h
     obtain rfl:a'=i+1:=by simpa using h.symm
     have hd8:6≤l[i].Kind→deep<8:=fun c=>by
      unfold R.own at ho
      split at ho
      ·omega
      ·split at ho
       ·omega
       ·split at ho
        ·omega
        ·split at ho
         ·simp at ho;exact ho.1
         ·split at ho
          ·simp at ho;exact ho.1
          ·simp at ho
     have hlo:¬ 6≤l[i].Kind→l[i].Parts=[]:=fun c=>by
      unfold R.own at ho
      split at ho
      ·simp at ho;exact ho.2.2.2
      ·split at ho
       ·simp at ho;exact ho.2.2.1
       ·split at ho
        ·simp at ho;exact ho.2.2.1
        ·split at ho
         ·omega
         ·split at ho
          ·omega
          ·simp at ho
     obtain ⟨m1,m2,all1,D,V1,t1,hD,H⟩:=parts_bwd (node_bwd f) hi l[i].Parts 0 a _ all hp (fun q=>hd8 (by
      by_cases c:6≤l[i].Kind
      ·exact c
      ·exact absurd (hlo c) q)) Vv ha
     have hl1:=V1.len
     have hk:l[i].Kind=7→(l[i].Keys.all (plain · 3000)=true∧l[i].Keys.Nodup):=fun c7=>keys_nodup fun j hj=>by
      have hkl:l[i].Keys.length=l[i].Parts.length:=by
       unfold R.own at ho
       rw [if_neg (by omega),if_neg (by omega),if_neg (by omega),if_neg (by omega),if_pos c7] at ho
       simp at ho
       exact ho.2.2.2
      exact keys_all _ _ _ _ hp c7 j (by omega) (by omega)
     have hnode:=node_of ho hk
     have hg:=H i 1 0 all1 (by rw [List.take_of_length_le (by omega)]) (by omega) (Nat.le_refl _)
     have hsh:∃ d,shaped all1 all1.length l[i].Kind l[i].Parts=some ⟨i+1-a,d⟩∧d+deep≤8:=by
      unfold shaped
      rw [hl1,hg]
      dsimp only
      have fin:∀ D0:Nat,D0+deep≤8→∃ d,(if D0≤8 then some (⟨1+(i-a),D0⟩ : Shp) else none)=some ⟨i+1-a,d⟩∧d+deep≤8:=fun D0 h0=>⟨D0,by rw [if_pos (by omega)];congr 2;omega,h0⟩
      by_cases hp0:l[i].Parts=[]
      ·rw [if_pos hp0]
       refine fin _ ?_
       split
       ·rename_i c;have:=hd8 c;omega
       ·omega
      ·rw [if_neg hp0]
       have hD:=hD.resolve_left hp0
       have c:6≤l[i].Kind:=by
        by_cases c:6≤l[i].Kind
        ·exact c
        ·exact absurd (hlo c) hp0
       rw [if_pos c]
       exact fin _ (by omega)
     obtain ⟨d,hs,hd⟩:=hsh
     refine ⟨all1++[⟨i+1-a,d⟩],d,⟨by omega,?_⟩,?_,?_,hd⟩
     ·rw [List.take_succ_eq_append_getElem hi,mayL_app,V1.2,Option.bind_some,mayL,if_pos hnode,hs]
      dsimp only
      rw [mayL]
     ·rw [List.take_append_of_le_length (by omega),t1]
     ·rw [List.getElem?_append_right (by omega),hl1];simp
    ·simp at h
  ·simp at h
theorem May_eq (l:List api_Json):May l=R.May l:=by
 by_cases c:1≤l.length∧l.length≤300
 ·cases h:May l with
  | true=>
   obtain ⟨all,O,hls,h1,h2⟩:=ok_of h
   unfold lastSize at hls
   rw [List.getLast?_eq_getElem?,O.len] at hls
   cases hy:all[l.length-1]? with
   | none=>rw [hy] at hls;simp at hls
   | some y=>
    rw [hy] at hls
    have hls:y.size=l.length:=by simpa using hls
    have g:=O.good _ _ hy
    have:=node_fwd O 9 (l.length-1) 0 y hy (by omega) (by omega)
    rw [show l.length-1+1-y.size=0 by omega] at this
    unfold R.May
    rw [decide_eq_true c,this];rfl
  | false=>
   unfold R.May
   rw [decide_eq_true c,Bool.true_and]
   cases hn:R.node l 9 (l.length-1) 0 0 with
   | none=>rfl
   | some a'=>
    exfalso
    obtain ⟨all,d,V,_,g,_⟩:=node_bwd 9 (l.length-1) 0 0 a' [] hn (by omega) ⟨by omega,by rw [List.take_zero,mayL]⟩ (by omega) (by omega)
    have e:l.length-1+1=l.length:=by omega
    have V2:=V.2
    rw [e,List.take_of_length_le (Nat.le_refl _)] at V2
    have hl:=V.len
    unfold May at h
    rw [decide_eq_true c,V2] at h
    have h:lastSize all l.length=false:=h
    unfold lastSize at h
    rw [List.getLast?_eq_getElem?,hl,e,g] at h
    simp at h
    omega
 ·unfold May R.May
  rw [decide_eq_false c];rfl
end P
end Go.Bvm.JN
