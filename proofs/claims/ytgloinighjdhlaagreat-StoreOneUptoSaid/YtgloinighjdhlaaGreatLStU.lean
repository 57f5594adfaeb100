/-
  store.change for Ask; store.Ask.
-/
import Derived.Test.YtgloinighjdhlaaGreatLSt9
import Derived.Test.YtgloinighjdhlaaGreatLPlace2
set_option linter.all false
set_option linter.unusedVariables false
set_option linter.unusedSimpArgs false
set_option linter.unusedSectionVars false
set_option maxRecDepth 100000
set_option maxHeartbeats 8000000
namespace Go.Proofs.YtgloinighjdhlaaGreat
open Go.Proofs.YtgloinighjdhlaaGreat.Am
attribute [local irreducible] W WO WE WQ WD Tr.get Tr.set
theorem over_trans {a b c:St} (h:Over a b) (k:Over b c) (hw:Wf c):Over a c where
 nb:=Nat.le_trans h.nb k.nb
 boxes:=by
  have h1:=h.boxes
  rw [← k.boxes,List.drop_drop] at h1
  have:=h.nb; have:=k.nb
  rw [show c.nb - b.nb+(b.nb - a.nb)=c.nb - a.nb by omega] at h1
  exact h1
 nt:=Nat.le_trans h.nt k.nt
 toks:=by
  have h1:=h.toks
  rw [← k.toks,List.drop_drop] at h1
  have:=h.nt; have:=k.nt
  rw [show c.nt - b.nt+(b.nt - a.nt)=c.nt - a.nt by omega] at h1
  exact h1
 lo:=Nat.le_trans h.nb k.lo
theorem _root_.Go.Proofs.YtgloinighjdhlaaGreat.Am.Hp.join {s0 s q:St} {n:En} {R:List RA} {B B0:List (Nat×Box)} (H0:Hp s0 s n [] B0) (H1:Hp s q s.en R B):Hp s0 q s.en R (B++B0) where
 wf:=H1.wf
 over:=over_trans H0.over H1.over H1.wf
 lo:=H1.lo
 nb:=H1.nb
 nt:=H1.nt
 rows:=fun h=>by
  rcases H1.rows h with h | ⟨k,v,t,h1,h2,h3⟩
  · exact .inl h
  · exact .inr ⟨k,v,t,h1,Nat.le_trans H0.over.nt h2,h3⟩
 apart:=H1.apart
 box:=fun {i p} h=>by
  by_cases hi:i < B.length
  · rw [List.getElem?_append_left hi] at h
    obtain ⟨h1,h2,h3⟩:=H1.box h
    exact ⟨h1,Nat.le_trans H0.over.nb h2,h3⟩
  · rw [List.getElem?_append_right (by omega)] at h
    obtain ⟨h1,h2,h3⟩:=H0.box h
    exact ⟨by rw [O0 H1.over h3]; exact h1,h2,Nat.lt_of_lt_of_le h3 H1.over.nb⟩
 bapart:=fun {i j p q'} hne hi hj=>by
  by_cases h1:i < B.length
  · rw [List.getElem?_append_left h1] at hi
    by_cases h2:j < B.length
    · rw [List.getElem?_append_left h2] at hj
      exact H1.bapart hne hi hj
    · rw [List.getElem?_append_right (by omega)] at hj
      have:=(H1.box hi).2.1
      have:=(H0.box hj).2.2
      omega
  · rw [List.getElem?_append_right (by omega)] at hi
    by_cases h2:j < B.length
    · rw [List.getElem?_append_left h2] at hj
      have:=(H1.box hj).2.1
      have:=(H0.box hi).2.2
      omega
    · rw [List.getElem?_append_right (by omega)] at hj
      exact H0.bapart (by omega) hi hj
noncomputable def askZ (l:List FT) (n:Int) (name:List Nat):Int :=
 if C3 l n=0 then (match l[n.toNat]? with
  | some f=>if askW name f=0 then askN l name f else -1
  | none => -1) else -1
abbrev BB (nu nm fb:Nat) (z:Int) (name:List Nat) (l:List FT):List (Nat×Box) :=
 [(nu,.cells 3 [.i .i64 z]),(nm,.cells 9 [.s name]),(fb,.cells 22 [fx l])]
theorem Tw (l:List FT) (ho:FOk l) (n:Int) {name:List Nat} (hn:Txt name) {a0:AV} (ha0:BR 6 a0 (l.map FT.av)) {s0 s:St} {m:En} {nu nm fb:Nat} (H:Hp s0 s m [] (BB nu nm fb (-1) name l)) :
    ∃ s',(lim prog).call Cc [a0,.i .i64 n,.fn Cq [.p nm 0],.fn Cr [.p nm 0,.p nu 0,.p fb 0]] s=some (tupR (changeP l n (askW name) (askD l name)),s')∧Hp s0 s' m [] (BB nu nm fb (askZ l n name) name l):=by
 obtain ⟨r,s',hc,rfl,hP⟩:=fn_G (f:=Cc) (args:=[a0,.i .i64 n,.fn Cq [.p nm 0],.fn Cr [.p nm 0,.p nu 0,.p fb 0]]) (s:=s) (Post:=fun r s'=>r=tupR (changeP l n (askW name) (askD l name))∧Hp s0 s' m [] (BB nu nm fb (askZ l n name) name l)) Iz rfl rfl (by
  have hw:=H.wf
  have hz0:wkZ Aq.cin [a0,.i .i64 n,.fn Cq [.p nm 0],.fn Cr [.p nm 0,.p nu 0,.p fb 0]]=[fx l,.i .i64 n,.fn Cq [.p nm 0],.fn Cr [.p nm 0,.p nu 0,.p fb 0]]:=by
   simp only [Aq,wkZ,Ft ha0,wk]
  rw [hz0]
  have b0:=(H.box (i:=0) rfl).2.2
  have b1:=(H.box (i:=1) rfl).2.2
  have b2:=(H.box (i:=2) rfl).2.2
  have fin:∀ {q1:St} {z:Int} (v:AV),Hp s0 q1 s.en [] (BB nu nm fb z name l)→Hp s0 (Am.leave s q1 v) m [] (BB nu nm fb z name l):=fun {q1 z} v H'=>by
   refine H.leave (n1:=s.en) H' v (fun {j x} hj=>?_) (.inr fun {j r k} hr hk=>by simp at hr)
   rcases j with _ | _ | _ | j
   · cases hj; exact b0
   · cases hj; exact b1
   · cases hj; exact b2
   · simp at hj
  have hm:=Ms l ho.ok ho.len ho.fl s.enter hw.enter
  unfold fx at hm
  by_cases hz:C3 l n=0
  · obtain ⟨hmay,i,f,rfl,hf⟩:=HB hz
    have hil:=(List.getElem?_eq_some_iff.1 hf).1
    have hg2:=G9 hf
    have hne:l≠[]:=by intro hh; subst hh; simp at hil
    rw [hmay] at hm
    have e1:((i:Int) < 0)=False:=eq_false (by omega)
    have e2:((l.length:Int)≤(i:Int))=False:=eq_false (by omega)
    have hwc:=ay hn hw.enter (q:=s.enter) (b:=nm) (by exact (H.box (i:=1) rfl).1) b1 f
    have hZ:askZ l (i:Int) name=if askW name f=0 then askN l name f else -1:=by
     unfold askZ
     rw [if_pos hz,Int.toNat_natCast,hf]
    have hC:changeP l (i:Int) (askW name) (askD l name)=if askW name f=0 then (l.set i (askD l name f),0) else ([],askW name f):=by
     unfold changeP
     rw [if_pos hz,Int.toNat_natCast,hf]
    by_cases hW:askW name f=0
    · have e3:((askW name f)≠0)=False:=by simp [hW]
      rw [if_pos hW] at hZ hC
      have hdir:f.isDir=true:=by
       unfold askW at hW
       cases h:f.isDir with
       | true=>rfl
       | false=>rw [h] at hW; simp at hW
      have hone:f.one=true:=(mayD hmay).one f (List.mem_of_getElem? hf)
      obtain ⟨r,q1,d1,id,K1,rfl,H1,hK1,hl1,hF1⟩:=Yz (Hp.begin hw) l hne ho
      have H1j:=H.join H1
      obtain ⟨p,hp,rfl⟩:=YM hl1 hf
      obtain ⟨q2,d2,K2,H2,hK2,hl2⟩:=az H1j hK1 hF1 hp hone hdir (ho.ok _ (List.mem_of_getElem? hf)) ho.len
      rw [hl1] at hl2
      have hth:Fx q1 (.bl id 6 0 l.length (l.length*6,false))=some (.bl id 6 0 l.length (l.length*6,false),q1):=rfl
      have hlt:(i < l.length)=True:=by simp [hil]
      have hKl:K2.length=l.length:=by
       have:=congrArg List.length hl2
       rwa [List.length_map,List.length_set] at this
      obtain ⟨K3,q3,hpa,H3,hl3,hK3⟩:=Sz H2 hK2 (l.length*6,false)
      rw [hKl] at hpa
      rw [hl2] at hl3
      unfold fx at d1
      simp only [Aq,go_sem,AE,AA,AD,AC,KB_n,KB_x,Nat.reduceBEq,Nat.reduceAdd,Nat.reduceLT,Nat.reduceLeDiff,Nat.reduceEqDiff,reduceIte,Int.reduceEq,reduceCtorEq,fx,List.length_map,hm,e1,e2,AH,hg2,Bh,Dz,Aw,hwc,e3,d1,hth,hlt,Nat.zero_add,d2,hpa]
      refine ⟨_,_,rfl,?_,?_⟩
      · have hwk:=hK3.wk
        rw [hl3] at hwk
        rw [hC]
        simp only [Bj,wkZ,wk,hwk,tupR,fx]
        rfl
      · rw [hZ]
        exact fin _ H3
    · have e3:((askW name f)≠0)=True:=by simp [hW]
      rw [if_neg hW] at hZ hC
      simp only [Aq,go_sem,AE,AA,AD,AC,KB_n,KB_x,Nat.reduceBEq,Nat.reduceAdd,Nat.reduceLT,Nat.reduceLeDiff,Nat.reduceEqDiff,reduceIte,Int.reduceEq,reduceCtorEq,fx,List.length_map,hm,e1,e2,AH,hg2,Bh,Dz,Aw,hwc,e3]
      refine ⟨_,_,rfl,?_,?_⟩
      · rw [hC]; simp only [Bj,wkZ,wk,tupR,fx,List.map_nil]
      · rw [hZ]; exact fin _ H.enter
  · have hZ:askZ l n name = -1:=by unfold askZ; rw [if_neg hz]
    have hC:changeP l n (askW name) (askD l name)=([],C3 l n):=by unfold changeP; rw [if_neg hz]
    rw [hZ,hC]
    unfold C3 at hz ⊢
    cases hmay:mayP l
    · rw [hmay] at hm
      simp only [Aq,go_sem,AE,AA,AD,AC,KB_n,KB_x,Nat.reduceBEq,Nat.reduceAdd,Nat.reduceLT,Nat.reduceLeDiff,Nat.reduceEqDiff,reduceIte,Int.reduceEq,reduceCtorEq,fx,List.length_map,hm]
      exact ⟨_,_,rfl,by simp only [Bj,wkZ,wk,tupR,fx,List.map_nil],fin _ H.enter⟩
    · rw [hmay] at hm hz
      rw [if_pos rfl] at hz ⊢
      have hout:¬ (0≤n∧n < (l.length:Int)):=fun h=>hz (by rw [if_pos h])
      rw [if_neg hout]
      by_cases n1:n < 0
      · have e1:(n < 0)=True:=by simp [n1]
        simp only [Aq,go_sem,AE,AA,AD,AC,KB_n,KB_x,Nat.reduceBEq,Nat.reduceAdd,Nat.reduceLT,Nat.reduceLeDiff,Nat.reduceEqDiff,reduceIte,Int.reduceEq,reduceCtorEq,fx,List.length_map,hm,e1]
        exact ⟨_,_,rfl,by simp only [Bj,wkZ,wk,tupR,fx,List.map_nil],fin _ H.enter⟩
      · have e1:(n < 0)=False:=by simp only [eq_iff_iff,iff_false]; exact n1
        have e2:((l.length:Int)≤n)=True:=eq_true (by omega)
        simp only [Aq,go_sem,AE,AA,AD,AC,KB_n,KB_x,Nat.reduceBEq,Nat.reduceAdd,Nat.reduceLT,Nat.reduceLeDiff,Nat.reduceEqDiff,reduceIte,Int.reduceEq,reduceCtorEq,fx,List.length_map,hm,e1,e2]
        exact ⟨_,_,rfl,by simp only [Bj,wkZ,wk,tupR,fx,List.map_nil],fin _ H.enter⟩)
 exact ⟨s',hc,hP⟩

def noFt:FT:=⟨false,0,[],[],0,0⟩
noncomputable def askP (l:List FT) (n:Int) (name:List Nat):List FT×Int×Int :=
 if (changeP l n (askW name) (askD l name)).2=0 then ((changeP l n (askW name) (askD l name)).1++(if askZ l n name=(l.length:Int) then [noFt] else []),askZ l n name,0)
 else ([],0,(changeP l n (askW name) (askD l name)).2)
theorem WV (c:CT):∀ a b:List AV,wkM c (a++b)=wkM c a++wkM c b
 | [],_=>rfl
 | x::a,b=>by rw [List.cons_append,wkM,WV c a b,wkM]; rfl
theorem Rn {l:List FT} (ho:FOk l) (n:Int) (W:FT→Int) (D:FT→FT):(changeP l n W D).1.length≤l.length:=by
 unfold changeP
 split
 · split
   · split<;>simp
   · simp
 · simp
theorem Ro (l:List FT) (ho:FOk l) (n:Int) {name:List Nat} (hn:Txt name) {a0:AV} (ha0:BR 6 a0 (l.map FT.av)) {s:St} (hw:Wf s) :
    (lim prog).call GK [a0,.i .i64 n,.s name] s=some (.tup [fx (askP l n name).1,.i .i64 (askP l n name).2.1,.i .i64 (askP l n name).2.2],s):=by
 refine fn_W Q9 rfl rfl ?_
 have hz0:wkZ DK.cin [a0,.i .i64 n,.s name]=[fx l,.i .i64 n,.s name]:=by
  simp only [DK,wkZ,Ft ha0,wk]
 rw [hz0]
 have H1:=(((Hp.begin hw).new (.cells 22 [fx l])).new (.cells 9 [.s name])).new (.cells 3 [.i .i64 0])
 have e0:s.enter.nb=s.nb:=rfl
 have e1:(s.enter.new (.cells 22 [fx l])).nb=s.nb+1:=rfl
 have e2:((s.enter.new (.cells 22 [fx l])).new (.cells 9 [.s name])).nb=s.nb+1+1:=rfl
 rw [e0,e1,e2] at H1
 obtain ⟨q1,d1,H2,_⟩:=H1.st 0 (off:=0) (v:=.i .i64 (-1)) rfl (by simp) ⟨rfl,rfl⟩
 have H2':Hp s q1 s.en [] (BB (s.nb+1+1) (s.nb+1) s.nb (-1) name l):=H2
 have lf:=H2'.ld 2 (off:=0) (v:=fx l) rfl rfl
 obtain ⟨q2,dc,H3⟩:=Tw l ho n hn (a0:=fx l) .ws H2'
 have lz:=H3.ld 0 (off:=0) (v:=.i .i64 (askZ l n name)) rfl rfl
 have lf2:=H3.ld 2 (off:=0) (v:=fx l) rfl rfl
 have hcl:=Rn ho n (askW name) (askD l name)
 have hll:=ho.len
 unfold fx at lf lf2 dc d1
 unfold askP
 generalize hC:changeP l n (askW name) (askD l name)=C at *
 obtain ⟨L,e⟩:=C
 simp only at hcl ⊢
 unfold tupR at dc
 by_cases he:e=0
 · have c1:(e≠0)=False:=by simp [he]
   rw [if_pos he]
   by_cases hk:askZ l n name=(l.length:Int)
   · have c2:(askZ l n name=(l.length:Int))=True:=by simp [hk]
     rw [if_pos hk]
     have hsl:A8 q2 false 6 (.ws false 6 (L.map FT.av)) none (some (.i .i64 (L.length:Nat))) (some (.i .i64 (L.length:Nat)))=some (.ws true 6 (L.map FT.av),q2):=by
      have hb:Bl (L.map FT.av).length none (some (.i .i64 (L.length:Nat)))=some (0,L.length):=by
       simp only [Bl,AH,List.length_map]
       rw [if_pos ⟨Nat.zero_le _,Nat.le_refl _⟩]
      simp only [A8,if_true,hb,AH,Nat.sub_zero,List.drop_zero]
      rw [List.take_of_length_le (by simp)]
     have hal:Ar 6 [AV.agg [.b false,.i .u8 0,.nsl,.nsl,.i .i64 0,.i .i64 0]]=true:=rfl
     obtain ⟨a,q3,d3,H4,n4,h4⟩:=H3.appN (es:=6) 48 (a:=.ws true 6 (L.map FT.av)) (xs:=L.map FT.av) (y:=.sl 6 [.agg [.b false,.i .u8 0,.nsl,.nsl,.i .i64 0,.i .i64 0]] .full) (ys:=[.agg [.b false,.i .u8 0,.nsl,.nsl,.i .i64 0,.i .i64 0]]) .ws rfl (by simp; omega)
     have lz3:=H4.ld 0 (off:=0) (v:=.i .i64 (askZ l n name)) rfl rfl
     obtain ⟨a',q4,d4,t4,H5,_⟩:=H4.pub 0 rfl
     have hpa:pubA q3 a=some (a',q4):=by rw [← d4]; exact Ga (H4.rows (i:=0) rfl)
     have ha:a'=.sl 6 (L.map FT.av++[.agg [.b false,.i .u8 0,.nsl,.nsl,.i .i64 0,.i .i64 0]]) .shut:=by
      rcases H4.rows (i:=0) rfl with hh | ⟨k,v,t,hh,_⟩
      · exact absurd (D4 hh) (h4 (by simp)).1
      · simp only at hh
        subst hh
        simp only [Am.pub] at d4
        split at d4<;>try (cases d4; done)
        split at d4<;>cases d4
        rfl
     subst ha
     simp only [DK,go_sem,AE,AA,AD,AC,KB_n,KB_x,Nat.reduceBEq,Nat.reduceAdd,Nat.reduceLT,Nat.reduceLeDiff,Nat.reduceEqDiff,reduceIte,Int.reduceEq,reduceCtorEq,fx,e0,e1,e2,d1,lf,dc,c1,lz,lf2,List.length_map,c2,hsl,hal,d3,lz3,hpa]
     refine AK H5.over ?_ ?_
     · simp only [Bj,AV.refs,AV.refs.go,S2 (Lr L) (b:=[.agg [.b false,.i .u8 0,.nsl,.nsl,.i .i64 0,.i .i64 0]]) rfl]
       rfl
     · simp only [Bj,wkZ,wk,WV,aX,List.map_append]
       rfl
   · have c2:(askZ l n name=(l.length:Int))=False:=by simp [hk]
     rw [if_neg hk,List.append_nil]
     simp only [DK,go_sem,AE,AA,AD,AC,KB_n,KB_x,Nat.reduceBEq,Nat.reduceAdd,Nat.reduceLT,Nat.reduceLeDiff,Nat.reduceEqDiff,reduceIte,Int.reduceEq,reduceCtorEq,fx,e0,e1,e2,d1,lf,dc,c1,lz,lf2,List.length_map,c2]
     refine AK H3.over ?_ ?_
     · simp only [Bj,AV.refs,AV.refs.go,Lr]
       rfl
     · simp only [Bj,wkZ,wk]
 · have c1:(e≠0)=True:=by simp [he]
   rw [if_neg he]
   simp only [DK,go_sem,AE,AA,AD,AC,KB_n,KB_x,Nat.reduceBEq,Nat.reduceAdd,Nat.reduceLT,Nat.reduceLeDiff,Nat.reduceEqDiff,reduceIte,Int.reduceEq,reduceCtorEq,fx,e0,e1,e2,d1,lf,dc,c1]
   exact AK H3.over rfl rfl
end Go.Proofs.YtgloinighjdhlaaGreat

namespace Go.Proofs.YtgloinighjdhlaaGreat
open Go.Proofs.YtgloinighjdhlaaGreat.Am
section ins
variable {α:Type} {L:List α} {p:Nat} {x:α}
theorem JS:(insL L p x).length=L.length+1:=by unfold insL; simp; omega
theorem J6:(insL L p x).Perm (x::L):=by
 unfold insL
 refine List.perm_middle.trans ?_
 rw [List.take_append_drop]
theorem Ky {i:Nat} {y:α} (hp:p≤L.length) (h:L[i]? = some y):(insL L p x)[if i < p then i else i+1]? = some y:=by
 unfold insL
 have hl:(L.take p).length=p:=by rw [List.length_take]; omega
 by_cases hi:i < p
 · rw [if_pos hi,List.getElem?_append_left (by omega),List.getElem?_take,if_pos hi]; exact h
 · rw [if_neg hi,List.getElem?_append_right (by omega),hl,show i+1 - p=(i - p)+1 by omega,List.getElem?_cons_succ,List.getElem?_drop,show p+(i - p)=i by omega]; exact h
theorem Y4 (hp:p≤L.length):(insL L p x)[p]? = some x:=by
 unfold insL
 have hl:(L.take p).length=p:=by rw [List.length_take]; omega
 rw [List.getElem?_append_right (by omega),hl,Nat.sub_self]; rfl
theorem Wa {j:Nat} {y:α} (hp:p≤L.length) (h:(insL L p x)[j]? = some y):(j=p∧y=x)∨∃ i,L[i]? = some y∧j=if i < p then i else i+1:=by
 rcases Nat.lt_trichotomy j p with hj | hj | hj
 · refine .inr ⟨j,?_,by rw [if_pos hj]⟩
   have hl:j < L.length:=by omega
   have:=Ky (x:=x) hp (List.getElem?_eq_getElem hl)
   rw [if_pos hj,h] at this
   rw [List.getElem?_eq_getElem hl,this]
 · subst hj
   rw [Y4 hp] at h
   exact .inl ⟨rfl,(Option.some.inj h).symm⟩
 · refine .inr ⟨j - 1,?_,by rw [if_neg (by omega)]; omega⟩
   have hjl:=(List.getElem?_eq_some_iff.1 h).1
   rw [JS] at hjl
   have hl:j - 1 < L.length:=by omega
   have:=Ky (x:=x) hp (List.getElem?_eq_getElem hl)
   rw [if_neg (by omega),show j - 1+1=j by omega,h] at this
   rw [List.getElem?_eq_getElem hl,this]
end ins
theorem S7:∀ (q:Option (List Nat)) (L:List (List Nat)) (p:Nat) (x:List Nat),ascN q L=true→Pos L x p→Dh x=true→L[p]? ≠ some x→(∀ q0,q=some q0→ltN q0 x=true)→ascN q (insL L p x)=true
 | q, L,0,x,h,hp,hx,hne,hq=>by
   show ascN q (x::L)=true
   have h2:ascN (some x) L=true:=by
    cases L with
    | nil=>rfl
    | cons y L =>
      simp only [ascN,Bool.and_eq_true] at h ⊢
      have h2:=hp.hi (Nat.le_refl 0) (show (y::L)[0]? = some y from rfl)
      exact ⟨h.1,Vw h2 (fun e=>hne (by rw [e]; rfl)),h.2.2⟩
   cases q with
   | none=>simp only [ascN,hx,Bool.true_and]; exact h2
   | some q0=>simp only [ascN,hx,hq q0 rfl,Bool.true_and]; exact h2
 | q,[],p+1,x,h,hp,hx,hne,hq=>by
   have:=hp.le
   simp at this
 | q,y::L,p+1,x,h,hp,hx,hne,hq=>by
   show ascN q (y::insL L p x)=true
   simp only [ascN,Bool.and_eq_true] at h ⊢
   refine ⟨h.1,h.2.1,?_⟩
   have hp':Pos L x p:=⟨by have:=hp.le; simp at this; omega,fun {k z} hk hz=>hp.lo (k:=k+1) (by omega) (by simpa using hz),fun {k z} hk hz=>hp.hi (k:=k+1) (by omega) (by simpa using hz)⟩
   exact S7 (some y) L p x h.2.2 hp' hx (by simpa using hne) fun q0 hq0=>by
    cases hq0
    exact hp.lo (k:=0) (by omega) rfl
theorem YX:noFt.one=true:=by decide
section
variable {l:List FT} {n:Nat} {f:FT} {name:List Nat} {p:Nat}
abbrev insF (f:FT) (p:Nat) (name:List Nat) (N:Nat):FT:={ f with names:=insL f.names p name,kids:=insL f.kids p (N:Int) }
theorem S8 (h1:f.one=true) (hd:f.isDir=true) (hr:f.rest≠1) (hp:Pos f.names name p) (hx:Dh name=true) (hne:f.names[p]? ≠ some name) (N:Nat):(insF f p name N).one=true:=by
 have h2:=Rq h1 hd
 have hl:=Cf h1
 have hrc:=N7 h1 hd
 have hasc:ascN none (insL f.names p name)=true:=S7 none _ _ _ h2.1 hp hx hne fun q0 h=>by cases h
 have hb:f.bad=false:=by
  unfold FT.one at h1
  simp only [Bool.and_eq_true,Bool.not_eq_true'] at h1
  exact h1.1
 have hb2:(insF f p name N).bad=false:=by
  unfold FT.bad at hb ⊢
  simp only [Bool.or_eq_false_iff,decide_eq_false_iff_not] at hb ⊢
  refine ⟨hb.1,hb.2.1,?_⟩
  show ¬ (insL f.names p name).length≠(insL f.kids p (N:Int)).length
  rw [JS,JS,hl]
  simp
 have hg:(insF f p name N).isDir=true:=hd
 have hrb:(insF f p name N).restB=true:=by
  unfold FT.restB
  show (if f.rest=2 then decide (0≤f.beside)&&decide (f.beside≤((insL f.names p name).length:Int)) else (decide (f.rest=0)||decide (f.rest=1))&&decide (f.beside=0))=true
  rw [JS]
  have h3:=h2.2
  unfold FT.restB at h3
  by_cases h2':f.rest=2
  · rw [if_pos h2'] at h3 ⊢
    simp only [Bool.and_eq_true,decide_eq_true_eq] at h3 ⊢
    omega
  · rw [if_neg h2'] at h3 ⊢
    exact h3
 unfold FT.one
 rw [hb2,hg,if_pos rfl]
 show (!false&&(ascN none (insL f.names p name)&&(insF f p name N).restB))=true
 rw [hasc,hrb]; rfl
def askL (l:List FT) (n:Nat) (f:FT) (p:Nat) (name:List Nat):List FT:=l.set n (insF f p name l.length)++[noFt]
theorem Gh:(askL l n f p name).length=l.length+1:=by unfold askL; simp
theorem Hl (hn:n < l.length) {j:Nat} (hj:j < l.length):(askL l n f p name)[j]? = if j=n then some (insF f p name l.length) else l[j]? := by
 unfold askL
 rw [List.getElem?_append_left (by rw [List.length_set]; exact hj),List.getElem?_set]
 by_cases h:n=j
 · subst h; rw [if_pos rfl,if_pos hn,if_pos rfl]
 · rw [if_neg h,if_neg (fun e=>h e.symm)]
theorem QZ:(askL l n f p name)[l.length]? = some noFt:=by
 unfold askL
 rw [List.getElem?_append_right (by rw [List.length_set]; exact Nat.le_refl _),List.length_set,Nat.sub_self]; rfl
theorem S9 (hf:l[n]? = some f) (j:Int):cntK (askL l n f p name) j=cntK l j+(if j=(l.length:Int) then 1 else 0):=by
 have hlt:=(List.getElem?_eq_some_iff.1 hf).1
 have h1:flatK l=flatK (l.take n)++f.kids++flatK (l.drop (n+1)):=by
  rw [← HA hf]
  unfold flatK
  rw [← List.flatten_append,← List.map_append,List.take_append_drop]
 have h2:flatK (askL l n f p name)=flatK (l.take n)++insL f.kids p (l.length:Int)++flatK (l.drop (n+1)):=by
  unfold askL
  rw [List.set_eq_take_append_cons_drop,if_pos hlt]
  unfold flatK
  simp [noFt]
 unfold cntK
 rw [h1,h2]
 simp only [List.count_append,(J6 (L:=f.kids) (p:=p) (x:=(l.length:Int))).count_eq,List.count_cons,beq_iff_eq]
 by_cases hj:j=(l.length:Int)
 · rw [if_pos hj,if_pos hj.symm]; omega
 · rw [if_neg hj,if_neg (fun e=>hj e.symm)]; omega
theorem a8 (h:mayP l=true) {k:Int} (hk:k∈flatK l):1≤k∧k < (l.length:Int):=by
 unfold flatK at hk
 rw [List.mem_flatten] at hk
 obtain ⟨ks,hks,hj⟩:=hk
 obtain ⟨g,hg,rfl⟩:=List.mem_map.1 hks
 obtain ⟨i,hi,rfl⟩:=List.mem_iff_getElem.1 hg
 have:=(mayD h).kid i _ (List.getElem?_eq_getElem hi) k hj
 omega
theorem TC (h:mayP l=true) (hf:l[n]? = some f) (hd:f.isDir=true) (hr:f.rest≠1) (hp:Pos f.names name p) (hx:Dh name=true) (hne:f.names[p]? ≠ some name):mayP (askL l n f p name)=true:=by
 have hn:=(List.getElem?_eq_some_iff.1 hf).1
 have hM:=mayD h
 have hone:=hM.one f (List.mem_of_getElem? hf)
 have h1:=S8 hone hd hr hp hx hne l.length
 have hget:∀ {a:Nat} {g:FT},(askL l n f p name)[a]? = some g→(a=n∧g=insF f p name l.length)∨l[a]? = some g∨(a=l.length∧g=noFt):=fun {a g} hg=>by
  have hal:=(List.getElem?_eq_some_iff.1 hg).1
  rw [Gh] at hal
  by_cases ha:a < l.length
  · rw [Hl hn ha] at hg
    by_cases han:a=n
    · rw [if_pos han] at hg; exact .inl ⟨han,(Option.some.inj hg).symm⟩
    · rw [if_neg han] at hg; exact .inr (.inl hg)
  · obtain rfl:a=l.length:=by omega
    rw [QZ] at hg
    exact .inr (.inr ⟨rfl,(Option.some.inj hg).symm⟩)
 have hbl:Ge l.length 0 l=true:=by
  cases l with
  | nil=>rfl
  | cons x t=>simp only [mayP,Bool.and_eq_true] at h; exact h.2.2.1
 rw [DX] at hbl
 have hbe:Ge (askL l n f p name).length 0 (askL l n f p name)=true:=by
  rw [DX,Gh]
  intro a g hg k hk
  rcases hget hg with ⟨rfl,rfl⟩ | hg | ⟨_,rfl⟩
  · rcases List.mem_cons.1 ((J6 (L:=f.kids)).subset hk) with rfl | hk
    · omega
    · have:=hbl _ f hf k hk; omega
  · have:=hbl a g hg k hk; omega
  · simp [noFt] at hk
 have hall:∀ g∈askL l n f p name,g.one=true:=fun g hg=>by
  obtain ⟨a,ha,rfl⟩:=List.mem_iff_getElem.1 hg
  rcases hget (List.getElem?_eq_getElem ha) with ⟨_,e⟩ | e | ⟨_,e⟩
  · rw [e]; exact h1
  · exact hM.one _ (List.mem_of_getElem? e)
  · rw [e]; exact YX
 have hon:Ks (askL l n f p name)=true:=by
  rw [Lo]
  intro j hj1 hj2
  rw [Gh] at hj2
  rw [S9 hf]
  have honl:Ks l=true:=by
   cases l with
   | nil=>simp at hn
   | cons x t=>simp only [mayP,Bool.and_eq_true] at h; exact h.2.2.2
  by_cases hj:j=l.length
  · subst hj
    rw [if_pos rfl]
    have:cntK l (l.length:Int)=0:=by
     unfold cntK
     rw [List.count_eq_zero]
     intro hm
     have:=a8 h hm
     omega
    omega
  · rw [if_neg (by omega),Lo.1 honl j hj1 (by omega)]
 have h0:(askL l n f p name)[0]? = some (if n=0 then insF f p name l.length else l[0]'(by omega)):=by
  rw [Hl hn (by omega)]
  by_cases h0:n=0
  · rw [if_pos h0.symm,if_pos h0]
  · rw [if_neg (fun e=>h0 e.symm),if_neg h0,List.getElem?_eq_getElem (by omega)]
 have hd0:(if n=0 then insF f p name l.length else l[0]'(by omega)).isDir=true:=by
  by_cases h0:n=0
  · rw [if_pos h0]; exact hd
  · rw [if_neg h0]
    cases l with
    | nil=>simp at hn
    | cons x t=>simp only [mayP,Bool.and_eq_true] at h; exact h.1
 generalize askL l n f p name=m at h0 hbe hall hon
 cases m with
 | nil=>simp at h0
 | cons x t =>
   simp only [List.getElem?_cons_zero,Option.some.injEq] at h0
   rw [← h0] at hd0
   simp only [mayP,Bool.and_eq_true,List.all_eq_true]
   exact ⟨hd0,hall,hbe,hon⟩
theorem YY (h:mayP l=true) (hm:mayP (askL l n f p name)=true) (hf:l[n]? = some f) (hp:Pos f.names name p) {j:Nat} (hj:(j:Int)∈f.kids):Ra (insF f p name l.length) (j:Int)=Ra f (j:Int):=by
 have hn:=(List.getElem?_eq_some_iff.1 hf).1
 obtain ⟨j',g,i,s,_,_,_,hki,hsi⟩:=Lw h hf hj
 have hlen:=Cf ((mayD h).one f (List.mem_of_getElem? hf))
 have e1:=Rb h hf hki hsi
 have hf':(askL l n f p name)[n]? = some (insF f p name l.length):=by rw [Hl hn hn,if_pos rfl]
 have hk':=Ky (x:=(l.length:Int)) (show p≤f.kids.length by have:=hp.le; omega) hki
 have hs':=Ky (x:=name) hp.le hsi
 have e2:=Rb hm hf' (i:=if i < p then i else i+1) hk' hs'
 rw [e1,e2]
theorem Wb (h:mayP l=true) (hm:mayP (askL l n f p name)=true) (hf:l[n]? = some f) (hp:Pos f.names name p):∀ j,j < l.length→climb (askL l n f p name) j=climb l j:=by
 have hn:=(List.getElem?_eq_some_iff.1 hf).1
 intro j
 induction j using Nat.strongRecOn with
 | _ j ih =>
   intro hj
   by_cases h0:j=0
   · subst h0; rw [HG,HG]
   · obtain ⟨u,g,h1,h2,h3,h4⟩:=(mayD h).up j (by omega) hj
     rw [HH (mayD h) (by omega) hj h1 h2 h3]
     have hc1:cntK l (j:Int)=1:=by
      unfold Fk at h1
      split at h1
      · assumption
      · cases h1
     have hc:cntK (askL l n f p name) (j:Int)=1:=by
      rw [S9 hf,hc1,if_neg (by omega)]
     by_cases hun:u=n
     · subst hun
       rw [hf] at h3; cases h3
       have hg':(askL l u f p name)[u]? = some (insF f p name l.length):=by rw [Hl hn hn,if_pos rfl]
       have hja:(j:Int)∈(insF f p name l.length).kids:=(J6 (L:=f.kids)).symm.subset (List.mem_cons_of_mem _ h4)
       have ha:=Lp hc hg' hja
       rw [HH (mayD hm) (by omega) (by rw [Gh]; omega) ha h2 hg',ih u h2 (by omega),YY h hm hf hp h4]
     · have hg':(askL l n f p name)[u]? = some g:=by rw [Hl hn (by omega),if_neg hun]; exact h3
       have ha:=Lp hc hg' h4
       rw [HH (mayD hm) (by omega) (by rw [Gh]; omega) ha h2 hg',ih u h2 (by omega)]
theorem Wc (h:mayP l=true) (hf:l[n]? = some f) (hd:f.isDir=true) (hr:f.rest≠1) (hp:Pos f.names name p) (hx:Dh name=true) (hne:f.names[p]? ≠ some name) {m:Nat} (hm:m≤f.kids.length) (y:List Nat) :
    Ea (insF f p name l.length) m y=Ea f m y:=by
 have hone:=(mayD h).one f (List.mem_of_getElem? hf)
 have hlen:=Cf hone
 have h1:=S8 hone hd hr hp hx hne l.length
 have ha:Asc f.names:=JP hone
 have hs:sortZ (insL f.kids p (l.length:Int))=sortZ f.kids++[(l.length:Int)]:=by
  refine Xx ?_ ?_
  · refine ((FX f.kids).append_right _).trans ?_
    exact (List.perm_append_singleton _ _).trans J6.symm
  · rw [List.pairwise_append]
    refine ⟨Sn _,List.pairwise_singleton ..,fun a ha b hb=>?_⟩
    simp only [List.mem_singleton] at hb
    subst hb
    have:=(mayD h).kid n f hf a ((FX _).subset ha)
    omega
 have ht:(sortZ (insL f.kids p (l.length:Int))).take m=(sortZ f.kids).take m:=by
  rw [hs,List.take_append_of_le_length (by rw [Fe]; exact hm)]
 have hlt:∀ k∈(sortZ f.kids).take m,k < (l.length:Int):=fun k hk=>by
  have:=(mayD h).kid n f hf k ((FX _).subset (List.mem_of_mem_take hk))
  omega
 have hpk:p≤f.kids.length:=by have:=hp.le; omega
 rw [Bool.eq_iff_iff,Ic h1,Ic hone]
 constructor
 · rintro ⟨j,k,hj,hk,hkt⟩
   have hkt':k∈(sortZ f.kids).take m:=by rw [← ht]; exact hkt
   rcases Wa hp.le hj with ⟨rfl,rfl⟩ | ⟨i,hi,rfl⟩
   · have:=Y4 (x:=(l.length:Int)) hpk
     have hk':(insL f.kids j (l.length:Int))[j]? = some k:=hk
     rw [this] at hk'
     cases hk'
     have:=hlt _ hkt'
     omega
   · rcases Wa hpk hk with ⟨e,rfl⟩ | ⟨i',hi',e⟩
     · have:=hlt _ hkt'; omega
     · have:i'=i:=by
        split at e<;>split at e<;>omega
       subst this
       exact ⟨i',k,hi,hi',hkt'⟩
 · rintro ⟨i,k,hi,hk,hkt⟩
   exact ⟨_,k,Ky hp.le hi,Ky hpk hk,by show k∈(sortZ (insL f.kids p (l.length:Int))).take m; rw [ht]; exact hkt⟩
theorem Tz (h:mayP l=true) (hf:l[n]? = some f) (hd:f.isDir=true) (hr:f.rest≠1) (hp:Pos f.names name p) (hx:Dh name=true) (hne:f.names[p]? ≠ some name) (b:ND):Bw (askL l n f p name) b=Bw l b:=by
 have hn:=(List.getElem?_eq_some_iff.1 hf).1
 have hm:=TC h hf hd hr hp hx hne
 have hone:=(mayD h).one f (List.mem_of_getElem? hf)
 have hlen:=Cf hone
 have hfail:∀ j,j < l.length→Iw (askL l n f p name) b j=Iw l b j:=fun j hj=>by
  obtain ⟨g,hg⟩:∃ g,l[j]? = some g:=⟨_,List.getElem?_eq_getElem hj⟩
  rw [Hk h hg]
  have hnode:nodeA (askL l n f p name) b j=nodeA l b j:=by unfold nodeA; rw [Wb h hm hf hp j hj]
  by_cases hjn:j=n
  · subst hjn
    rw [hf] at hg; cases hg
    rw [Hk hm (show (askL l j f p name)[j]? = some (insF f p name l.length) by rw [Hl hn hn,if_pos rfl]),hnode]
    have hE:∀ L,Be (insF f p name l.length) L=Be f L:=fun L=>by
     unfold Be
     show (if f.rest=1 then _ else if f.rest=2 then L.any fun x=>!Ea (insF f p name l.length) f.beside.toNat x else true)=_
     rw [if_neg hr,if_neg hr]
     rcases N7 hone hd with h0 | h0 | ⟨h0,h1,h2⟩
     · rw [if_neg (by omega),if_neg (by omega)]
     · exact absurd h0 hr
     · rw [if_pos h0,if_pos h0]
       congr 1
       funext y
       rw [Wc h hf hd hr hp hx hne (by omega) y]
    unfold LZ
    rw [hE]
  · rw [Hk hm (show (askL l n f p name)[j]? = some g by rw [Hl hn hj,if_neg hjn]; exact hg),hnode]
 rw [Bool.eq_iff_iff,Kz,Kz]
 constructor
 · rintro ⟨_,h2,h3⟩
   exact ⟨h,h2,fun j hj=>by rw [← hfail j hj]; exact h3 j (by rw [Gh]; omega)⟩
 · rintro ⟨_,h2,h3⟩
   refine ⟨hm,h2,fun j hj=>?_⟩
   rw [Gh] at hj
   by_cases hjl:j < l.length
   · rw [hfail j hjl]; exact h3 j hjl
   · obtain rfl:j=l.length:=by omega
     rw [Hk hm QZ]
     rfl
theorem bB (h:mayP l=true) (hf:l[n]? = some f) (name:List Nat) (he:(askP l n name).2.2=0) (b:ND) :
    Bw (askP l n name).1 b=Bw l b∧(askP l n name).2.1 < ((askP l n name).1.length:Int)∧mayP (askP l n name).1=true:=by
 have hn:=(List.getElem?_eq_some_iff.1 hf).1
 have hz:C3 l n=0:=by unfold C3; rw [h,if_pos rfl,if_pos ⟨by omega,by omega⟩]
 have hC:changeP l n (askW name) (askD l name)=if askW name f=0 then (l.set n (askD l name f),0) else ([],askW name f):=by
  unfold changeP
  rw [if_pos hz,Int.toNat_natCast,hf]
 have hZ:askZ l n name=if askW name f=0 then askN l name f else -1:=by
  unfold askZ
  rw [if_pos hz,Int.toNat_natCast,hf]
 unfold askP at he ⊢
 rw [hC,hZ] at he ⊢
 by_cases hW:askW name f=0
 · rw [if_pos hW,if_pos hW] at he ⊢
   rw [if_pos rfl]
   have hone:=(mayD h).one f (List.mem_of_getElem? hf)
   have hlen:=Cf hone
   have hdn:f.isDir=true∧Dh name=true:=by
    unfold askW at hW
    cases h1:f.isDir<;>cases h2:Dh name<;>rw [h1,h2] at hW<;>simp at hW ⊢
   obtain ⟨p,hp⟩:=Sp (JP hone) name
   have hpe:=Rl hp
   by_cases hfd:f.names[p]? = some name
   · have hB:Hs f name=true:=by unfold Hs; rw [hpe]; exact decide_eq_true hfd
     have hD:askD l name f=f:=by unfold askD; rw [hB,if_pos rfl]
     have hpl:p < f.kids.length:=by have:=(List.getElem?_eq_some_iff.1 hfd).1; omega
     have hN:askN l name f=f.kids[p]:=by
      unfold askN
      rw [hB,if_pos rfl,hpe,List.getD_eq_getElem?_getD,List.getElem?_eq_getElem hpl]; rfl
     have hk:=(mayD h).kid n f hf f.kids[p] (List.getElem_mem hpl)
     have hs:l.set n f=l:=Jz hf
     simp only
     rw [hN,hD,hs,if_neg (by omega),List.append_nil]
     exact ⟨rfl,by omega,h⟩
   · have hB:Hs f name=false:=by unfold Hs; rw [hpe]; exact decide_eq_false hfd
     by_cases hr:f.rest=1
     · have hD:askD l name f=f:=by unfold askD; rw [hB,if_neg (by simp),if_pos hr]
       have hN:askN l name f = -1:=by unfold askN; rw [hB,if_neg (by simp),if_pos hr]
       have hs:l.set n f=l:=Jz hf
       simp only
       rw [hN,hD,hs,if_neg (by omega),List.append_nil]
       exact ⟨rfl,by omega,h⟩
     · have hD:askD l name f=insF f p name l.length:=by unfold askD; rw [hB,if_neg (by simp),if_neg hr,hpe]
       have hN:askN l name f=(l.length:Int):=by unfold askN; rw [hB,if_neg (by simp),if_neg hr]
       simp only
       rw [hN,hD,if_pos rfl]
       refine ⟨Tz h hf hdn.1 hr hp hdn.2 hfd b,?_,TC h hf hdn.1 hr hp hdn.2 hfd⟩
       show (l.length:Int) < ((askL l n f p name).length:Int)
       rw [Gh]; omega
 · rw [if_neg hW] at he
   simp only at he
   rw [if_neg hW] at he
   exact absurd he hW
end
end Go.Proofs.YtgloinighjdhlaaGreat

namespace Go.Proofs.YtgloinighjdhlaaGreat
open Go.Proofs.YtgloinighjdhlaaGreat.Am
attribute [local irreducible] W WO WE WQ WD Tr.get Tr.set
theorem N8:∀ {l:List FT} {c:Nat},(∀ f∈l,f.kids.length≤c)→(flatK l).length≤l.length*c
 | [],c,_=>by simp [flatK]
 | f::l,c,h=>by
   have h1:=N8 (l:=l) (c:=c) fun g hg=>h g (by simp [hg])
   have h2:=h f (by simp)
   have:flatK (f::l)=f.kids++flatK l:=by simp [flatK]
   rw [this,List.length_append,List.length_cons,Nat.add_mul]
   omega
theorem bD {l:List FT} (ho:FOk l) (hs:Small l) (n:Int) {name:List Nat} (hn:Txt name) (hnl:name.length≤300):FOk (askP l n name).1:=by
 have hnil:FOk ([]:List FT):=FOk.nil
 have hof:noFt.Ok:=⟨by decide,fun l hl=>by simp [noFt] at hl,by decide,by decide⟩
 have key:∀ m:List FT,m.length≤61→(∀ g∈m,g.Ok∧g.kids.length≤61)→FOk m:=fun m h1 h2 =>
  ⟨fun g hg=>(h2 g hg).1,by omega,by have:=N8 (c:=61) fun g hg=>(h2 g hg).2; have:m.length*61≤61*61:=Nat.mul_le_mul_right _ h1; omega⟩
 have hD:∀ f∈l,(askD l name f).Ok∧(askD l name f).kids.length≤61:=fun f hf=>by
  have hfo:=ho.ok f hf
  have h1:=hs.nm f hf
  have h2:=hs.kd f hf
  unfold askD
  split
  · exact ⟨hfo,by omega⟩
  · split
    · exact ⟨hfo,by omega⟩
    · refine ⟨⟨hfo.kind,fun t ht=>?_,?_,?_⟩,?_⟩
      · rcases List.mem_cons.1 (J6.subset ht) with rfl | ht
        · exact ⟨hn,by omega⟩
        · exact hfo.names t ht
      · show (insL _ _ _).length < _
        rw [JS]; omega
      · show (insL _ _ _).length < _
        rw [JS]; omega
      · show (insL _ _ _).length≤_
        rw [JS]; omega
 have hL:=hs.len
 have hC:(changeP l n (askW name) (askD l name)).1.length≤60∧∀ g∈(changeP l n (askW name) (askD l name)).1,g.Ok∧g.kids.length≤61:=by
  unfold changeP
  split
  · split
    · rename_i f hf
      split
      · refine ⟨by rw [List.length_set]; exact hL,fun g hg=>?_⟩
        rcases List.mem_or_eq_of_mem_set hg with hg | rfl
        · exact ⟨ho.ok g hg,by have:=hs.kd g hg; omega⟩
        · exact hD f (List.mem_of_getElem? hf)
      · exact ⟨by simp,fun g hg=>by simp at hg⟩
    · exact ⟨by simp,fun g hg=>by simp at hg⟩
  · exact ⟨by simp,fun g hg=>by simp at hg⟩
 unfold askP
 split
 · split
   · refine key _ ?_ fun g hg=>?_
     · show (_++[noFt]).length≤61
       rw [List.length_append,List.length_singleton]; omega
     · rcases List.mem_append.1 hg with hg | hg
       · exact hC.2 g hg
       · simp only [List.mem_singleton] at hg
         subst hg
         exact ⟨hof,by decide⟩
   · rw [List.append_nil]
     exact key _ (Nat.le_trans hC.1 (by omega)) hC.2
 · exact hnil
def rrS (k:Nat):C:=subC AF.body (List.replicate k 1)
def KWS (s:St):Ex→Tr→St→Prop:=KF s AF.res AF.cout (.b true)
theorem I3 (s:St) (f:Bool) (n:Nat) (l:List AV):Fx s (.ws f n l)=some (.ws f n l,s):=rfl
section
variable {s q:St} {e:Tr} {l:List FT} {b:ND} {i mb:Nat} {f:FT} {name:List Nat}
theorem s17 (hw:Wf q) (ov:Over s q) {M:List FT} (hM:FOk M) (hmM:mayP M=true) {bt:Int} {H kn:Bool} (h1:bt=0∨bt=1) (h2:bt=1→H=true) (h3:H=true→kn=true→bt=1)
    (g9:e.get 9=.b H) (g17:e.get 17=.i .i64 bt) (g19:e.get 19=fx M) (g21:e.get 21=.b kn):W (lim prog) (rrS 17) e q (KWS s):=by
 have hcall:=Ms M hM.ok hM.len hM.fl q hw
 rw [hmM] at hcall
 show W _ (subC AF.body [1,1,1,1,1,1,1,1,1,1,1,1,1,1,1,1,1]) _ _ (KF s _ _ (.b true))
 have z1:((0:Int)≤1)=True:=by simp
 have z2:((1:Int)≤1)=True:=by simp
 have z3:((0:Int)=0)=True:=by simp
 have z4:((1:Int)=0)=False:=by simp
 have z5:((0:Int)=1)=False:=by simp
 have z6:((1:Int)=1)=True:=by simp
 unfold fx at hcall g19
 rcases h1 with rfl | rfl
 · cases H with
   | false =>
     simp only [AF,subC,go_sem,AE,AA,AD,AC,KB_n,KB_x,Nat.reduceBEq,Nat.reduceAdd,Nat.reduceLT,Nat.reduceLeDiff,Nat.reduceEqDiff,reduceIte,Int.reduceEq,reduceCtorEq,g9,g17,g19,g21,hcall,z1,z3,z5]
     exact AK ov rfl rfl
   | true =>
     cases kn with
     | true=>have:=h3 rfl rfl; omega
     | false =>
       simp only [AF,subC,go_sem,AE,AA,AD,AC,KB_n,KB_x,Nat.reduceBEq,Nat.reduceAdd,Nat.reduceLT,Nat.reduceLeDiff,Nat.reduceEqDiff,reduceIte,Int.reduceEq,reduceCtorEq,g9,g17,g19,g21,hcall,z1,z3,z5]
       exact AK ov rfl rfl
 · cases H with
   | false=>have:=h2 rfl; cases this
   | true =>
     cases kn with
     | true =>
       simp only [AF,subC,go_sem,AE,AA,AD,AC,KB_n,KB_x,Nat.reduceBEq,Nat.reduceAdd,Nat.reduceLT,Nat.reduceLeDiff,Nat.reduceEqDiff,reduceIte,Int.reduceEq,reduceCtorEq,g9,g17,g19,g21,hcall,z2,z4,z6]
       exact AK ov rfl rfl
     | false =>
       simp only [AF,subC,go_sem,AE,AA,AD,AC,KB_n,KB_x,Nat.reduceBEq,Nat.reduceAdd,Nat.reduceLT,Nat.reduceLeDiff,Nat.reduceEqDiff,reduceIte,Int.reduceEq,reduceCtorEq,g9,g17,g19,g21,hcall,z2,z4,z6]
       exact AK ov rfl rfl
def knA (l:List FT) (k:Int):Bool:=match l[k.toNat]? with
 | some g=>g.known
 | none=>false
theorem s16 (hw:Wf q) (ov:Over s q) {M:List FT} (hM:FOk M) (hmM:mayP M=true) {bt:Int} {H:Bool} (hm:mayP l=true) (hf:l[i]? = some f) (hfo:f.Ok) (h1:bt=0∨bt=1) (h2:bt=1→H=true) (h3:H=true→Ty l f=true→bt=1)
    (g0:e.get 0=fx l) (g2:e.get 2=.i .i64 (i:Nat)) (g9:e.get 9=.b H) (g17:e.get 17=.i .i64 bt) (g19:e.get 19=fx M) (g21:e.get 21=.b true):W (lim prog) (rrS 16) e q (KWS s):=by
 have hr:∀ e,e.get 9=.b H→e.get 17=.i .i64 bt→e.get 19=fx M→e.get 21=.b (Ty l f)→W (lim prog) (rrS 17) e q (KWS s):=fun e g9 g17 g19 g21=>s17 hw ov hM hmM h1 h2 h3 g9 g17 g19 g21
 show W _ (.seq (subC AF.body [1,1,1,1,1,1,1,1,1,1,1,1,1,1,1,1,0]) (rrS 17)) _ _ _
 generalize rrS 17=X at hr
 have hgi:=G9 hf
 have l3:ldA q false 1 (.ep f.cells 3 .shut)=some (zx f.kids):=rfl
 unfold KWS at hr ⊢
 unfold fx at hr g0 g19
 simp only [AF,subC,go_sem,AE,AA,AD,AC,KB_n,KB_x,Nat.reduceBEq,Nat.reduceAdd,Nat.reduceLT,Nat.reduceLeDiff,Nat.reduceEqDiff,reduceIte,Int.reduceEq,reduceCtorEq]
 refine CJ (fun x e q'=>∃ j:Nat,j+x=f.kids.length∧q'=q∧e.get 0=.ws false 6 (l.map FT.av)∧e.get 2=.i .i64 (i:Nat)∧e.get 9=.b H∧e.get 17=.i .i64 bt∧e.get 19=.ws false 6 (M.map FT.av)∧e.get 21=.b ((f.kids.take j).all (knA l))∧e.get 22=.i .i64 (j:Nat)) ?_ f.kids.length _ _ ?_
 · clear g0 g2 g9 g17 g19 g21
   rintro x e q' ⟨j,hjx,rfl,g0,g2,g9,g17,g19,g21,g22⟩
   by_cases h:j < f.kids.length
   · have e1:((j:Int) < (f.kids.length:Int))=True:=eq_true (by omega)
     obtain ⟨k,hk⟩:∃ k,f.kids[j]? = some k:=⟨_,List.getElem?_eq_getElem h⟩
     have hk2:=LG hk
     obtain ⟨jj,g,_,_,rfl,_,hg,_,_⟩:=Lw hm hf (List.mem_of_getElem? hk)
     have hgg:=G9 hg
     have hw1:=Af (show j+1 < 2^63 by have:=hfo.klen; omega)
     have hall:(f.kids.take (j+1)).all (knA l)=((f.kids.take j).all (knA l)&&g.known):=by
      rw [List.take_add_one,hk]
      simp [knA,hg]
     cases ha:(f.kids.take j).all (knA l) with
     | false =>
       rw [ha] at g21 hall
       rw [Bool.false_and] at hall
       simp only [go_sem,AE,AA,AD,AC,KB_n,KB_x,Nat.reduceBEq,Nat.reduceAdd,Nat.reduceLT,Nat.reduceLeDiff,Nat.reduceEqDiff,reduceIte,Int.reduceEq,reduceCtorEq,g0,g2,g9,g17,g19,g21,g22,I3,AH,hgi,Bh,l3,zx,List.length_map,e1,hw1]
       refine ⟨x - 1,by omega,j+1,by omega,?_⟩
       rw [hall]; simp
     | true =>
       rw [ha] at g21 hall
       rw [Bool.true_and] at hall
       have l0:ldA q' false 1 (.ep g.cells 0 .shut)=some (.b g.known):=rfl
       simp only [go_sem,AE,AA,AD,AC,KB_n,KB_x,Nat.reduceBEq,Nat.reduceAdd,Nat.reduceLT,Nat.reduceLeDiff,Nat.reduceEqDiff,reduceIte,Int.reduceEq,reduceCtorEq,g0,g2,g9,g17,g19,g21,g22,I3,AH,hgi,Bh,l3,zx,List.length_map,e1,hk2,EC,C6,hgg,l0,hw1]
       refine ⟨x - 1,by omega,j+1,by omega,?_⟩
       rw [hall]; simp
   · have e1:((j:Int) < (f.kids.length:Int))=False:=eq_false (by omega)
     have hj:f.kids.take j=f.kids:=List.take_of_length_le (by omega)
     rw [hj] at g21
     simp only [go_sem,AE,AA,AD,AC,KB_n,KB_x,Nat.reduceBEq,Nat.reduceAdd,Nat.reduceLT,Nat.reduceLeDiff,Nat.reduceEqDiff,reduceIte,Int.reduceEq,reduceCtorEq,g0,g2,g9,g17,g19,g21,g22,I3,AH,hgi,Bh,l3,zx,List.length_map,e1]
     refine hr _ ?_ ?_ ?_ ?_<;>simp only [go_sem,AE,AA,AD,AC,KB_n,KB_x,Nat.reduceBEq,Nat.reduceAdd,Nat.reduceLT,Nat.reduceLeDiff,Nat.reduceEqDiff,reduceIte,Int.reduceEq,reduceCtorEq,g9,g17,g19,g21]
     rfl
 · simp only [go_sem,AE,AA,AD,AC,KB_n,KB_x,Nat.reduceBEq,Nat.reduceAdd,Nat.reduceLT,Nat.reduceLeDiff,Nat.reduceEqDiff,reduceIte,Int.reduceEq,reduceCtorEq,g0,g2,g9,g17,g19,g21]
   refine ⟨0,by omega,?_⟩
   simp
end
end Go.Proofs.YtgloinighjdhlaaGreat

namespace Go.Proofs.YtgloinighjdhlaaGreat
open Go.Proofs.YtgloinighjdhlaaGreat.Am
attribute [local irreducible] W WO WE WQ WD Tr.get Tr.set
structure EV (l:List FT) (b:ND) (i:Nat) (mb:Nat) (e:Tr):Prop where
 g0:e.get 0=fx l
 g2:e.get 2=.i .i64 (i:Nat)
 g5:e.get 5=.p mb 0
 g9:e.get 9=.b (Bw l b)
structure Giv (l:List FT) (b:ND) (i:Nat) (f:FT):Prop where
 ho:FOk l
 hs:Small l
 hm:mayP l=true
 hf:l[i]? = some f
 hb:b.Ok
 hn:nodesN b < 2^62
section
variable {s q:St} {e:Tr} {l:List FT} {b:ND} {i mb:Nat} {f:FT} {name:List Nat}
theorem s14 (G:Giv l b i f) (H:Hp s q s.en [] [(mb,.cells 37 b.cells)]) {bt:Int} (h0:(Dd l i).2≠0→bt=0)
    (hz:(Dd l i).2=0→mayP (Dd l i).1=true∧(bt=0∨bt=1)∧(bt=1→Bw l b=true)∧(Bw l b=true→Ty l f=true→bt=1))
    (E:EV l b i mb e) (g17:e.get 17=.i .i64 bt) (g19:e.get 19=fx (Dd l i).1) (g20:e.get 20=.i .i64 (Dd l i).2):W (lim prog) (rrS 14) e q (KWS s):=by
 obtain ⟨g0,g2,g5,g9⟩:=E
 have hr:∀ e,(Dd l i).2=0→e.get 0=fx l→e.get 2=.i .i64 (i:Nat)→e.get 9=.b (Bw l b)→e.get 17=.i .i64 bt→e.get 19=fx (Dd l i).1→e.get 21=.b true→W (lim prog) (rrS 16) e q (KWS s):=fun e hz' g0 g2 g9 g17 g19 g21=>by
  obtain ⟨k1,k2,k3,k4⟩:=hz hz'
  exact s16 H.wf H.over (G.ho.more _) k1 G.hm G.hf (G.ho.ok _ (List.mem_of_getElem? G.hf)) k2 k3 k4 g0 g2 g9 g17 g19 g21
 show W _ (.seq (subC AF.body [1,1,1,1,1,1,1,1,1,1,1,1,1,1,0]) (.seq (subC AF.body [1,1,1,1,1,1,1,1,1,1,1,1,1,1,1,0]) (rrS 16))) _ _ _
 generalize rrS 16=X at hr
 unfold KWS at hr ⊢
 unfold fx at hr g0 g19
 by_cases he:(Dd l i).2=0
 · have e1:((Dd l i).2≠0)=False:=by simp [he]
   simp only [AF,subC,go_sem,AE,AA,AD,AC,KB_n,KB_x,Nat.reduceBEq,Nat.reduceAdd,Nat.reduceLT,Nat.reduceLeDiff,Nat.reduceEqDiff,reduceIte,Int.reduceEq,reduceCtorEq,g20,e1]
   refine hr _ he ?_ ?_ ?_ ?_ ?_ ?_<;>simp only [go_sem,AE,AA,AD,AC,KB_n,KB_x,Nat.reduceBEq,Nat.reduceAdd,Nat.reduceLT,Nat.reduceLeDiff,Nat.reduceEqDiff,reduceIte,Int.reduceEq,reduceCtorEq,g0,g2,g9,g17,g19]
 · have e1:((Dd l i).2≠0)=True:=by simp [he]
   have:=h0 he
   subst this
   have e2:((0:Int)=0)=True:=by simp
   simp only [AF,subC,go_sem,AE,AA,AD,AC,KB_n,KB_x,Nat.reduceBEq,Nat.reduceAdd,Nat.reduceLT,Nat.reduceLeDiff,Nat.reduceEqDiff,reduceIte,Int.reduceEq,reduceCtorEq,g17,g20,e1,e2]
   exact AK H.over rfl rfl
theorem s12 (G:Giv l b i f) (H:Hp s q s.en [] [(mb,.cells 37 b.cells)])
    (E:EV l b i mb e) (g17:e.get 17=.i .i64 (if whB l b i then 1 else 0)):W (lim prog) (rrS 12) e q (KWS s):=by
 have E0:=E
 obtain ⟨g0,g2,g5,g9⟩:=E
 have hmo:=QM l G.ho (i:Int) (a0:=fx l) .ws H.wf
 have hho:=holds_ok (Dd l i).1 (G.ho.more _) b G.hb G.hn q H.wf
 have lb:=H.ldw (m:=4) 0 rfl rfl
 have hr:∀ e bt,((Dd l i).2≠0→bt=0)→((Dd l i).2=0→mayP (Dd l i).1=true∧(bt=0∨bt=1)∧(bt=1→Bw l b=true)∧(Bw l b=true→Ty l f=true→bt=1))→e.get 0=fx l→e.get 2=.i .i64 (i:Nat)→e.get 5=.p mb 0→e.get 9=.b (Bw l b)→e.get 17=.i .i64 bt→e.get 19=fx (Dd l i).1→e.get 20=.i .i64 (Dd l i).2→W (lim prog) (rrS 14) e q (KWS s) :=
  fun e bt h0 hz g0 g2 g5 g9 g17 g19 g20=>s14 G H h0 hz ⟨g0,g2,g5,g9⟩ g17 g19 g20
 show W _ (.seq (subC AF.body [1,1,1,1,1,1,1,1,1,1,1,1,0]) (.seq (subC AF.body [1,1,1,1,1,1,1,1,1,1,1,1,1,0]) (rrS 14))) _ _ _
 generalize rrS 14=X at hr
 have w01:IntKind.i64.wrap ((0:Int)+1)=1:=by decide
 unfold KWS at hr ⊢
 unfold tupR at hmo
 by_cases he:(Dd l i).2=0
 · have e1:((Dd l i).2=0)=True:=by simp [he]
   obtain ⟨k1,k2,k3,k4⟩:=YW G.hm G.hf he b
   have hmb:moB l b i=Bw (Dd l i).1 b:=by unfold moB; rw [decide_eq_true he,Bool.true_and]
   unfold fx at hr g0 hmo hho
   cases hh:Bw (Dd l i).1 b with
   | true =>
     rw [hh] at hho hmb
     have hwf:whB l b i=false:=by
      cases hw:whB l b i with
      | false=>rfl
      | true=>exact absurd ⟨hw,hmb⟩ k2
     rw [hwf,if_neg (by simp)] at g17
     simp only [AF,subC,go_sem,AE,AA,AD,AC,KB_n,KB_x,Nat.reduceBEq,Nat.reduceAdd,Nat.reduceLT,Nat.reduceLeDiff,Nat.reduceEqDiff,reduceIte,Int.reduceEq,reduceCtorEq,g0,g2,g5,g17,hmo,e1,lb,AY,hho,w01]
     refine hr _ 1 (fun h=>absurd he h) (fun _=>⟨k1,.inr rfl,fun _=>k3 (.inr hmb),fun _ _=>rfl⟩) ?_ ?_ ?_ ?_ ?_ ?_ ?_<;>simp only [go_sem,AE,AA,AD,AC,KB_n,KB_x,Nat.reduceBEq,Nat.reduceAdd,Nat.reduceLT,Nat.reduceLeDiff,Nat.reduceEqDiff,reduceIte,Int.reduceEq,reduceCtorEq,g0,g2,g5,g9]
   | false =>
     rw [hh] at hho hmb
     simp only [AF,subC,go_sem,AE,AA,AD,AC,KB_n,KB_x,Nat.reduceBEq,Nat.reduceAdd,Nat.reduceLT,Nat.reduceLeDiff,Nat.reduceEqDiff,reduceIte,Int.reduceEq,reduceCtorEq,g0,g2,g5,g17,hmo,e1,lb,AY,hho,w01]
     refine hr _ (if whB l b i then 1 else 0) (fun h=>absurd he h) (fun _=>⟨k1,?_,?_,?_⟩) ?_ ?_ ?_ ?_ ?_ ?_ ?_
     · cases whB l b i<;>simp
     · cases hw:whB l b i with
       | true=>exact fun _=>k3 (.inl hw)
       | false=>exact fun h=>by simp at h
     · intro a1 a2
       rcases k4 a1 a2 with hw | hw
       · rw [hw]; rfl
       · rw [hmb] at hw; cases hw
     all_goals simp only [go_sem,AE,AA,AD,AC,KB_n,KB_x,Nat.reduceBEq,Nat.reduceAdd,Nat.reduceLT,Nat.reduceLeDiff,Nat.reduceEqDiff,reduceIte,Int.reduceEq,reduceCtorEq,g0,g2,g5,g9,g17]
 · have e1:((Dd l i).2=0)=False:=by simp [he]
   have hwf:=YV G.hm G.hf he b
   rw [hwf,if_neg (by simp)] at g17
   unfold fx at hr g0 hmo
   simp only [AF,subC,go_sem,AE,AA,AD,AC,KB_n,KB_x,Nat.reduceBEq,Nat.reduceAdd,Nat.reduceLT,Nat.reduceLeDiff,Nat.reduceEqDiff,reduceIte,Int.reduceEq,reduceCtorEq,g0,g2,g5,g17,hmo,e1]
   refine hr _ 0 (fun _=>rfl) (fun h=>absurd h he) ?_ ?_ ?_ ?_ ?_ ?_ ?_<;>simp only [go_sem,AE,AA,AD,AC,KB_n,KB_x,Nat.reduceBEq,Nat.reduceAdd,Nat.reduceLT,Nat.reduceLeDiff,Nat.reduceEqDiff,reduceIte,Int.reduceEq,reduceCtorEq,g0,g2,g5,g9,g17]
theorem s9 (G:Giv l b i f) (H:Hp s q s.en [] [(mb,.cells 37 b.cells)]) (E:EV l b i mb e):W (lim prog) (rrS 9) e q (KWS s):=by
 obtain ⟨g0,g2,g5,g9⟩:=E
 have hwh:=O4 l G.ho (i:Int) (a0:=fx l) .ws H.wf
 have hho:=holds_ok (Fu l i).1 (G.ho.whole _) b G.hb G.hn q H.wf
 have lb:=H.ldw (m:=4) 0 rfl rfl
 have hr:∀ e,e.get 0=fx l→e.get 2=.i .i64 (i:Nat)→e.get 5=.p mb 0→e.get 9=.b (Bw l b)→e.get 17=.i .i64 (if whB l b i then 1 else 0)→W (lim prog) (rrS 12) e q (KWS s) :=
  fun e g0 g2 g5 g9 g17=>s12 G H ⟨g0,g2,g5,g9⟩ g17
 show W _ (.seq (subC AF.body [1,1,1,1,1,1,1,1,1,0]) (.seq (subC AF.body [1,1,1,1,1,1,1,1,1,1,0]) (.seq (subC AF.body [1,1,1,1,1,1,1,1,1,1,1,0]) (rrS 12)))) _ _ _
 generalize rrS 12=X at hr
 have w01:IntKind.i64.wrap ((0:Int)+1)=1:=by decide
 unfold KWS at hr ⊢
 unfold tupR at hwh
 unfold whB at hr
 unfold fx at hr g0 hwh hho
 by_cases he:(Fu l i).2=0
 · have e1:((Fu l i).2=0)=True:=by simp [he]
   rw [decide_eq_true he,Bool.true_and] at hr
   cases hh:Bw (Fu l i).1 b with
   | true =>
     rw [hh] at hho hr
     simp only [AF,subC,go_sem,AE,AA,AD,AC,KB_n,KB_x,Nat.reduceBEq,Nat.reduceAdd,Nat.reduceLT,Nat.reduceLeDiff,Nat.reduceEqDiff,reduceIte,Int.reduceEq,reduceCtorEq,g0,g2,g5,hwh,e1,lb,AY,hho,w01]
     refine hr _ ?_ ?_ ?_ ?_ ?_<;>simp only [go_sem,AE,AA,AD,AC,KB_n,KB_x,Nat.reduceBEq,Nat.reduceAdd,Nat.reduceLT,Nat.reduceLeDiff,Nat.reduceEqDiff,reduceIte,Int.reduceEq,reduceCtorEq,g0,g2,g5,g9]
   | false =>
     rw [hh] at hho hr
     simp only [AF,subC,go_sem,AE,AA,AD,AC,KB_n,KB_x,Nat.reduceBEq,Nat.reduceAdd,Nat.reduceLT,Nat.reduceLeDiff,Nat.reduceEqDiff,reduceIte,Int.reduceEq,reduceCtorEq,g0,g2,g5,hwh,e1,lb,AY,hho,w01]
     refine hr _ ?_ ?_ ?_ ?_ ?_<;>simp only [go_sem,AE,AA,AD,AC,KB_n,KB_x,Nat.reduceBEq,Nat.reduceAdd,Nat.reduceLT,Nat.reduceLeDiff,Nat.reduceEqDiff,reduceIte,Int.reduceEq,reduceCtorEq,g0,g2,g5,g9]
 · have e1:((Fu l i).2=0)=False:=by simp [he]
   rw [decide_eq_false he,Bool.false_and] at hr
   simp only [AF,subC,go_sem,AE,AA,AD,AC,KB_n,KB_x,Nat.reduceBEq,Nat.reduceAdd,Nat.reduceLT,Nat.reduceLeDiff,Nat.reduceEqDiff,reduceIte,Int.reduceEq,reduceCtorEq,g0,g2,g5,hwh,e1]
   refine hr _ ?_ ?_ ?_ ?_ ?_<;>simp only [go_sem,AE,AA,AD,AC,KB_n,KB_x,Nat.reduceBEq,Nat.reduceAdd,Nat.reduceLT,Nat.reduceLeDiff,Nat.reduceEqDiff,reduceIte,Int.reduceEq,reduceCtorEq,g0,g2,g5,g9]
theorem s7 (G:Giv l b i f) (hn:Txt name) (hnl:name.length≤300) (H:Hp s q s.en [] [(mb,.cells 37 b.cells)]) (E:EV l b i mb e) (g3:e.get 3=.s name):W (lim prog) (rrS 7) e q (KWS s):=by
 obtain ⟨g0,g2,g5,g9⟩:=E
 have hok:=bD G.ho G.hs (i:Int) hn hnl
 have hask:=Ro l G.ho (i:Int) hn (a0:=fx l) .ws H.wf
 have hho:=holds_ok (askP l i name).1 hok b G.hb G.hn q H.wf
 have hma:=Ms (askP l i name).1 hok.ok hok.len hok.fl q H.wf
 have lb:=H.ldw (m:=4) 0 rfl rfl
 have hr:∀ e,e.get 0=fx l→e.get 2=.i .i64 (i:Nat)→e.get 5=.p mb 0→e.get 9=.b (Bw l b)→W (lim prog) (rrS 9) e q (KWS s) :=
  fun e g0 g2 g5 g9=>s9 G H ⟨g0,g2,g5,g9⟩
 show W _ (.seq (subC AF.body [1,1,1,1,1,1,1,0]) (.seq (subC AF.body [1,1,1,1,1,1,1,1,0]) (rrS 9))) _ _ _
 generalize rrS 9=X at hr
 have hlaw:=bB G.hm G.hf name (b:=b)
 generalize hA:askP l i name=A at *
 obtain ⟨L,k,er⟩:=A
 simp only at hask hho hma hlaw
 unfold KWS at hr ⊢
 unfold fx at hr g0 hask hho hma
 by_cases he:er=0
 · have e1:(er=0)=True:=by simp [he]
   obtain ⟨k1,k2,k3⟩:=hlaw he
   have e2:((L.length:Int)≤k)=False:=eq_false (by omega)
   rw [k1] at hho
   rw [k3] at hma
   cases hh:Bw l b with
   | true =>
     rw [hh] at hho hr g9
     simp only [AF,subC,go_sem,AE,AA,AD,AC,KB_n,KB_x,Nat.reduceBEq,Nat.reduceAdd,Nat.reduceLT,Nat.reduceLeDiff,Nat.reduceEqDiff,reduceIte,Int.reduceEq,reduceCtorEq,g0,g2,g3,g5,g9,hask,e1,lb,AY,hho,List.length_map,e2,hma]
     refine hr _ ?_ ?_ ?_ ?_<;>simp only [go_sem,AE,AA,AD,AC,KB_n,KB_x,Nat.reduceBEq,Nat.reduceAdd,Nat.reduceLT,Nat.reduceLeDiff,Nat.reduceEqDiff,reduceIte,Int.reduceEq,reduceCtorEq,g0,g2,g5,g9]
   | false =>
     rw [hh] at hho hr g9
     simp only [AF,subC,go_sem,AE,AA,AD,AC,KB_n,KB_x,Nat.reduceBEq,Nat.reduceAdd,Nat.reduceLT,Nat.reduceLeDiff,Nat.reduceEqDiff,reduceIte,Int.reduceEq,reduceCtorEq,g0,g2,g3,g5,g9,hask,e1,lb,AY,hho,List.length_map,e2,hma]
     refine hr _ ?_ ?_ ?_ ?_<;>simp only [go_sem,AE,AA,AD,AC,KB_n,KB_x,Nat.reduceBEq,Nat.reduceAdd,Nat.reduceLT,Nat.reduceLeDiff,Nat.reduceEqDiff,reduceIte,Int.reduceEq,reduceCtorEq,g0,g2,g5,g9]
 · have e1:(er=0)=False:=by simp [he]
   simp only [AF,subC,go_sem,AE,AA,AD,AC,KB_n,KB_x,Nat.reduceBEq,Nat.reduceAdd,Nat.reduceLT,Nat.reduceLeDiff,Nat.reduceEqDiff,reduceIte,Int.reduceEq,reduceCtorEq,g0,g2,g3,g5,g9,hask,e1]
   refine hr _ ?_ ?_ ?_ ?_<;>simp only [go_sem,AE,AA,AD,AC,KB_n,KB_x,Nat.reduceBEq,Nat.reduceAdd,Nat.reduceLT,Nat.reduceLeDiff,Nat.reduceEqDiff,reduceIte,Int.reduceEq,reduceCtorEq,g0,g2,g5,g9]
end
end Go.Proofs.YtgloinighjdhlaaGreat

namespace Go.Proofs.YtgloinighjdhlaaGreat
open Go.Proofs.YtgloinighjdhlaaGreat.Am
attribute [local irreducible] W WO WE WQ WD Tr.get Tr.set
section
variable {s q:St} {e:Tr} {l:List FT} {b:ND} {i mb:Nat} {f:FT} {name:List Nat}
theorem s6 (G:Giv l b i f) (hn:Txt name) (hnl:name.length≤300) (H:Hp s q s.en [] [(mb,.cells 37 b.cells)]) (E:EV l b i mb e) (g3:e.get 3=.s name) (g10:e.get 10=.i .i64 (knC l b i 4:Nat)):W (lim prog) (rrS 6) e q (KWS s):=by
 obtain ⟨g0,g2,g5,g9⟩:=E
 have hr:∀ e,e.get 0=fx l→e.get 2=.i .i64 (i:Nat)→e.get 5=.p mb 0→e.get 9=.b (Bw l b)→e.get 3=.s name→W (lim prog) (rrS 7) e q (KWS s) :=
  fun e g0 g2 g5 g9 g3=>s7 G hn hnl H ⟨g0,g2,g5,g9⟩ g3
 show W _ (.seq (subC AF.body [1,1,1,1,1,1,0]) (rrS 7)) _ _ _
 generalize rrS 7=X at hr
 obtain ⟨k1,k2⟩:=YT G.hm G.hf b
 have hgi:=G9 G.hf
 have l0:ldA q false 1 (.ep f.cells 0 .shut)=some (.b f.known):=rfl
 unfold KWS at hr ⊢
 unfold fx at hr g0
 generalize knC l b i 4=c at *
 cases hh:Bw l b with
 | false =>
   have hc:c=0:=Nat.eq_zero_of_not_pos fun h=>by rw [k1 h] at hh; cases hh
   subst hc
   have e1:((0:Int) < ((0:Nat):Int))=False:=by simp
   rw [hh] at g9 hr
   simp only [AF,subC,go_sem,AE,AA,AD,AC,KB_n,KB_x,Nat.reduceBEq,Nat.reduceAdd,Nat.reduceLT,Nat.reduceLeDiff,Nat.reduceEqDiff,reduceIte,Int.reduceEq,reduceCtorEq,g0,g9,g10,I3,e1]
   refine hr _ ?_ ?_ ?_ ?_ ?_<;>simp only [go_sem,AE,AA,AD,AC,KB_n,KB_x,Nat.reduceBEq,Nat.reduceAdd,Nat.reduceLT,Nat.reduceLeDiff,Nat.reduceEqDiff,reduceIte,Int.reduceEq,reduceCtorEq,g0,g2,g5,g9,g3]
 | true =>
   rw [hh] at g9 hr
   cases hk:f.known with
   | true =>
     rw [hk] at l0
     rcases Classical.propComplete ((0:Int) < ((c:Nat):Int)) with e1 | e1
     · simp only [AF,subC,go_sem,AE,AA,AD,AC,KB_n,KB_x,Nat.reduceBEq,Nat.reduceAdd,Nat.reduceLT,Nat.reduceLeDiff,Nat.reduceEqDiff,reduceIte,Int.reduceEq,reduceCtorEq,g0,g2,g9,g10,I3,e1,AH,hgi,Bh,l0]
       refine hr _ ?_ ?_ ?_ ?_ ?_<;>simp only [go_sem,AE,AA,AD,AC,KB_n,KB_x,Nat.reduceBEq,Nat.reduceAdd,Nat.reduceLT,Nat.reduceLeDiff,Nat.reduceEqDiff,reduceIte,Int.reduceEq,reduceCtorEq,g0,g2,g5,g9,g3]
     · simp only [AF,subC,go_sem,AE,AA,AD,AC,KB_n,KB_x,Nat.reduceBEq,Nat.reduceAdd,Nat.reduceLT,Nat.reduceLeDiff,Nat.reduceEqDiff,reduceIte,Int.reduceEq,reduceCtorEq,g0,g2,g9,g10,I3,e1,AH,hgi,Bh,l0]
       refine hr _ ?_ ?_ ?_ ?_ ?_<;>simp only [go_sem,AE,AA,AD,AC,KB_n,KB_x,Nat.reduceBEq,Nat.reduceAdd,Nat.reduceLT,Nat.reduceLeDiff,Nat.reduceEqDiff,reduceIte,Int.reduceEq,reduceCtorEq,g0,g2,g5,g9,g3]
   | false =>
     rw [hk] at l0
     have hc:=k2 hh hk
     subst hc
     have e1:((0:Int) < ((1:Nat):Int))=True:=by simp
     have e2:((((1:Nat):Int))≠1)=False:=by simp
     simp only [AF,subC,go_sem,AE,AA,AD,AC,KB_n,KB_x,Nat.reduceBEq,Nat.reduceAdd,Nat.reduceLT,Nat.reduceLeDiff,Nat.reduceEqDiff,reduceIte,Int.reduceEq,reduceCtorEq,g0,g2,g9,g10,I3,e1,AH,hgi,Bh,l0,e2]
     refine hr _ ?_ ?_ ?_ ?_ ?_<;>simp only [go_sem,AE,AA,AD,AC,KB_n,KB_x,Nat.reduceBEq,Nat.reduceAdd,Nat.reduceLT,Nat.reduceLeDiff,Nat.reduceEqDiff,reduceIte,Int.reduceEq,reduceCtorEq,g0,g2,g5,g9,g3]
theorem wrapU8 {k:Nat} (h:k≤3):IntKind.u8.wrap ((k:Int)+1)=((k+1:Nat):Int):=by
 rcases (show k=0∨k=1∨k=2∨k=3 by omega) with rfl | rfl | rfl | rfl<;>decide
theorem knC_le (l:List FT) (b:ND) (n j:Nat):knC l b n j≤j:=by
 unfold knC
 have:=List.countP_le_length (p:=knB l b n) (l:=List.range j)
 rwa [List.length_range] at this
theorem s4 (G:Giv l b i f) (hn:Txt name) (hnl:name.length≤300) (H:Hp s q s.en [] [(mb,.cells 37 b.cells)]) (E:EV l b i mb e) (g3:e.get 3=.s name):W (lim prog) (rrS 4) e q (KWS s):=by
 obtain ⟨g0,g2,g5,g9⟩:=E
 have hr:∀ e,e.get 0=fx l→e.get 2=.i .i64 (i:Nat)→e.get 5=.p mb 0→e.get 9=.b (Bw l b)→e.get 3=.s name→e.get 10=.i .i64 (knC l b i 4:Nat)→W (lim prog) (rrS 6) e q (KWS s) :=
  fun e g0 g2 g5 g9 g3 g10=>s6 G hn hnl H ⟨g0,g2,g5,g9⟩ g3 g10
 show W _ (.seq (subC AF.body [1,1,1,1,0]) (.seq (subC AF.body [1,1,1,1,1,0]) (rrS 6))) _ _ _
 generalize rrS 6=X at hr
 have hgi:=G9 G.hf
 have l0:ldA q false 1 (.ep f.cells 0 .shut)=some (.b f.known):=rfl
 have lb:=H.ldw (m:=4) 0 rfl rfl
 unfold KWS at hr ⊢
 unfold fx at hr g0
 simp only [AF,subC,go_sem,AE,AA,AD,AC,KB_n,KB_x,Nat.reduceBEq,Nat.reduceAdd,Nat.reduceLT,Nat.reduceLeDiff,Nat.reduceEqDiff,reduceIte,Int.reduceEq,reduceCtorEq]
 refine CJ (fun x e q'=>∃ k:Nat,k+x=4∧q'=q∧e.get 0=.ws false 6 (l.map FT.av)∧e.get 2=.i .i64 (i:Nat)∧e.get 5=.p mb 0∧e.get 9=.b (Bw l b)∧e.get 3=.s name∧e.get 10=.i .i64 (knC l b i k:Nat)∧e.get 11=.i .u8 (k:Nat)) ?_ 4 _ _ ?_
 · clear g0 g2 g5 g9 g3
   rintro x e q' ⟨k,hkx,rfl,g0,g2,g5,g9,g3,g10,g11⟩
   by_cases h:k≤3
   · have e1:((k:Int)≤3)=True:=eq_true (by omega)
     have hkn:=QL l G.ho (i:Int) k (a0:=fx l) .ws H.wf
     have hho:=holds_ok (HC l i k).1 (G.ho.know _ (by omega)) b G.hb G.hn q' H.wf
     have hke:=S3 G.hm G.hf h
     have hw8:=wrapU8 h
     have hsucc:=J5 l b i k
     have hcl:=knC_le l b i k
     unfold tupR at hkn
     unfold fx at hkn hho
     cases hk:f.known with
     | true =>
       have hne:¬ (HC l i k).2=0:=fun hh=>by have:=hke.1 hh; rw [hk] at this; cases this
       have e2:((HC l i k).2=0)=False:=by simp [hne]
       have hB:knB l b i k=false:=by unfold knB; rw [decide_eq_false hne,Bool.false_and]
       rw [hB,if_neg (by simp),Nat.add_zero] at hsucc
       rw [hk] at l0
       simp only [go_sem,AE,AA,AD,AC,KB_n,KB_x,Nat.reduceBEq,Nat.reduceAdd,Nat.reduceLT,Nat.reduceLeDiff,Nat.reduceEqDiff,reduceIte,Int.reduceEq,reduceCtorEq,g0,g2,g5,g9,g3,g10,g11,e1,hkn,I3,e2,AH,hgi,Bh,l0,hw8]
       refine ⟨x - 1,by omega,k+1,by omega,?_⟩
       rw [hsucc]; simp
     | false =>
       have hz:=hke.2 hk
       have e2:((HC l i k).2=0)=True:=by simp [hz]
       rw [hk] at l0
       have hB:knB l b i k=Bw (HC l i k).1 b:=by unfold knB; rw [decide_eq_true hz,Bool.true_and]
       rw [hB] at hsucc
       cases hh:Bw (HC l i k).1 b with
       | true =>
         rw [hh] at hho hsucc
         rw [if_pos rfl] at hsucc
         have hw1:=Af (show knC l b i k+1 < 2^63 by omega)
         simp only [go_sem,AE,AA,AD,AC,KB_n,KB_x,Nat.reduceBEq,Nat.reduceAdd,Nat.reduceLT,Nat.reduceLeDiff,Nat.reduceEqDiff,reduceIte,Int.reduceEq,reduceCtorEq,g0,g2,g5,g9,g3,g10,g11,e1,hkn,I3,e2,AH,hgi,Bh,l0,lb,AY,hho,hw1,hw8]
         refine ⟨x - 1,by omega,k+1,by omega,?_⟩
         rw [hsucc]; simp
       | false =>
         rw [hh] at hho hsucc
         rw [if_neg (by simp),Nat.add_zero] at hsucc
         simp only [go_sem,AE,AA,AD,AC,KB_n,KB_x,Nat.reduceBEq,Nat.reduceAdd,Nat.reduceLT,Nat.reduceLeDiff,Nat.reduceEqDiff,reduceIte,Int.reduceEq,reduceCtorEq,g0,g2,g5,g9,g3,g10,g11,e1,hkn,I3,e2,AH,hgi,Bh,l0,lb,AY,hho,hw8]
         refine ⟨x - 1,by omega,k+1,by omega,?_⟩
         rw [hsucc]; simp
   · have e1:((k:Int)≤3)=False:=eq_false (by omega)
     obtain rfl:k=4:=by omega
     simp only [go_sem,AE,AA,AD,AC,KB_n,KB_x,Nat.reduceBEq,Nat.reduceAdd,Nat.reduceLT,Nat.reduceLeDiff,Nat.reduceEqDiff,reduceIte,Int.reduceEq,reduceCtorEq,g0,g2,g5,g9,g3,g10,g11,e1]
     refine hr _ ?_ ?_ ?_ ?_ ?_ ?_<;>simp only [go_sem,AE,AA,AD,AC,KB_n,KB_x,Nat.reduceBEq,Nat.reduceAdd,Nat.reduceLT,Nat.reduceLeDiff,Nat.reduceEqDiff,reduceIte,Int.reduceEq,reduceCtorEq,g0,g2,g5,g9,g3,g10]
 · simp only [go_sem,AE,AA,AD,AC,KB_n,KB_x,Nat.reduceBEq,Nat.reduceAdd,Nat.reduceLT,Nat.reduceLeDiff,Nat.reduceEqDiff,reduceIte,Int.reduceEq,reduceCtorEq,g0,g2,g5,g9,g3]
   refine ⟨0,by omega,?_⟩
   simp [knC]
theorem s2 (ho:FOk l) (hs:Small l) (hb:b.Ok) (hnb:nodesN b < 2^62) {n:Int} (hn:Txt name) (hnl:name.length≤300) (H:Hp s q s.en [] [(mb,.cells 37 b.cells)]) (g0:e.get 0=fx l) (g2:e.get 2=.i .i64 n) (g5:e.get 5=.p mb 0) (g3:e.get 3=.s name):W (lim prog) (rrS 2) e q (KWS s):=by
 have hma:=Ms l ho.ok ho.len ho.fl q H.wf
 have hho:=holds_ok l ho b hb hnb q H.wf
 have lb:=H.ldw (m:=4) 0 rfl rfl
 have hr:∀ e (i:Nat) f,mayP l=true→l[i]? = some f→e.get 0=fx l→e.get 2=.i .i64 (i:Nat)→e.get 5=.p mb 0→e.get 9=.b (Bw l b)→e.get 3=.s name→W (lim prog) (rrS 4) e q (KWS s) :=
  fun e i f hm hf g0 g2 g5 g9 g3=>s4 ⟨ho,hs,hm,hf,hb,hnb⟩ hn hnl H ⟨g0,g2,g5,g9⟩ g3
 show W _ (.seq (subC AF.body [1,1,0]) (.seq (subC AF.body [1,1,1,0]) (rrS 4))) _ _ _
 generalize rrS 4=X at hr
 unfold KWS at hr ⊢
 unfold fx at hr g0 hma hho
 cases hm:mayP l with
 | false =>
   rw [hm] at hma
   simp only [AF,subC,go_sem,AE,AA,AD,AC,KB_n,KB_x,Nat.reduceBEq,Nat.reduceAdd,Nat.reduceLT,Nat.reduceLeDiff,Nat.reduceEqDiff,reduceIte,Int.reduceEq,reduceCtorEq,g0,hma]
   exact AK H.over rfl rfl
 | true =>
   rw [hm] at hma
   by_cases n1:n < 0
   · have e1:(n < 0)=True:=by simp [n1]
     simp only [AF,subC,go_sem,AE,AA,AD,AC,KB_n,KB_x,Nat.reduceBEq,Nat.reduceAdd,Nat.reduceLT,Nat.reduceLeDiff,Nat.reduceEqDiff,reduceIte,Int.reduceEq,reduceCtorEq,g0,g2,hma,e1]
     exact AK H.over rfl rfl
   · have e1:(n < 0)=False:=by simp [n1]
     by_cases n2:(l.length:Int)≤n
     · have e2:((l.length:Int)≤n)=True:=by simp [n2]
       simp only [AF,subC,go_sem,AE,AA,AD,AC,KB_n,KB_x,Nat.reduceBEq,Nat.reduceAdd,Nat.reduceLT,Nat.reduceLeDiff,Nat.reduceEqDiff,reduceIte,Int.reduceEq,reduceCtorEq,g0,g2,hma,e1,List.length_map,e2]
       exact AK H.over rfl rfl
     · obtain ⟨i,rfl⟩:∃ i:Nat,n=(i:Int):=⟨n.toNat,by omega⟩
       have e2:((l.length:Int)≤(i:Int))=False:=eq_false (by omega)
       have hil:i < l.length:=by omega
       simp only [AF,subC,go_sem,AE,AA,AD,AC,KB_n,KB_x,Nat.reduceBEq,Nat.reduceAdd,Nat.reduceLT,Nat.reduceLeDiff,Nat.reduceEqDiff,reduceIte,Int.reduceEq,reduceCtorEq,g0,g2,g5,hma,e1,List.length_map,e2,lb,AY,hho]
       refine hr _ i l[i] hm (List.getElem?_eq_getElem hil) ?_ ?_ ?_ ?_ ?_<;>simp only [go_sem,AE,AA,AD,AC,KB_n,KB_x,Nat.reduceBEq,Nat.reduceAdd,Nat.reduceLT,Nat.reduceLeDiff,Nat.reduceEqDiff,reduceIte,Int.reduceEq,reduceCtorEq,g0,g2,g5,g3]
theorem s1 (ho:FOk l) (hb:b.Ok) (hnb:nodesN b < 2^62) {n:Int} (hn:Txt name) (H:Hp s q s.en [] [(mb,.cells 37 b.cells)]) (g0:e.get 0=fx l) (g2:e.get 2=.i .i64 n) (g5:e.get 5=.p mb 0) (g3:e.get 3=.s name):W (lim prog) (rrS 1) e q (KWS s):=by
 have hlo:=YR l ho.ok q H.wf
 have hm7:=Ts b hb hnb q H.wf
 have hn7:=LM b hb hnb q H.wf
 have haw:(lim prog).call CZ [] q=some (.b true,q):=VW Hh rfl rfl
 have lb:=H.ldw (m:=4) 0 rfl rfl
 have hr:∀ e,Small l→name.length≤300→e.get 0=fx l→e.get 2=.i .i64 n→e.get 5=.p mb 0→e.get 3=.s name→W (lim prog) (rrS 2) e q (KWS s) :=
  fun e hs hnl g0 g2 g5 g3=>s2 ho hs hb hnb hn hnl H g0 g2 g5 g3
 show W _ (.seq (subC AF.body [1,0]) (rrS 2)) _ _ _
 generalize rrS 2=X at hr
 unfold KWS at hr ⊢
 unfold fx at hr g0 hlo
 have hend:∀ v,KR s AF.cout (.b true) (some ([.b true],q))∨v:=fun _=>.inl (AK H.over rfl rfl)
 cases hL:NX l with
 | true =>
   rw [hL] at hlo
   simp only [AF,subC,go_sem,AE,AA,AD,AC,KB_n,KB_x,Nat.reduceBEq,Nat.reduceAdd,Nat.reduceLT,Nat.reduceLeDiff,Nat.reduceEqDiff,reduceIte,Int.reduceEq,reduceCtorEq,g0,hlo,haw]
   exact AK H.over rfl rfl
 | false =>
   rw [hL] at hlo
   have hs:=Tx hL
   by_cases hnl:300 < name.length
   · have e1:((300:Int) < (name.length:Int))=True:=eq_true (by omega)
     simp only [AF,subC,go_sem,AE,AA,AD,AC,KB_n,KB_x,Nat.reduceBEq,Nat.reduceAdd,Nat.reduceLT,Nat.reduceLeDiff,Nat.reduceEqDiff,reduceIte,Int.reduceEq,reduceCtorEq,g0,g3,hlo,e1,haw]
     exact AK H.over rfl rfl
   · have e1:((300:Int) < (name.length:Int))=False:=eq_false (by omega)
     cases hM:mayN b with
     | false =>
       rw [hM] at hm7
       simp only [AF,subC,go_sem,AE,AA,AD,AC,KB_n,KB_x,Nat.reduceBEq,Nat.reduceAdd,Nat.reduceLT,Nat.reduceLeDiff,Nat.reduceEqDiff,reduceIte,Int.reduceEq,reduceCtorEq,g0,g3,g5,hlo,e1,lb,AY,hm7,haw]
       exact AK H.over rfl rfl
     | true =>
       rw [hM] at hm7
       rcases Classical.propComplete ((150:Int) < ((nodesN b:Nat):Int)) with e2 | e2
       · simp only [AF,subC,go_sem,AE,AA,AD,AC,KB_n,KB_x,Nat.reduceBEq,Nat.reduceAdd,Nat.reduceLT,Nat.reduceLeDiff,Nat.reduceEqDiff,reduceIte,Int.reduceEq,reduceCtorEq,g0,g3,g5,hlo,e1,lb,AY,hm7,hn7,e2,haw]
         exact AK H.over rfl rfl
       · simp only [AF,subC,go_sem,AE,AA,AD,AC,KB_n,KB_x,Nat.reduceBEq,Nat.reduceAdd,Nat.reduceLT,Nat.reduceLeDiff,Nat.reduceEqDiff,reduceIte,Int.reduceEq,reduceCtorEq,g0,g3,g5,hlo,e1,lb,AY,hm7,hn7,e2,haw]
         refine hr _ hs (by omega) ?_ ?_ ?_ ?_<;>simp only [go_sem,AE,AA,AD,AC,KB_n,KB_x,Nat.reduceBEq,Nat.reduceAdd,Nat.reduceLT,Nat.reduceLeDiff,Nat.reduceEqDiff,reduceIte,Int.reduceEq,reduceCtorEq,g0,g2,g5,g3]
end
theorem Rs (l:List FT) (b:ND) (n:Int) (name:List Nat) (ho:FOk l) (hb:b.Ok) (hnb:nodesN b < 2^62) (hn:Txt name) (s:St) (hw:Wf s) :
    (lim prog).call EE [fx l,.agg b.cells,.i .i64 n,.s name] s=some (.b true,s):=by
 refine fn_W GW rfl rfl ?_
 have hz0:wkZ AF.cin [fx l,.agg b.cells,.i .i64 n,.s name]=[fx l,.agg b.cells,.i .i64 n,.s name]:=by
  simp only [AF,wkZ,Ft .ws,wk]
  simp [ND.cells,wkZ,wk,fx]
 rw [hz0]
 have H1:=(Hp.begin hw).new (.cells 37 b.cells)
 generalize hq1:s.enter.new (.cells 37 b.cells)=q1 at H1
 generalize hm1:s.enter.nb=m1 at H1
 have hr:∀ e,e.get 0=fx l→e.get 2=.i .i64 n→e.get 5=.p m1 0→e.get 3=.s name→W (lim prog) (rrS 1) e q1 (KWS s):=fun e g0 g2 g5 g3=>s1 ho hb hnb hn H1 g0 g2 g5 g3
 unfold KWS at hr
 show W _ (.seq (subC AF.body [0]) (rrS 1)) _ _ _
 generalize rrS 1=X at hr
 unfold fx at hr ⊢
 simp only [AF,subC,go_sem,AE,AA,AD,AC,KB_n,KB_x,Nat.reduceBEq,Nat.reduceAdd,Nat.reduceLT,Nat.reduceLeDiff,Nat.reduceEqDiff,reduceIte,Int.reduceEq,reduceCtorEq,Ay,hq1,hm1] at hr ⊢
 refine hr _ ?_ ?_ ?_ ?_<;>simp only [go_sem,AE,AA,AD,AC,KB_n,KB_x,Nat.reduceBEq,Nat.reduceAdd,Nat.reduceLT,Nat.reduceLeDiff,Nat.reduceEqDiff,reduceIte,Int.reduceEq,reduceCtorEq]
end Go.Proofs.YtgloinighjdhlaaGreat
