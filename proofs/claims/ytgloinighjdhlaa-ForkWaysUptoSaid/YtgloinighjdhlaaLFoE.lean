/-
  store.own over the law's own program: names and kids as boxes.
-/
import Derived.Test.YtgloinighjdhlaaLFo1
import Derived.Test.YtgloinighjdhlaaLink
import Derived.Test.YtgloinighjdhlaaProg
set_option linter.all false
set_option linter.unusedVariables false
set_option linter.unusedSimpArgs false
set_option linter.unusedSectionVars false
set_option maxRecDepth 100000
set_option maxHeartbeats 4000000
namespace Go.Proofs.Ytgloinighjdhlaa
open Go.Proofs.Ytgloinighjdhlaa.Am
attribute [local irreducible] W WO WE WQ WD Tr.get Tr.set
abbrev rowK (id:Nat) (K:List KQ):Nat×Box:=(id,.row 60 (CU (K.map KQ.av)) false 0)
def RowZ (s0 q:St) (n:En) (v:AV) (l:List FT) (K:List KQ):Prop:=(Hp s0 q n [⟨6,60,v,l.map FT.av,true⟩] []∧Av v≠none∧K=l.map Mw)∨(∃ id,v=.bl id 6 0 l.length (l.length*6,false)∧Hp s0 q n [] (rowK id K::bxs K))
theorem RowZ.thaw {s0 q:St} {n:En} {v:AV} {l:List FT} {K:List KQ} (h:RowZ s0 q n v l K) (f:FT) :
    ∃ q1,stA (q.new (.cells 60 [.b false,.i .u8 0,.nsl,.nsl,.i .i64 0,.i .i64 0])) 6 (.p q.nb 0) (.agg f.cells)=some q1∧∃ id q2,FO q1 v=some (.bl id 6 0 l.length (l.length*6,false),q2)∧Hp s0 q2 n [] (rowK id K::(q.nb,.cells 60 f.cells)::bxs K):=by
 rcases h with ⟨H,hv,rfl⟩ | ⟨id,rfl,H⟩
 · obtain ⟨q1,d1,H1,n1⟩:=H.adp (T:=60) (m:=6) (z:=[.b false,.i .u8 0,.nsl,.nsl,.i .i64 0,.i .i64 0]) (v:=.agg f.cells) rfl ⟨rfl,rfl⟩
   obtain ⟨q2,d2,H2,n2⟩:=H1.thaw 0 rfl hv [] (by simp) (by simp)
   rw [List.length_map] at d2
   unfold rowK
   rw [Yq,WA]
   exact ⟨q1,d1,_,q2,d2,H2⟩
 · obtain ⟨q1,d1,H1,n1⟩:=H.adp (T:=60) (m:=6) (z:=[.b false,.i .u8 0,.nsl,.nsl,.i .i64 0,.i .i64 0]) (v:=.agg f.cells) rfl ⟨rfl,rfl⟩
   refine ⟨q1,d1,id,q1,rfl,H1.perm (.refl _) (.swap _ _ _)⟩
theorem own_bx {s0 s:St} {n:En} (H:Hp s0 s n [] []) (l:List FT) (hne:l≠[]) (ho:FOk l) :
    ∃ r s',(lim Ay).call Ep [fx l] s=some (r,s')∧∃ id K,r=.bl id 6 0 l.length (l.length*6,false)∧Hp s0 s' n [] (rowK id K::bxs K)∧KBk K∧K.map KQ.f=l:=by
 have hpos:=List.length_pos_iff.2 hne
 have hll:=ho.len
 have hz0:wkZ DN.cin [fx l]=[fx l]:=by simp only [DN,wkZ,fx,wk]
 refine fn_K (t:=2) (s:=s) (args:=[fx l]) (Post:=fun r s'=>∃ id K,r=.bl id 6 0 l.length (l.length*6,false)∧Hp s0 s' n [] (rowK id K::bxs K)∧KBk K∧K.map KQ.f=l) PG rfl rfl rfl (by
     rw [hz0]
     cases l with
     | nil=>exact absurd rfl hne
     | cons f t=>rfl) ?_
 rw [hz0]
 have HE:=H.enter
 obtain ⟨r1,q1,d1,H1,n1,hr1⟩:=SE HE l hne hll
 unfold fx at d1
 simp only [DN,go_sem,AE,AA,AC,AB,KB_n,KB_x,Nat.reduceBEq,Nat.reduceAdd,Nat.reduceLT,Nat.reduceLeDiff,Nat.reduceEqDiff,reduceIte,Int.reduceEq,reduceCtorEq,fx,List.length_map,d1]
 refine CH (fun x e q=>∃ (i:Nat) (v:AV) (K:List KQ),i+x=l.length∧RowZ s0 q s.en v l K∧(0 < i→Av v=none)∧(∀ j p,j < i→K[j]? = some p→okC p.nm (p.f.names.map .s)∧okC p.a (p.f.kids.map iv))∧K.map KQ.f=l∧(∀ j f,i≤j→l[j]? = some f→K[j]? = some (Mw f))∧e.get 3=v∧e.get 8=fx l∧e.get 9=.i .i64 (l.length:Nat)∧e.get 10=.i .i64 (i:Nat)) ?_ l.length _ _ ?_
 · rintro x e q ⟨i,v,K,hix,hro,hiv,hK,hKf,hKb,g3,g8,g9,g10⟩
   by_cases h:i < l.length
   · have h1:((i:Int) < (l.length:Int))=True:=eq_true (by omega)
     obtain ⟨f,hf⟩:∃ f,l[i]? = some f:=⟨_,List.getElem?_eq_getElem h⟩
     have hfo:=ho.ok f (List.mem_of_getElem? hf)
     have hg2:=Fc hf
     have hw1:=A9 (show i+1 < 2^63 by omega)
     have hlt:(i < l.length)=True:=by simp [h]
     have hKi:=hKb i f (Nat.le_refl _) hf
     have hlK:K.length=l.length:=by rw [← hKf,List.length_map]
     obtain ⟨q2,d2,id,q3,d3,H3⟩:=hro.thaw f
     generalize hb:q.nb=b at d2 H3
     obtain ⟨ra0,s4,ra,q4,d4,d5,H4,ok4⟩:=WC H3 f.names (by have:=hfo.nlen; omega)
     obtain ⟨rb0,s5,rb,q5,d6,d7,H5,ok5⟩:=UP H4 f.kids (by have:=hfo.klen; omega)
     have l2:=H3.ld 1 (off:=2) (v:=tx f.names) rfl rfl
     have l3a:=H3.ld 1 (off:=3) (v:=zx f.kids) rfl rfl
     have l3b:=H4.ld 1 (off:=3) (v:=zx f.kids) rfl rfl
     have hfl:=MY K
     have H5':Hp s0 q5 s.en [] (rowK id K::(b,.cells 60 f.cells)::(bxs K++cb 9 ra (f.names.map .s)++cb 3 rb (f.kids.map iv))):=H5
     obtain ⟨q6,d8,H6⟩:=H5'.stR 0 (off:=i*6+2) (v:=ra) rfl (by rw [hfl,hlK]; omega) (PI ok4)
     have e6:(Mw f).cells.set 2 ra=(⟨f,ra,zx f.kids⟩:KQ).cells:=rfl
     rw [OE hKi (by omega) e6] at H6
     have hK1:(K.set i ⟨f,ra,zx f.kids⟩)[i]? = some ⟨f,ra,zx f.kids⟩:=by rw [List.getElem?_set,if_pos rfl,if_pos (by omega)]
     obtain ⟨q7,d9,H7⟩:=H6.stR 0 (off:=i*6+3) (v:=rb) rfl (by rw [MY,List.length_set,hlK]; omega) (PI ok5)
     have e7:(⟨f,ra,zx f.kids⟩:KQ).cells.set 3 rb=(⟨f,ra,rb⟩:KQ).cells:=rfl
     have hss:(K.set i ⟨f,ra,zx f.kids⟩).set i ⟨f,ra,rb⟩=K.set i ⟨f,ra,rb⟩:=List.set_set ..
     rw [OE hK1 (by omega) e7,hss] at H7
     have H7':Hp s0 q7 s.en [] (rowK id (K.set i ⟨f,ra,rb⟩)::(b,.cells 60 f.cells)::(bxs K++cb 9 ra (f.names.map .s)++cb 3 rb (f.kids.map iv))):=H7
     have hperm:(bxs K++cb 9 ra (f.names.map .s)++cb 3 rb (f.kids.map iv)).Perm (bxs (K.set i ⟨f,ra,rb⟩)):=by
      refine .trans ?_ (UN (φ:=bx1) hKi (g:=⟨f,ra,rb⟩)).symm
      have h0:=WB (φ:=bx1) hKi
      have hb0:bx1 (Mw f)=[]:=rfl
      rw [hb0,List.nil_append] at h0
      rw [List.append_assoc]
      exact (h0.append_right _).trans List.perm_append_comm
     have H8:Hp s0 q7 s.en [] (rowK id (K.set i ⟨f,ra,rb⟩)::bxs (K.set i ⟨f,ra,rb⟩)) :=
      ((H7'.perm (.refl _) ((List.Perm.swap _ _ _).trans ((hperm.cons _).cons _))).dropB)
     have hst:=V6 f.kids
     unfold zx at l3a l3b d6 hst
     unfold tx at l2 d4
     simp only [go_sem,AE,AA,AC,AB,KB_n,KB_x,Nat.reduceBEq,Nat.reduceAdd,Nat.reduceLT,Nat.reduceLeDiff,Nat.reduceEqDiff,reduceIte,Int.reduceEq,reduceCtorEq,g3,g8,g9,g10,fx,h1,AI,hg2,Bx,Ax,AW,d2,hb,d3]
     refine Tx rfl ?_
     simp only [go_sem,AE,AA,AC,AB,KB_n,KB_x,Nat.reduceBEq,Nat.reduceAdd,Nat.reduceLT,Nat.reduceLeDiff,Nat.reduceEqDiff,reduceIte,Int.reduceEq,reduceCtorEq,l2,d4,d5,l3b,d6,d7,AI,hlt,Nat.zero_add,d8,d9]
     refine Vq rfl ?_ hst ⟨⟨_,rfl,l3b⟩,⟨_,rfl,l3a⟩,⟨_,rfl,l3b⟩,⟨_,rfl,l3b⟩,trivial⟩ (Tz ?_)
     · simp only [go_sem,AE,AA,AC,AB,KB_n,KB_x,Nat.reduceBEq,Nat.reduceAdd,Nat.reduceLT,Nat.reduceLeDiff,Nat.reduceEqDiff,reduceIte,Int.reduceEq,reduceCtorEq]
     simp only [go_sem,AE,AA,AC,AB,KB_n,KB_x,Nat.reduceBEq,Nat.reduceAdd,Nat.reduceLT,Nat.reduceLeDiff,Nat.reduceEqDiff,reduceIte,Int.reduceEq,reduceCtorEq,g8,g9,g10,fx,hw1]
     refine ⟨x - 1,by omega,i+1,_,_,by omega,.inr ⟨id,rfl,H8⟩,fun _=>rfl,?_,?_,?_,rfl,rfl⟩
     · intro j p hji hp
       rw [List.getElem?_set] at hp
       by_cases hij:i=j
       · rw [if_pos hij,if_pos (by omega)] at hp
         cases hp; exact ⟨ok4,ok5⟩
       · rw [if_neg hij] at hp
         exact hK j p (by omega) hp
     · rw [List.map_set,hKf]; exact RR hf
     · intro j g hij hg
       rw [List.getElem?_set,if_neg (by omega)]
       exact hKb j g (by omega) hg
   · have h1:((i:Int) < (l.length:Int))=False:=eq_false (by omega)
     simp only [go_sem,AE,AA,AC,AB,KB_n,KB_x,Nat.reduceBEq,Nat.reduceAdd,Nat.reduceLT,Nat.reduceLeDiff,Nat.reduceEqDiff,reduceIte,Int.reduceEq,reduceCtorEq,g3,g8,g9,g10,h1,KK_n,KK_r]
     rcases hro with ⟨_,hv,_⟩ | ⟨id,rfl,H9⟩
     · exact absurd (hiv (by omega)) hv
     · refine ⟨id,K,rfl,H.back H9,fun p hp=>?_,hKf⟩
       obtain ⟨j,hj,rfl⟩:=List.mem_iff_getElem.1 hp
       exact hK j _ (by rw [← hKf,List.length_map] at h; omega) (List.getElem?_eq_getElem hj)
 · simp only [go_sem,AE,AA,AC,AB,KB_n,KB_x,Nat.reduceBEq,Nat.reduceAdd,Nat.reduceLT,Nat.reduceLeDiff,Nat.reduceEqDiff,reduceIte,Int.reduceEq,reduceCtorEq]
   refine ⟨0,r1,l.map Mw,by omega,.inl ⟨H1,hr1,rfl⟩,fun h=>absurd h (by omega),fun j p h=>absurd h (by omega),base_f l,?_,rfl,rfl,rfl⟩
   intro j f _ hf
   rw [List.getElem?_map,hf]; rfl
/-! ### What is done to a fact in a row -/
theorem stKB {s0 s:St} {n:En} {id:Nat} {K:List KQ} {R:List RA} {B:List (Nat×Box)} (H:Hp s0 s n R (rowK id K::B)) {i j:Nat} {p:KQ} {g:FT} (hp:K[i]? = some p) (hj:j < 6) {v:AV} (hv:v.cells=[v]∧ones [v]=true) (hc:p.cells.set j v=(⟨g,p.nm,p.a⟩:KQ).cells) :
    ∃ s',stA s 1 (.p id (i*6+j)) v=some s'∧Hp s0 s' n R (rowK id (K.set i ⟨g,p.nm,p.a⟩)::B):=by
 have hil:=(List.getElem?_eq_some_iff.1 hp).1
 obtain ⟨s',d,H'⟩:=H.stR 0 (off:=i*6+j) (v:=v) rfl (by rw [MY]; omega) hv
 rw [OE hp hj hc] at H'
 exact ⟨s',d,H'⟩
theorem Kw {K:List KQ} {i:Nat} {p:KQ} (h:K[i]? = some p) {g:FT} (hn:g.names=p.f.names) (hk:g.kids=p.f.kids):bxs (K.set i ⟨g,p.nm,p.a⟩)=bxs K:=by
 induction K generalizing i with
 | nil=>simp at h
 | cons q K ih =>
   cases i with
   | zero =>
     simp only [List.getElem?_cons_zero,Option.some.injEq] at h
     subst h
     show bx1 ⟨g,q.nm,q.a⟩++bxs K=bx1 q++bxs K
     unfold bx1
     rw [hn,hk]
   | succ i =>
     show bx1 q++bxs (K.set i ⟨g,p.nm,p.a⟩)=bx1 q++bxs K
     rw [ih (by simpa using h)]
theorem KBk.setF {K:List KQ} (h:KBk K) {i:Nat} {p:KQ} (hp:K[i]? = some p) {g:FT} (hn:g.names=p.f.names) (hk:g.kids=p.f.kids):KBk (K.set i ⟨g,p.nm,p.a⟩):=h.set (by
 have:=h p (List.mem_of_getElem? hp)
 rw [hn,hk]; exact this)
theorem YY {K:List KQ} {l:List FT} (hl:K.map KQ.f=l) {i:Nat} {f:FT} (hf:l[i]? = some f):∃ p,K[i]? = some p∧p.f=f:=by
 subst hl
 rw [List.getElem?_map] at hf
 cases hp:K[i]? with
 | none=>rw [hp] at hf; cases hf
 | some p=>rw [hp] at hf; exact ⟨p,rfl,Option.some.inj hf⟩
theorem Jb {α:Type} {K:List α} {i:Nat} {p:α} (h:K[i]? = some p) (g:α):(K.set i g)[i]? = some g:=by
 rw [List.getElem?_set,if_pos rfl,if_pos (List.getElem?_eq_some_iff.1 h).1]
theorem UR {s0 s s1:St} {n:En} {R:List RA} {B B':List (Nat×Box)} (H:Hp s0 s n R B) (H':Hp s0 s1 s.en R B') (hB:B'.map (·.1)=B.map (·.1)) (v:AV):Hp s0 (Am.leave s s1 v) n R B':=by
 refine H.leave (n1:=s.en) H' v (fun {i p} hp=>?_) (.inr fun {i r k} hr hk=>(H.rows hr).tok_lt hk)
 have h1:(B'.map (·.1))[i]? = some p.1:=by rw [List.getElem?_map,hp]; rfl
 rw [hB,List.getElem?_map] at h1
 cases hq:B[i]? with
 | none=>rw [hq] at h1; cases h1
 | some q =>
   rw [hq] at h1
   simp only [Option.map_some,Option.some.injEq] at h1
   rw [← h1]
   exact (H.box hq).2.2
def RowB (s0 s:St) (n:En) (id:Nat) (l:List FT) (R:List RA) (B:List (Nat×Box)):Prop:=∃ K,Hp s0 s n R (rowK id K::(bxs K++B))∧KBk K∧K.map KQ.f=l
theorem US {s0 s:St} {n:En} {id:Nat} {l:List FT} {R:List RA} {B:List (Nat×Box)} (h:RowB s0 s n id l R B) {i:Nat} {f:FT} (hf:l[i]? = some f) :
    ∃ s',Dk (lim Ay) (.fn CN []) [.p id (i*6)] s=some (.tup [],s')∧RowB s0 s' n id (l.set i { f with rest:=1,beside:=0 }) R B:=by
 obtain ⟨r,s',hc,rfl,hP⟩:=fn_G (f:=CN) (args:=[.p id (i*6)]) (s:=s) (Post:=fun r s'=>r=.tup []∧RowB s0 s' n id (l.set i { f with rest:=1,beside:=0 }) R B) Kh rfl rfl (by
  obtain ⟨K,H,hK,hl⟩:=h
  obtain ⟨p,hp,rfl⟩:=YY hl hf
  obtain ⟨q1,d1,H1⟩:=stKB H.enter hp (j:=4) (g:={ p.f with rest:=1 }) (v:=.i .i64 1) (by omega) ⟨rfl,rfl⟩ rfl
  obtain ⟨q2,d2,H2⟩:=stKB H1 (Jb hp _) (j:=5) (g:={ p.f with rest:=1,beside:=0 }) (v:=.i .i64 0) (by omega) ⟨rfl,rfl⟩ rfl
  rw [List.set_set] at H2
  simp only [Cl,go_sem,AE,AA,AC,AB,KB_n,KB_x,Nat.reduceBEq,Nat.reduceAdd,Nat.reduceLT,Nat.reduceLeDiff,Nat.reduceEqDiff,reduceIte,Int.reduceEq,reduceCtorEq,d1,d2]
  have hb:=Kw hp (g:={ p.f with rest:=1,beside:=0 }) rfl rfl
  refine ⟨_,_,rfl,rfl,K.set i ⟨{ p.f with rest:=1,beside:=0 },p.nm,p.a⟩,?_,hK.setF hp rfl rfl,?_⟩
  · rw [hb]
    exact UR H H2 rfl _
  · rw [List.map_set,hl])
 exact ⟨s',hc,hP⟩
theorem MU {a:AV} {xs:List AV} (h:okC a xs) (q:St):lenA q 1 a=some (.i .i64 (xs.length:Nat))∧(∀ q:St,ldR q (some a)=some (a,q))∧ldQ (some a)=true:=by
 rcases h with ⟨id,rfl⟩ | ⟨rfl,rfl⟩
 · exact ⟨rfl,fun _=>rfl,rfl⟩
 · exact ⟨rfl,fun _=>rfl,rfl⟩
theorem WF {s0 s:St} {n:En} {id:Nat} {l:List FT} {R:List RA} {B:List (Nat×Box)} (h:RowB s0 s n id l R B) {i:Nat} {f:FT} (hf:l[i]? = some f) :
    ∃ s',Dk (lim Ay) (.fn Cg []) [.p id (i*6)] s=some (.tup [],s')∧RowB s0 s' n id (l.set i { f with rest:=2,beside:=(f.names.length:Int) }) R B:=by
 obtain ⟨r,s',hc,rfl,hP⟩:=fn_G (f:=Cg) (args:=[.p id (i*6)]) (s:=s) (Post:=fun r s'=>r=.tup []∧RowB s0 s' n id (l.set i { f with rest:=2,beside:=(f.names.length:Int) }) R B) MQ rfl rfl (by
  obtain ⟨K,H,hK,hl⟩:=h
  obtain ⟨p,hp,rfl⟩:=YY hl hf
  obtain ⟨hln,hpu,_⟩:=MU (hK p (List.mem_of_getElem? hp)).1 s.enter
  rw [List.length_map] at hln
  have la:=H.enter.ldR 0 (off:=i*6+2) (v:=p.nm) rfl (MX hp rfl)
  obtain ⟨q1,d1,H1⟩:=stKB H.enter hp (j:=4) (g:={ p.f with rest:=2 }) (v:=.i .i64 2) (by omega) ⟨rfl,rfl⟩ rfl
  obtain ⟨q2,d2,H2⟩:=stKB H1 (Jb hp _) (j:=5) (g:={ p.f with rest:=2,beside:=(p.f.names.length:Int) }) (v:=.i .i64 (p.f.names.length:Nat)) (by omega) ⟨rfl,rfl⟩ rfl
  rw [List.set_set] at H2
  simp only [C5,go_sem,AE,AA,AC,AB,KB_n,KB_x,Nat.reduceBEq,Nat.reduceAdd,Nat.reduceLT,Nat.reduceLeDiff,Nat.reduceEqDiff,reduceIte,Int.reduceEq,reduceCtorEq,la,hpu,hln,d1,d2]
  have hb:=Kw hp (g:={ p.f with rest:=2,beside:=(p.f.names.length:Int) }) rfl rfl
  refine ⟨_,_,rfl,rfl,K.set i ⟨{ p.f with rest:=2,beside:=(p.f.names.length:Int) },p.nm,p.a⟩,?_,hK.setF hp rfl rfl,?_⟩
  · rw [hb]
    exact UR H H2 rfl _
  · rw [List.map_set,hl])
 exact ⟨s',hc,hP⟩
theorem WG {s0 s:St} {n:En} {id:Nat} {l:List FT} {R:List RA} {B:List (Nat×Box)} (h:RowB s0 s n id l R B) {i:Nat} {f:FT} (hf:l[i]? = some f) {kb kind:Nat} {j0:Nat} (hk:B[j0]? = some (kb,.cells 5 [.i .u8 (kind:Nat)])) :
    ∃ s',Dk (lim Ay) (.fn Ci [.p kb 0]) [.p id (i*6)] s=some (.tup [],s')∧RowB s0 s' n id (l.set i { f with known:=true,kind:=kind }) R B:=by
 obtain ⟨r,s',hc,rfl,hP⟩:=fn_G (f:=Ci) (args:=[.p id (i*6),.p kb 0]) (s:=s) (Post:=fun r s'=>r=.tup []∧RowB s0 s' n id (l.set i { f with known:=true,kind:=kind }) R B) MO rfl rfl (by
  obtain ⟨K,H,hK,hl⟩:=h
  obtain ⟨p,hp,rfl⟩:=YY hl hf
  have HE:=H.enter
  obtain ⟨q1,d1,H1⟩:=stKB H.enter hp (j:=0) (g:={ p.f with known:=true }) (v:=.b true) (by omega) ⟨rfl,rfl⟩ rfl
  obtain ⟨q2,d2,H2⟩:=stKB H1 (Jb hp _) (j:=1) (g:={ p.f with known:=true,kind:=kind }) (v:=.i .u8 (kind:Nat)) (by omega) ⟨rfl,rfl⟩ rfl
  rw [List.set_set] at H2
  have hkB:∀ (X:Nat×Box),(X::(bxs K++B))[1+(bxs K).length+j0]? = some (kb,.cells 5 [.i .u8 (kind:Nat)]):=fun X=>by
   rw [show 1+(bxs K).length+j0=((bxs K).length+j0)+1 by omega,List.getElem?_cons_succ,List.getElem?_append_right (by omega),Nat.add_sub_cancel_left]; exact hk
  have l0:=HE.ld _ (off:=0) (v:=.i .u8 (kind:Nat)) (hkB _) rfl
  have l1:=H1.ld _ (off:=0) (v:=.i .u8 (kind:Nat)) (hkB _) rfl
  simp only [C6,go_sem,AE,AA,AC,AB,KB_n,KB_x,Nat.reduceBEq,Nat.reduceAdd,Nat.reduceLT,Nat.reduceLeDiff,Nat.reduceEqDiff,reduceIte,Int.reduceEq,reduceCtorEq]
  refine Tx rfl ?_
  simp only [Nat.add_zero] at d1
  simp only [go_sem,AE,AA,AC,AB,KB_n,KB_x,Nat.reduceBEq,Nat.reduceAdd,Nat.reduceLT,Nat.reduceLeDiff,Nat.reduceEqDiff,reduceIte,Int.reduceEq,reduceCtorEq,l0,d1,d2,Nat.add_zero]
  refine Vq rfl ?_ (YE _ _) ⟨⟨_,rfl,l0⟩,⟨_,rfl,l0⟩,⟨_,rfl,l0⟩,⟨_,rfl,l0⟩,⟨_,rfl,l0⟩,⟨_,rfl,l1⟩,trivial⟩ (Tz ?_)
  · simp only [go_sem,AE,AA,AC,AB,KB_n,KB_x,Nat.reduceBEq,Nat.reduceAdd,Nat.reduceLT,Nat.reduceLeDiff,Nat.reduceEqDiff,reduceIte,Int.reduceEq,reduceCtorEq]
  simp only [go_sem,AE,AA,AC,AB,KB_n,KB_x,Nat.reduceBEq,Nat.reduceAdd,Nat.reduceLT,Nat.reduceLeDiff,Nat.reduceEqDiff,reduceIte,Int.reduceEq,reduceCtorEq]
  have hb:=Kw hp (g:={ p.f with known:=true,kind:=kind }) rfl rfl
  refine ⟨_,_,rfl,rfl,K.set i ⟨{ p.f with known:=true,kind:=kind },p.nm,p.a⟩,?_,hK.setF hp rfl rfl,?_⟩
  · rw [hb]
    exact UR H H2 rfl _
  · rw [List.map_set,hl])
 exact ⟨s',hc,hP⟩

def UG (kind:Nat) (f:FT):Int:=if f.known then 6 else if 3 < kind then 1 else 0
def UH (f:FT):Int:=if f.isDir then (if f.rest=1 then 6 else 0) else 1
def PE (l:List FT) (f:FT):Int:=if f.isDir then (if f.rest=1 then 6 else if f.rest=2∧IS l f=false then 67 else 0) else 1

def ET (l:List FT) (n:Int) (W:FT→Int) (D:FT→FT):List FT×Int :=
 if C2 l n=0 then (match l[n.toNat]? with
  | some f=>if W f=0 then (l.set n.toNat (D f),0) else ([],W f)
  | none=>([],0)) else ([],C2 l n)
theorem UT {f:FT} (h:f.one=true) (hk:f.known=false):f.names=[]∧f.kids=[]∧f.rest=0∧f.beside=0:=by
 have hd:f.isDir=false:=by unfold FT.isDir; rw [hk]; rfl
 unfold FT.one at h
 rw [hd] at h
 simp only [Bool.false_eq_true,if_false,Bool.and_eq_true,Bool.not_eq_true',decide_eq_true_eq] at h
 obtain ⟨h1,h2,h3,h4⟩:=h
 unfold FT.bad at h1
 simp only [Bool.or_eq_false_iff,decide_eq_false_iff_not,Decidable.not_not] at h1
 have h5:=h1.2.2
 exact ⟨List.length_eq_zero_iff.1 h2,List.length_eq_zero_iff.1 (by omega),h3,h4⟩
theorem QP (l:List FT) (n:Int) (kind:Nat):ET l n (UG kind) (fun f=>{ f with known:=true,kind:=kind })=C9 l n kind:=by
 unfold ET C9
 by_cases hz:C2 l n=0
 · obtain ⟨hmay,i,f,rfl,hf⟩:=Er hz
   rw [if_pos hz,if_pos hz,Int.toNat_natCast,hf]
   simp only
   unfold UG
   cases hk:f.known
   · obtain ⟨h1,h2,h3,h4⟩:=UT (QO hmay (List.mem_of_getElem? hf)) hk
     have:({ f with known:=true,kind:=kind }:FT)=⟨true,kind,[],[],0,0⟩:=by
      cases f
      simp only at h1 h2 h3 h4
      subst h1; subst h2; subst h3; subst h4
      rfl
     rw [this]
     by_cases k3:3 < kind<;>simp [k3]
   · simp
 · rw [if_neg hz,if_neg hz]
theorem PJ {l:List FT} {n:Int} (hz:C2 l n=0) {f:FT} (hf:l[n.toNat]? = some f):dirE l n=if f.isDir then 0 else 1:=by
 unfold dirE
 rw [if_pos hz,hf]
theorem QQ (l:List FT) (n:Int):ET l n UH (fun f=>{ f with rest:=2,beside:=(f.names.length:Int) })=ED l n:=by
 unfold ET ED
 by_cases hz:C2 l n=0
 · obtain ⟨hmay,i,f,rfl,hf⟩:=Er hz
   rw [PJ hz (by rw [Int.toNat_natCast]; exact hf),if_pos hz,Int.toNat_natCast,hf]
   simp only
   unfold UH
   cases hi:f.isDir
   · simp
   · by_cases r1:f.rest=1<;>simp [r1]
 · have:dirE l n=C2 l n:=by unfold dirE; rw [if_neg hz]
   rw [this,if_neg hz,if_neg hz]
theorem PK (l:List FT) (n:Int):ET l n (PE l) (fun f=>{ f with rest:=1,beside:=0 })=DF l n:=by
 unfold ET DF
 by_cases hz:C2 l n=0
 · obtain ⟨hmay,i,f,rfl,hf⟩:=Er hz
   rw [PJ hz (by rw [Int.toNat_natCast]; exact hf),if_pos hz,Int.toNat_natCast,hf]
   simp only
   unfold PE
   cases hi:f.isDir
   · simp
   · by_cases r1:f.rest=1
     · simp [r1]
     · by_cases r2:f.rest=2∧IS l f=false<;>simp [r1,r2]
 · have:dirE l n=C2 l n:=by unfold dirE; rw [if_neg hz]
   rw [this,if_neg hz,if_neg hz]
theorem UU {kind:Nat} {q:St} (hw:Wf q) {b:Nat} (hb:q.box? b=some (.cells 5 [.i .u8 (kind:Nat)])) (lb:b < q.nb) (f:FT) :
    Dk (lim Ay) (.fn Ch [.p b 0]) [.agg f.cells] q=some (.i .i64 (UG kind f),q):=by
 show (lim Ay).call Ch [.agg f.cells,.p b 0] q=_
 refine fn_W MN rfl rfl ?_
 have hz0:wkZ Bq.cin [.agg f.cells,.p b 0]=[.agg f.cells,.p b 0]:=by
  have:=N0 f
  simp only [Bq,wkZ,wk] at this ⊢
  rw [this]
 rw [hz0]
 have H1:=(Hp.begin hw).new (.cells 60 f.cells)
 generalize hq:q.enter.new (.cells 60 f.cells)=q1 at H1
 generalize hm:q.enter.nb=m at H1
 have l0:=H1.ld 0 (off:=0) (v:=.b f.known) rfl rfl
 have lb0:=Ny H1.over (off:=0) (v:=.i .u8 (kind:Nat)) lb hb rfl
 have hbr:∀ z,KR q [.id] (.i .i64 z) (some ([.i .i64 z],q1)):=fun z=>AU H1.over rfl rfl
 unfold UG
 cases hk:f.known
 · rw [hk] at l0
   rw [if_neg (by simp)]
   by_cases k3:3 < kind
   · have e1:((3:Int) < (kind:Int))=True:=eq_true (by omega)
     rw [if_pos k3]
     simp only [Bq,go_sem,AE,AA,AC,AB,KB_n,KB_x,Nat.reduceBEq,Nat.reduceAdd,Nat.reduceLT,Nat.reduceLeDiff,Nat.reduceEqDiff,reduceIte,Int.reduceEq,reduceCtorEq,CI,hq,hm,l0,lb0,Nat.zero_add,e1]
     exact hbr _
   · have e1:((3:Int) < (kind:Int))=False:=eq_false (by omega)
     rw [if_neg k3]
     simp only [Bq,go_sem,AE,AA,AC,AB,KB_n,KB_x,Nat.reduceBEq,Nat.reduceAdd,Nat.reduceLT,Nat.reduceLeDiff,Nat.reduceEqDiff,reduceIte,Int.reduceEq,reduceCtorEq,CI,hq,hm,l0,lb0,Nat.zero_add,e1]
     exact hbr _
 · rw [hk] at l0
   rw [if_pos rfl]
   simp only [Bq,go_sem,AE,AA,AC,AB,KB_n,KB_x,Nat.reduceBEq,Nat.reduceAdd,Nat.reduceLT,Nat.reduceLeDiff,Nat.reduceEqDiff,reduceIte,Int.reduceEq,reduceCtorEq,CI,hq,hm,l0,Nat.zero_add]
   exact hbr _
theorem UV {q:St} (hw:Wf q) (f:FT):Dk (lim Ay) (.fn Cf []) [.agg f.cells] q=some (.i .i64 (UH f),q):=by
 show (lim Ay).call Cf [.agg f.cells] q=_
 refine fn_W MP rfl rfl ?_
 have hz0:wkZ Bp.cin [.agg f.cells]=[.agg f.cells]:=by
  have:=N0 f
  simp only [Bp,wkZ,wk] at this ⊢
  rw [this]
 rw [hz0]
 have H1:=(Hp.begin hw).new (.cells 60 f.cells)
 generalize hq:q.enter.new (.cells 60 f.cells)=q1 at H1
 generalize hm:q.enter.nb=m at H1
 have l4:=H1.ld 0 (off:=4) (v:=.i .i64 f.rest) rfl rfl
 have lw:=H1.ldw (m:=6) 0 rfl rfl
 have hd:=d_dir (s:=q1) f
 have hbr:∀ z,KR q [.id] (.i .i64 z) (some ([.i .i64 z],q1)):=fun z=>AU H1.over rfl rfl
 unfold UH
 cases hi:f.isDir
 · rw [hi] at hd
   simp only [Bp,go_sem,AE,AA,AC,AB,KB_n,KB_x,Nat.reduceBEq,Nat.reduceAdd,Nat.reduceLT,Nat.reduceLeDiff,Nat.reduceEqDiff,reduceIte,Int.reduceEq,reduceCtorEq,CI,hq,hm,l4,lw,AW,hd,Nat.zero_add]
   exact hbr _
 · rw [hi] at hd
   rw [if_pos rfl]
   by_cases r1:f.rest=1
   · have e1:(f.rest=1)=True:=by simp [r1]
     rw [if_pos r1]
     simp only [Bp,go_sem,AE,AA,AC,AB,KB_n,KB_x,Nat.reduceBEq,Nat.reduceAdd,Nat.reduceLT,Nat.reduceLeDiff,Nat.reduceEqDiff,reduceIte,Int.reduceEq,reduceCtorEq,CI,hq,hm,l4,lw,AW,hd,Nat.zero_add,e1]
     exact hbr _
   · have e1:(f.rest=1)=False:=by simp [r1]
     rw [if_neg r1]
     simp only [Bp,go_sem,AE,AA,AC,AB,KB_n,KB_x,Nat.reduceBEq,Nat.reduceAdd,Nat.reduceLT,Nat.reduceLeDiff,Nat.reduceEqDiff,reduceIte,Int.reduceEq,reduceCtorEq,CI,hq,hm,l4,lw,AW,hd,Nat.zero_add,e1]
     exact hbr _
theorem SF {l:List FT} (hmay:mayP l=true) {i:Nat} {f:FT} (hf:l[i]? = some f) (hfo:f.Ok) {q:St} (hw:Wf q) {b:Nat} (hb:q.box? b=some (.cells 22 [fx l])) (lb:b < q.nb) :
    Dk (lim Ay) (.fn CM [.p b 0]) [.agg f.cells] q=some (.i .i64 (PE l f),q):=by
 show (lim Ay).call CM [.agg f.cells,.p b 0] q=_
 refine fn_W Kg rfl rfl ?_
 have hz0:wkZ BH.cin [.agg f.cells,.p b 0]=[.agg f.cells,.p b 0]:=by
  have:=N0 f
  simp only [BH,wkZ,wk] at this ⊢
  rw [this]
 rw [hz0]
 have H1:=(Hp.begin hw).new (.cells 60 f.cells)
 generalize hq:q.enter.new (.cells 60 f.cells)=q1 at H1
 generalize hm:q.enter.nb=m at H1
 have l4:=H1.ld 0 (off:=4) (v:=.i .i64 f.rest) rfl rfl
 have lw:=H1.ldw (m:=6) 0 rfl rfl
 have lb0:=Ny H1.over (off:=0) (v:=fx l) lb hb rfl
 have hd:=d_dir (s:=q1) f
 have hbr:∀ z,KR q [.id] (.i .i64 z) (some ([.i .i64 z],q1)):=fun z=>AU H1.over rfl rfl
 unfold PE
 cases hi:f.isDir
 · rw [hi] at hd
   simp only [BH,go_sem,AE,AA,AC,AB,KB_n,KB_x,Nat.reduceBEq,Nat.reduceAdd,Nat.reduceLT,Nat.reduceLeDiff,Nat.reduceEqDiff,reduceIte,Int.reduceEq,reduceCtorEq,CI,hq,hm,l4,lw,AW,hd,Nat.zero_add]
   exact hbr _
 · rw [hi] at hd
   rw [if_pos rfl]
   by_cases r1:f.rest=1
   · have e1:(f.rest=1)=True:=by simp [r1]
     rw [if_pos r1]
     simp only [BH,go_sem,AE,AA,AC,AB,KB_n,KB_x,Nat.reduceBEq,Nat.reduceAdd,Nat.reduceLT,Nat.reduceLeDiff,Nat.reduceEqDiff,reduceIte,Int.reduceEq,reduceCtorEq,CI,hq,hm,l4,lw,AW,hd,Nat.zero_add,e1]
     exact hbr _
   · have e1:(f.rest=1)=False:=by simp [r1]
     rw [if_neg r1]
     by_cases r2:f.rest=2
     · have e2:(f.rest=2)=True:=by simp [r2]
       obtain ⟨b0,b1⟩:=RO (QO hmay (List.mem_of_getElem? hf)) hi r2
       have ht:=YU (s:=q1) hmay hf hfo b0 b1
       unfold fx at lb0 ht
       cases htp:IS l f
       · rw [htp] at ht
         rw [if_pos ⟨r2,rfl⟩]
         simp only [BH,go_sem,AE,AA,AC,AB,KB_n,KB_x,Nat.reduceBEq,Nat.reduceAdd,Nat.reduceLT,Nat.reduceLeDiff,Nat.reduceEqDiff,reduceIte,Int.reduceEq,reduceCtorEq,CI,hq,hm,l4,lw,AW,hd,Nat.zero_add,e1,e2,lb0,ht]
         exact hbr _
       · rw [htp] at ht
         rw [if_neg (by simp)]
         simp only [BH,go_sem,AE,AA,AC,AB,KB_n,KB_x,Nat.reduceBEq,Nat.reduceAdd,Nat.reduceLT,Nat.reduceLeDiff,Nat.reduceEqDiff,reduceIte,Int.reduceEq,reduceCtorEq,CI,hq,hm,l4,lw,AW,hd,Nat.zero_add,e1,e2,lb0,ht]
         exact hbr _
     · have e2:(f.rest=2)=False:=by simp [r2]
       rw [if_neg (fun h=>r2 h.1)]
       simp only [BH,go_sem,AE,AA,AC,AB,KB_n,KB_x,Nat.reduceBEq,Nat.reduceAdd,Nat.reduceLT,Nat.reduceLeDiff,Nat.reduceEqDiff,reduceIte,Int.reduceEq,reduceCtorEq,CI,hq,hm,l4,lw,AW,hd,Nat.zero_add,e1,e2]
       exact hbr _
theorem QR {a b c:St} (h:Over a b) (k:Over b c) (hw:Wf c):Over a c where
 nb:=Nat.le_trans h.nb k.nb
 boxes:=by
  have h1:=h.boxes
  rw [← k.boxes,List.drop_drop] at h1
  have:=h.nb; have:=k.nb
  rw [show c.nb - b.nb+(b.nb - a.nb)=c.nb - a.nb by omega] at h1
  exact h1
 nt:=Nat.le_trans h.nt k.nt
 toks:=by
  have h1:=h.toks
  rw [← k.toks,List.drop_drop] at h1
  have:=h.nt; have:=k.nt
  rw [show c.nt - b.nt+(b.nt - a.nt)=c.nt - a.nt by omega] at h1
  exact h1
 lo:=Nat.le_trans h.nb k.lo
theorem WH {s q:St} (h:Over s q) {k:Nat} (hk:k < s.nt):q.tok? k=s.tok? k:=by
 have h1:=h.nt
 have e1:Nat.blt k q.nt=true:=by rw [Nat.blt_eq]; omega
 have e2:Nat.blt k s.nt=true:=by rw [Nat.blt_eq]; exact hk
 simp only [St.tok?,e1,e2,cond_true,← h.toks,List.getElem?_drop]
 congr 1
 congr 1
 omega
theorem _root_.Go.Proofs.Ytgloinighjdhlaa.Am.Hp.join {s0 s q:St} {n:En} {R R0:List RA} {B B0:List (Nat×Box)} (H0:Hp s0 s n R0 B0) (H1:Hp s q s.en R B):Hp s0 q s.en (R++R0) (B++B0) where
 wf:=H1.wf
 over:=QR H0.over H1.over H1.wf
 lo:=H1.lo
 nb:=H1.nb
 nt:=H1.nt
 rows:=fun {i r} h=>by
  by_cases hi:i < R.length
  · rw [List.getElem?_append_left hi] at h
    rcases H1.rows h with h | ⟨k,v,t,h1,h2,h3⟩
    · exact .inl h
    · exact .inr ⟨k,v,t,h1,Nat.le_trans H0.over.nt h2,h3⟩
  · rw [List.getElem?_append_right (by omega)] at h
    rcases H0.rows h with h | ⟨k,v,t,h1,h2,h3,h4,h5⟩
    · exact .inl h
    · exact .inr ⟨k,v,t,h1,h2,Nat.lt_of_lt_of_le h3 H1.over.nt,by rw [WH H1.over h3]; exact h4,h5⟩
 apart:=fun {i j r r' k} hne hi hj hk hk'=>by
  by_cases h1:i < R.length
  · rw [List.getElem?_append_left h1] at hi
    by_cases h2:j < R.length
    · rw [List.getElem?_append_left h2] at hj
      exact H1.apart hne hi hj hk hk'
    · rw [List.getElem?_append_right (by omega)] at hj
      have a1:=(H0.rows hj).tok_lt hk'
      rcases H1.rows hi with h | ⟨k2,v,t,e1,e2,_⟩
      · rw [EI h] at hk; cases hk
      · rw [e1] at hk
        simp only [Av,Option.some.injEq] at hk
        omega
  · rw [List.getElem?_append_right (by omega)] at hi
    by_cases h2:j < R.length
    · rw [List.getElem?_append_left h2] at hj
      have a1:=(H0.rows hi).tok_lt hk
      rcases H1.rows hj with h | ⟨k2,v,t,e1,e2,_⟩
      · rw [EI h] at hk'; cases hk'
      · rw [e1] at hk'
        simp only [Av,Option.some.injEq] at hk'
        omega
    · rw [List.getElem?_append_right (by omega)] at hj
      exact H0.apart (by omega) hi hj hk hk'
 box:=fun {i p} h=>by
  by_cases hi:i < B.length
  · rw [List.getElem?_append_left hi] at h
    obtain ⟨h1,h2,h3⟩:=H1.box h
    exact ⟨h1,Nat.le_trans H0.over.nb h2,h3⟩
  · rw [List.getElem?_append_right (by omega)] at h
    obtain ⟨h1,h2,h3⟩:=H0.box h
    exact ⟨by rw [Nx H1.over h3]; exact h1,h2,Nat.lt_of_lt_of_le h3 H1.over.nb⟩
 bapart:=fun {i j p q'} hne hi hj=>by
  by_cases h1:i < B.length
  · rw [List.getElem?_append_left h1] at hi
    by_cases h2:j < B.length
    · rw [List.getElem?_append_left h2] at hj
      exact H1.bapart hne hi hj
    · rw [List.getElem?_append_right (by omega)] at hj
      have:=(H1.box hi).2.1
      have:=(H0.box hj).2.2
      omega
  · rw [List.getElem?_append_right (by omega)] at hi
    by_cases h2:j < B.length
    · rw [List.getElem?_append_left h2] at hj
      have:=(H1.box hj).2.1
      have:=(H0.box hi).2.2
      omega
    · rw [List.getElem?_append_right (by omega)] at hj
      exact H0.bapart (by omega) hi hj
def Kept (s0 s':St) (n:En) (R:List RA) (B:List (Nat×Box)) (r:AV) (P:List FT×Int):Prop :=
 (P.2≠0∧r=.tup [.nsl,.i .i64 P.2]∧Hp s0 s' n R B)∨(P.2=0∧∃ id,r=.tup [.bl id 6 0 P.1.length (P.1.length*6,false),.i .i64 0]∧RowB s0 s' n id P.1 R B)
theorem RowB.back {s0 s q:St} {n:En} {R0 R:List RA} {B0 B:List (Nat×Box)} {id:Nat} {l:List FT} (H0:Hp s0 s n R0 B0) (h:RowB s0 q s.en id l R B):RowB s0 { q with lo:=min s.lo q.lo } n id l R B:=by
 obtain ⟨K,H,hK,hl⟩:=h
 exact ⟨K,H0.back H,hK,hl⟩
theorem RowB.drop {s0 q:St} {n:En} {R:List RA} {B:List (Nat×Box)} {id:Nat} {l:List FT} {x:Nat×Box} (h:RowB s0 q n id l R (x::B)):RowB s0 q n id l R B:=by
 obtain ⟨K,H,hK,hl⟩:=h
 have hp:(rowK id K::(bxs K++x::B)).Perm (x::rowK id K::(bxs K++B)) :=
  ((List.perm_middle).cons _).trans (List.Perm.swap _ _ _)
 exact ⟨K,(H.perm (.refl _) hp).dropB,hK,hl⟩
theorem N8 (l:List FT) (ho:FOk l) (n:Int) {w d:Nat} {wc dc:List AV} (wf:FT→Int) (df:FT→FT) {s0 s:St} {m:En} {R:List RA} {B:List (Nat×Box)} (H:Hp s0 s m R B)
    (hwr:mayP l=true→∀ (i:Nat) (f:FT),l[i]? = some f→Dk (lim Ay) (.fn w wc) [.agg f.cells] s.enter=some (.i .i64 (wf f),s.enter))
    (hdo:∀ (q:St) (id i:Nat) (f:FT),l[i]? = some f→RowB s0 q s.en id l R B→∃ q',Dk (lim Ay) (.fn d dc) [.p id (i*6)] q=some (.tup [],q')∧RowB s0 q' s.en id (l.set i (df f)) R B) :
    ∃ r s',(lim Ay).call Ce [fx l,.i .i64 n,.fn w wc,.fn d dc] s=some (r,s')∧Kept s0 s' m R B r (ET l n wf df):=by
 have hz0:wkZ BP.cin [fx l,.i .i64 n,.fn w wc,.fn d dc]=[fx l,.i .i64 n,.fn w wc,.fn d dc]:=by
  simp only [BP,wkZ,fx,wk]
 have hw:=H.wf
 have HE:=H.enter
 refine OX (t:=8) (u:=9) (s:=s) (args:=[fx l,.i .i64 n,.fn w wc,.fn d dc]) (Post:=fun r s'=>Kept s0 s' m R B r (ET l n wf df)) MR rfl rfl rfl (by rw [hz0]; rfl) ?_
 rw [hz0]
 have hno:∀ z:Int,z≠0→ET l n wf df=([],z)→Kept s0 { s.enter with lo:=min s.lo s.enter.lo } m R B (.tup [.nsl,.i .i64 z]) (ET l n wf df):=fun z hz hc=>by
  rw [hc]
  exact .inl ⟨hz,rfl,H.back HE⟩
 have hm:=d_may (s:=s.enter) (UL l _) ho
 unfold fx at hm
 by_cases hz:C2 l n=0
 · obtain ⟨hmay,i,f,rfl,hf⟩:=Er hz
   have hil:=(List.getElem?_eq_some_iff.1 hf).1
   have hg2:=Fc hf
   have hne:l≠[]:=by intro hh; subst hh; simp at hil
   rw [hmay] at hm
   have e1:((i:Int) < 0)=False:=eq_false (by omega)
   have e2:((l.length:Int)≤(i:Int))=False:=eq_false (by omega)
   have hwc:=hwr hmay i f hf
   have hC:ET l (i:Int) wf df=if wf f=0 then (l.set i (df f),0) else ([],wf f):=by
    unfold ET
    rw [if_pos hz,Int.toNat_natCast,hf]
   by_cases hW:wf f=0
   · have e3:((wf f)≠0)=False:=by simp [hW]
     rw [if_pos hW] at hC
     obtain ⟨r,q1,d1,id,K1,rfl,H1,hK1,hl1⟩:=own_bx (Hp.begin hw) l hne ho
     have H1j:=H.join H1
     obtain ⟨q2,d2,hR⟩:=hdo q1 id i f hf ⟨K1,H1j,hK1,hl1⟩
     have hth:FO q1 (.bl id 6 0 l.length (l.length*6,false))=some (.bl id 6 0 l.length (l.length*6,false),q1):=rfl
     have hlt:(i < l.length)=True:=by simp [hil]
     unfold fx at d1
     simp only [BP,go_sem,AE,AA,AC,AB,KB_n,KB_x,Nat.reduceBEq,Nat.reduceAdd,Nat.reduceLT,Nat.reduceLeDiff,Nat.reduceEqDiff,reduceIte,Int.reduceEq,reduceCtorEq,fx,List.length_map,hm,e1,e2,AI,hg2,Bx,Ax,AW,hwc,e3,d1,hth,hlt,Nat.zero_add,d2,Jp,Jq]
     rw [hC]
     refine .inr ⟨rfl,id,?_,hR.back H⟩
     simp only [List.length_set]
   · have e3:((wf f)≠0)=True:=by simp [hW]
     rw [if_neg hW] at hC
     simp only [BP,go_sem,AE,AA,AC,AB,KB_n,KB_x,Nat.reduceBEq,Nat.reduceAdd,Nat.reduceLT,Nat.reduceLeDiff,Nat.reduceEqDiff,reduceIte,Int.reduceEq,reduceCtorEq,fx,List.length_map,hm,e1,e2,AI,hg2,Bx,Ax,AW,hwc,e3,Jp,Jq]
     exact hno _ hW hC
 · have hC:ET l n wf df=([],C2 l n):=by unfold ET; rw [if_neg hz]
   unfold C2 at hz hC
   cases hmay:mayP l
   · rw [hmay] at hm hC
     simp only [BP,go_sem,AE,AA,AC,AB,KB_n,KB_x,Nat.reduceBEq,Nat.reduceAdd,Nat.reduceLT,Nat.reduceLeDiff,Nat.reduceEqDiff,reduceIte,Int.reduceEq,reduceCtorEq,fx,List.length_map,hm,Jp,Jq]
     exact hno 4 (by decide) hC
   · rw [hmay] at hm hz hC
     rw [if_pos rfl] at hz hC
     have hout:¬ (0≤n∧n < (l.length:Int)):=fun h=>hz (by rw [if_pos h])
     rw [if_neg hout] at hC
     by_cases n1:n < 0
     · have e1:(n < 0)=True:=by simp [n1]
       simp only [BP,go_sem,AE,AA,AC,AB,KB_n,KB_x,Nat.reduceBEq,Nat.reduceAdd,Nat.reduceLT,Nat.reduceLeDiff,Nat.reduceEqDiff,reduceIte,Int.reduceEq,reduceCtorEq,fx,List.length_map,hm,e1,Jp,Jq]
       exact hno 1 (by decide) hC
     · have e1:(n < 0)=False:=by simp only [eq_iff_iff,iff_false]; exact n1
       have e2:((l.length:Int)≤n)=True:=eq_true (by omega)
       simp only [BP,go_sem,AE,AA,AC,AB,KB_n,KB_x,Nat.reduceBEq,Nat.reduceAdd,Nat.reduceLT,Nat.reduceLeDiff,Nat.reduceEqDiff,reduceIte,Int.reduceEq,reduceCtorEq,fx,List.length_map,hm,e1,e2,Jp,Jq]
       exact hno 1 (by decide) hC

theorem Kept.drop {s0 q:St} {n:En} {R:List RA} {B:List (Nat×Box)} {r:AV} {P:List FT×Int} {x:Nat×Box} (h:Kept s0 q n R (x::B) r P):Kept s0 q n R B r P:=by
 rcases h with ⟨h1,h2,h3⟩ | ⟨h1,id,h2,h3⟩
 · exact .inl ⟨h1,h2,h3.dropB⟩
 · exact .inr ⟨h1,id,h2,h3.drop⟩
theorem Kept.back {s0 s q:St} {n:En} {R0 R:List RA} {B0 B:List (Nat×Box)} {r:AV} {P:List FT×Int} (H0:Hp s0 s n R0 B0) (h:Kept s0 q s.en R B r P):Kept s0 { q with lo:=min s.lo q.lo } n R B r P:=by
 rcases h with ⟨h1,h2,h3⟩ | ⟨h1,id,h2,h3⟩
 · exact .inl ⟨h1,h2,H0.back h3⟩
 · exact .inr ⟨h1,id,h2,h3.back H0⟩
theorem Kept.parts {s0 q:St} {n:En} {R:List RA} {B:List (Nat×Box)} {r:AV} {P:List FT×Int} (h:Kept s0 q n R B r P):∃ a,r=.tup [a,.i .i64 P.2]:=by
 rcases h with ⟨_,rfl,_⟩ | ⟨h1,id,rfl,_⟩
 · exact ⟨_,rfl⟩
 · exact ⟨_,by rw [h1]⟩
theorem know_K (l:List FT) (ho:FOk l) (n:Int) (kind:Nat) {s0 s:St} {m:En} {R:List RA} {B:List (Nat×Box)} (H:Hp s0 s m R B) :
    ∃ r s',(lim Ay).call EA [fx l,.i .i64 n,.i .u8 (kind:Nat)] s=some (r,s')∧Kept s0 s' m R B r (C9 l n kind):=by
 have hz0:wkZ C1.cin [fx l,.i .i64 n,.i .u8 (kind:Nat)]=[fx l,.i .i64 n,.i .u8 (kind:Nat)]:=by
  simp only [C1,wkZ,N2,wk]
 refine OX (t:=6) (u:=7) (s:=s) (args:=[fx l,.i .i64 n,.i .u8 (kind:Nat)]) (Post:=fun r s'=>Kept s0 s' m R B r (C9 l n kind)) N6 rfl rfl rfl (by rw [hz0]; rfl) ?_
 rw [hz0]
 have H1:=H.enter.new (.cells 5 [.i .u8 (kind:Nat)])
 generalize hq:s.enter.new (.cells 5 [.i .u8 (kind:Nat)])=q at H1
 generalize hm:s.enter.nb=k at H1
 have hb:=H1.box (i:=0) rfl
 simp only at hb
 obtain ⟨r,q',hc,hK⟩:=N8 l ho n (w:=Ch) (d:=Ci) (wc:=[.p k 0]) (dc:=[.p k 0]) (UG kind) (fun f=>{ f with known:=true,kind:=kind }) H1 (fun _ i f _=>UU H1.wf.enter hb.1 hb.2.2 f) (fun q' id i f hf hr=>WG hr hf (j0:=0) rfl)
 rw [QP] at hK
 obtain ⟨a,rfl⟩:=hK.parts
 unfold fx at hc
 simp only [C1,go_sem,AE,AA,AC,AB,KB_n,KB_x,Nat.reduceBEq,Nat.reduceAdd,Nat.reduceLT,Nat.reduceLeDiff,Nat.reduceEqDiff,reduceIte,Int.reduceEq,reduceCtorEq,hq,hm,List.length_cons,List.length_nil,Nat.zero_add,fx,hc,Jp,Jq]
 exact hK.drop.back H
theorem more_K (l:List FT) (ho:FOk l) (n:Int) {s0 s:St} {m:En} {R:List RA} {B:List (Nat×Box)} (H:Hp s0 s m R B) :
    ∃ r s',(lim Ay).call D9 [fx l,.i .i64 n] s=some (r,s')∧Kept s0 s' m R B r (ED l n):=by
 have hz0:wkZ Cy.cin [fx l,.i .i64 n]=[fx l,.i .i64 n]:=by
  simp only [Cy,wkZ,N2,wk]
 refine OX (t:=4) (u:=5) (s:=s) (args:=[fx l,.i .i64 n]) (Post:=fun r s'=>Kept s0 s' m R B r (ED l n)) N7 rfl rfl rfl (by rw [hz0]; rfl) ?_
 rw [hz0]
 have H1:=H.enter
 obtain ⟨r,q',hc,hK⟩:=N8 l ho n (w:=Cf) (d:=Cg) (wc:=[]) (dc:=[]) UH (fun f=>{ f with rest:=2,beside:=(f.names.length:Int) }) H1 (fun _ i f _=>UV H1.wf.enter f) (fun q' id i f hf hr=>WF hr hf)
 rw [QQ] at hK
 obtain ⟨a,rfl⟩:=hK.parts
 unfold fx at hc
 simp only [Cy,go_sem,AE,AA,AC,AB,KB_n,KB_x,Nat.reduceBEq,Nat.reduceAdd,Nat.reduceLT,Nat.reduceLeDiff,Nat.reduceEqDiff,reduceIte,Int.reduceEq,reduceCtorEq,fx,hc,Jp,Jq]
 exact hK.back H
theorem YZ (l:List FT) (ho:FOk l) (n:Int) {s0 s:St} {m:En} {R:List RA} {B:List (Nat×Box)} (H:Hp s0 s m R B) :
    ∃ r s',(lim Ay).call Dp [fx l,.i .i64 n] s=some (r,s')∧Kept s0 s' m R B r (DF l n):=by
 have hz0:wkZ Cc.cin [fx l,.i .i64 n]=[fx l,.i .i64 n]:=by
  simp only [Cc,wkZ,N2,wk]
 refine OX (t:=4) (u:=5) (s:=s) (args:=[fx l,.i .i64 n]) (Post:=fun r s'=>Kept s0 s' m R B r (DF l n)) Ms rfl rfl rfl (by rw [hz0]; rfl) ?_
 rw [hz0]
 have H1:=H.enter.new (.cells 22 [fx l])
 generalize hq:s.enter.new (.cells 22 [fx l])=q at H1
 generalize hm:s.enter.nb=k at H1
 have hb:=H1.box (i:=0) rfl
 simp only at hb
 have l0:=H1.ld 0 (off:=0) (v:=fx l) rfl rfl
 obtain ⟨r,q',hc,hK⟩:=N8 l ho n (w:=CM) (d:=CN) (wc:=[.p k 0]) (dc:=[]) (PE l) (fun f=>{ f with rest:=1,beside:=0 }) H1 (fun hmay i f hf=>SF hmay hf (ho.ok f (List.mem_of_getElem? hf)) H1.wf.enter hb.1 hb.2.2) (fun q' id i f hf hr=>US hr hf)
 rw [PK] at hK
 obtain ⟨a,rfl⟩:=hK.parts
 unfold fx at hc hq l0
 simp only [Cc,go_sem,AE,AA,AC,AB,KB_n,KB_x,Nat.reduceBEq,Nat.reduceAdd,Nat.reduceLT,Nat.reduceLeDiff,Nat.reduceEqDiff,reduceIte,Int.reduceEq,reduceCtorEq,fx,List.length_cons,List.length_nil,Nat.zero_add,hq,hm,l0,hc,Jp,Jq]
 exact hK.drop.back H
theorem RV {s0 s:St} {n:En} {R:List RA} {B:List (Nat×Box)} (H:Hp s0 s n R B) {j:Nat} {id T:Nat} {cs:List AV} (h:B[j]? = some (id,.cells T cs)) {off:Nat} {v:AV} (hv:cs[off]? = some v):ldA s.enter false 1 (.p id off)=some v:=H.enter.ld j h hv
theorem WI (l:List FT) (ho:FOk l) {n:Int} {em:Bool} {s0 s:St} {m:En} {R:List RA} {B:List (Nat×Box)} (H:Hp s0 s m R B) {j b:Nat} (hb:B[j]? = some (b,.cells 30 [.i .i64 n,.b em])) :
    ∃ r s',Dk (lim Ay) (.fn A3 [.p b 0]) [fx l] s=some (r,s')∧Kept s0 s' m R B r (DF l n):=by
 show ∃ r s',(lim Ay).call A3 [fx l,.p b 0] s=some (r,s')∧_
 have hz0:wkZ BD.cin [fx l,.p b 0]=[fx l,.p b 0]:=by
  simp only [BD,wkZ,N2,wk]
 refine OX (t:=3) (u:=4) (s:=s) (args:=[fx l,.p b 0]) (Post:=fun r s'=>Kept s0 s' m R B r (DF l n)) Hj rfl rfl rfl (by rw [hz0]; rfl) ?_
 rw [hz0]
 have l0:=RV H hb (off:=0) (v:=.i .i64 n) rfl
 obtain ⟨r,q',hc,hK⟩:=YZ l ho n H.enter
 obtain ⟨a,rfl⟩:=hK.parts
 unfold fx at hc
 simp only [BD,go_sem,AE,AA,AC,AB,KB_n,KB_x,Nat.reduceBEq,Nat.reduceAdd,Nat.reduceLT,Nat.reduceLeDiff,Nat.reduceEqDiff,reduceIte,Int.reduceEq,reduceCtorEq,fx,Nat.zero_add,l0,hc,Jp,Jq]
 exact hK.back H
theorem WJ (l:List FT) (ho:FOk l) {n:Int} {em:Bool} {s0 s:St} {m:En} {R:List RA} {B:List (Nat×Box)} (H:Hp s0 s m R B) {j b:Nat} (hb:B[j]? = some (b,.cells 30 [.i .i64 n,.b em])) :
    ∃ r s',Dk (lim Ay) (.fn A4 [.p b 0]) [fx l] s=some (r,s')∧Kept s0 s' m R B r (ED l n):=by
 show ∃ r s',(lim Ay).call A4 [fx l,.p b 0] s=some (r,s')∧_
 have hz0:wkZ BE.cin [fx l,.p b 0]=[fx l,.p b 0]:=by
  simp only [BE,wkZ,N2,wk]
 refine OX (t:=3) (u:=4) (s:=s) (args:=[fx l,.p b 0]) (Post:=fun r s'=>Kept s0 s' m R B r (ED l n)) Hk rfl rfl rfl (by rw [hz0]; rfl) ?_
 rw [hz0]
 have l0:=RV H hb (off:=0) (v:=.i .i64 n) rfl
 obtain ⟨r,q',hc,hK⟩:=more_K l ho n H.enter
 obtain ⟨a,rfl⟩:=hK.parts
 unfold fx at hc
 simp only [BE,go_sem,AE,AA,AC,AB,KB_n,KB_x,Nat.reduceBEq,Nat.reduceAdd,Nat.reduceLT,Nat.reduceLeDiff,Nat.reduceEqDiff,reduceIte,Int.reduceEq,reduceCtorEq,fx,Nat.zero_add,l0,hc,Jp,Jq]
 exact hK.back H
theorem WK (l:List FT) (ho:FOk l) {n:Int} {em:Bool} {k:Nat} {s0 s:St} {m:En} {R:List RA} {B:List (Nat×Box)} (H:Hp s0 s m R B) {j b:Nat} (hb:B[j]? = some (b,.cells 30 [.i .i64 n,.b em])) {j2 kb:Nat} (hk:B[j2]? = some (kb,.cells 5 [.i .u8 (k:Nat)])) :
    ∃ r s',Dk (lim Ay) (.fn AX [.p b 0,.p kb 0]) [fx l] s=some (r,s')∧Kept s0 s' m R B r (C9 l n k):=by
 show ∃ r s',(lim Ay).call AX [fx l,.p b 0,.p kb 0] s=some (r,s')∧_
 have hz0:wkZ BF.cin [fx l,.p b 0,.p kb 0]=[fx l,.p b 0,.p kb 0]:=by
  simp only [BF,wkZ,N2,wk]
 refine OX (t:=4) (u:=5) (s:=s) (args:=[fx l,.p b 0,.p kb 0]) (Post:=fun r s'=>Kept s0 s' m R B r (C9 l n k)) Hl rfl rfl rfl (by rw [hz0]; rfl) ?_
 rw [hz0]
 have l0:=RV H hb (off:=0) (v:=.i .i64 n) rfl
 have l1:=RV H hk (off:=0) (v:=.i .u8 (k:Nat)) rfl
 obtain ⟨r,q',hc,hK⟩:=know_K l ho n k H.enter
 obtain ⟨a,rfl⟩:=hK.parts
 unfold fx at hc
 simp only [BF,go_sem,AE,AA,AC,AB,KB_n,KB_x,Nat.reduceBEq,Nat.reduceAdd,Nat.reduceLT,Nat.reduceLeDiff,Nat.reduceEqDiff,reduceIte,Int.reduceEq,reduceCtorEq,fx,Nat.zero_add,l0,l1,hc,Jp,Jq]
 exact hK.back H
end Go.Proofs.Ytgloinighjdhlaa

namespace Go.Proofs.Ytgloinighjdhlaa
open Go.Proofs.Ytgloinighjdhlaa.Am
theorem Ub {s s1:St} {v:AV} (h:s1.lo < s.nb):Am.leave s s1 v={ s1 with lo:=min s.lo s1.lo }:=by
 unfold Am.leave
 have:Nat.ble s.nb s1.lo=false:=by
  rw [Bool.eq_false_iff]
  intro hh
  rw [Nat.ble_eq] at hh
  omega
 rw [this,Bool.false_and,if_neg (by simp)]

attribute [local irreducible] W WO WE WQ WD Tr.get Tr.set
def goW:List (List FT×Int)→List (List FT)→List (List FT)×Int
 | [],acc=>(acc,0)
 | r::rs,acc=>if r.2=0 then goW rs (acc++[r.1]) else if r.2=67 then goW rs acc else ([],r.2)
def Cn (l:List FT) (n:Int) (empty links:Bool):List (List FT×Int) :=
 if empty then [DF l n,ED l n] else (List.range (mostK links+1)).map fun k=>C9 l n k
theorem Wo:∀ (rs:List (List FT×Int)) (acc:List (List FT)),(∀ r∈rs,r.2=0)→goW rs acc=(acc++rs.map (·.1),0)
 | [],acc,_=>by simp [goW]
 | r::rs,acc,h=>by
   rw [goW,if_pos (h r List.mem_cons_self),Wo rs _ fun x hx=>h x (List.mem_cons_of_mem _ hx)]
   simp
theorem MV (l:List FT) (n:Int):C2 l n=0∨C2 l n=1∨C2 l n=4:=by
 unfold C2
 split
 · split
   · exact .inl rfl
   · exact .inr (.inl rfl)
 · exact .inr (.inr rfl)
theorem UW (l:List FT) (n:Int):dirE l n=0∨dirE l n=1∨dirE l n=4:=by
 unfold dirE
 split
 · split
   · split
     · exact .inl rfl
     · exact .inr (.inl rfl)
   · exact .inl rfl
 · exact MV l n
theorem UX (l:List FT) (n:Int):(C9 l n 0).2≠67:=by
 unfold C9
 split
 · split
   · simp
   · split
     · simp
     · split<;>simp
 · rcases MV l n with h | h | h<;>rw [h]<;>simp
theorem WL (l:List FT) (n:Int) (empty links:Bool):goW (Cn l n empty links) []=waysP l n empty links:=by
 unfold Cn waysP
 have hmk:mostK links≤3:=by unfold mostK; split<;>omega
 cases empty
 · rw [if_neg (by simp),if_neg (by simp)]
   by_cases hz:(C9 l n 0).2=0
   · rw [if_pos hz,Wo _ _ fun r hr=>by
      obtain ⟨k,hk,rfl⟩:=List.mem_map.1 hr
      rw [List.mem_range] at hk
      rw [Wn l n k (by omega),hz]]
     simp
   · rw [if_neg hz]
     have:(List.range (mostK links+1)).map (fun k=>C9 l n k)=C9 l n 0::((List.range (mostK links)).map fun k=>C9 l n (k+1)):=by
      rw [List.range_succ_eq_map,List.map_cons,List.map_map]; rfl
     rw [this,goW,if_neg hz,if_neg (UX l n)]
 · rw [if_pos rfl,if_pos rfl]
   simp only [goW]
   have key:((DF l n).2=0∨(DF l n).2=67)∧(ED l n).2=0∨((DF l n).2≠0∧(DF l n).2≠67∧(DF l n).2=(ED l n).2):=by
    unfold DF ED
    by_cases hd:dirE l n=0
    · rw [if_pos hd,if_pos hd]
      cases hf:l[n.toNat]? with
      | none=>left; simp
      | some f =>
        simp only
        by_cases r1:f.rest=1
        · right; simp [r1]
        · left
          by_cases r2:f.rest=2∧IS l f=false<;>simp [r1,r2]
    · right
      rw [if_neg hd,if_neg hd]
      refine ⟨hd,?_,rfl⟩
      rcases UW l n with h | h | h<;>rw [h]<;>simp
   rcases key with ⟨h1 | h1,h2⟩ | ⟨h1,h2,h3⟩
   · simp [h1,h2]
   · simp [h1,h2]
   · rw [if_neg h1,if_neg h2,if_neg (by rw [← h3]; exact h1),h3]
theorem WM (links:Bool) (s:St):(lim Ay).call Dc [.b links] s=some (.fn Bt [.p s.nb 0],{ s.new (.cells 4 [.b links]) with lo:=min s.lo s.nb }):=by
 obtain ⟨r,s',h,rfl,rfl⟩:=fn_G (f:=Dc) (args:=[.b links]) (s:=s) (Post:=fun r s'=>r=.fn Bt [.p s.nb 0]∧s'={ s.new (.cells 4 [.b links]) with lo:=min s.lo s.nb }) N5 rfl rfl (by
  have hz0:wkZ Cz.cin [.b links]=[.b links]:=by simp [Cz,wkZ,wk]
  have hl1:∀ a:AV,[a].length=1:=fun _=>rfl
  rw [hz0]
  simp only [Cz,go_sem,AE,AA,AC,AB,KB_n,KB_x,Nat.reduceBEq,Nat.reduceAdd,Nat.reduceLT,Nat.reduceLeDiff,Nat.reduceEqDiff,reduceIte,Int.reduceEq,reduceCtorEq,hl1]
  exact ⟨_,_,rfl,rfl,J7 rfl⟩)
 exact h
theorem UY (n:Int) (links:Bool) (s:St):(lim Ay).call BV [.agg [.i .i64 n,.b true],.b links] s=some (.ws false 1 [.fn A3 [.p s.nb 0],.fn A4 [.p s.nb 0]],{ s.new (.cells 30 [.i .i64 n,.b true]) with lo:=min s.lo s.nb }):=by
 obtain ⟨r,s',h,rfl,rfl⟩:=fn_G (f:=BV) (args:=[.agg [.i .i64 n,.b true],.b links]) (s:=s) (Post:=fun r s'=>r=.ws false 1 [.fn A3 [.p s.nb 0],.fn A4 [.p s.nb 0]]∧s'={ s.new (.cells 30 [.i .i64 n,.b true]) with lo:=min s.lo s.nb }) Fe rfl rfl (by
  have hz0:wkZ AY.cin [.agg [.i .i64 n,.b true],.b links]=[.agg [.i .i64 n,.b true],.b links]:=by simp [AY,wkZ,wk]
  have l1:ldA (s.enter.new (.cells 30 [.i .i64 n,.b true])) false 1 (.p s.enter.nb 1)=some (.b true):=JM (BR s.enter _) rfl
  have hal:Ag 1 [AV.fn A3 [.p s.enter.nb 0],.fn A4 [.p s.enter.nb 0]]=true:=rfl
  rw [hz0]
  simp only [AY,go_sem,AE,AA,AC,AB,KB_n,KB_x,Nat.reduceBEq,Nat.reduceAdd,Nat.reduceLT,Nat.reduceLeDiff,Nat.reduceEqDiff,reduceIte,Int.reduceEq,reduceCtorEq,l1,Nat.zero_add,List.length_cons,List.length_nil,hal]
  exact ⟨_,_,rfl,rfl,J7 rfl⟩)
 exact h
abbrev kA:C:=subC AY.body [1,1,1,0,1,0,0]
abbrev kC:C:=subC AY.body [1,1,1,0,1,0,1]
theorem set3 {α:Type} {B:List α} {i1 i2:Nat} {y l0 l1:α} (h:i1≠i2) (h2:B[i2]? = some l0):((B.set i2 l1).set i1 y).set i2 l0=B.set i1 y:=by
 rw [List.set_comm _ _ h.symm,List.set_set,List.set_comm _ _ h,Nc h2]
theorem kround {s q:St} {n:En} {B:List (Nat×Box)} {i1 i2 k ido b j:Nat} {e:Tr} {a:AV} {xs:List AV}
    (H:Hp s q n [⟨1,64,a,xs,true⟩] B) (hi1:B[i1]? = some (ido,.cells 62 [a])) (hi2:B[i2]? = some (k,.loop 0 none e [14] kA kC)) (hx:xs.length < 8) (g2:e.get 2=.p b 0) (g5:e.get 5=.p ido 0) :
    ∃ q' a' kb,Dk (lim Ay) (.yld k) [.i .u8 (j:Nat)] q=some (.b true,q')∧Hp s q' n [⟨1,64,a',xs++[.fn AX [.p b 0,.p kb 0]],true⟩] ((kb,.cells 5 [.i .u8 (j:Nat)])::B.set i1 (ido,.cells 62 [a']))∧q'.lo≤ido:=by
 have hne:i1≠i2:=by
  rintro rfl
  rw [hi1] at hi2
  simp at hi2
 have hk:=(H.box hi2).1
 simp only at hk
 obtain ⟨o,q',hc,hK⟩:=TL (K:=fun o q'=>o=none∧∃ a' kb,Hp s q' n [⟨1,64,a',xs++[.fn AX [.p b 0,.p kb 0]],true⟩] ((kb,.cells 5 [.i .u8 (j:Nat)])::B.set i1 (ido,.cells 62 [a']))∧q'.lo≤ido) (t:=e.set 10 14 (.i .u8 (j:Nat))) (args:=[.i .u8 (j:Nat)]) hk rfl (by
  simp only [kA,AY,subC,go_sem,AE,AA,AC,AB,KB_n,KB_x,Nat.reduceBEq,Nat.reduceAdd,Nat.reduceLT,Nat.reduceLeDiff,Nat.reduceEqDiff,reduceIte,Int.reduceEq,reduceCtorEq]
  have H1:=H.new (.cells 5 [.i .u8 0])
  obtain ⟨q1,d1,H2,n1,_⟩:=H1.st 0 (off:=0) (v:=.i .u8 (j:Nat)) rfl (by simp) ⟨rfl,rfl⟩
  simp only [List.set_cons_zero] at H2
  have hk1:=(H2.box (i:=i2+1) (by simpa using hi2)).1
  have H3:=H2.setBox (i:=i2+1) (id:=k) (by simpa using hi2) (.loop 1 none e [14] kA kC)
  obtain ⟨q2,hq2⟩:∃ q2,q1.setBox k (.loop 1 none e [14] kA kC)=q2:=⟨_,rfl⟩
  rw [hq2] at H3
  simp only [List.set_cons_succ] at H3
  have hb1:(B.set i2 (k,Box.loop 1 none e [14] kA kC))[i1]? = some (ido,.cells 62 [a]):=by rw [List.getElem?_set_ne hne.symm]; exact hi1
  have la:=H3.ld (i1+1) (off:=0) (v:=a) (by simpa using hb1) rfl
  obtain ⟨a2,q4,d4,H4,n4,p4⟩:=H3.app 0 (y:=.sl 1 [.fn AX [.p b 0,.p q.nb 0]] .full) (ys:=[.fn AX [.p b 0,.p q.nb 0]]) rfl (by simp [elems,St.ok]) (by simp; omega)
  have lr:=(H3.rld 0 rfl).1
  have p4:=p4 (by simp)
  have rc:=H4.rcells 0 rfl
  obtain ⟨q5,d5,H5,n5,lo5⟩:=H4.st (i1+1) (id:=ido) (T:=62) (cs:=[a]) (off:=0) (v:=a2) (by simpa using hb1) (by simp) ⟨rc.1,rc.2.1⟩
  simp only [List.set_cons_succ,List.set_cons_zero] at H5
  have hb2:((B.set i2 (k,Box.loop 1 none e [14] kA kC)).set i1 (ido,.cells 62 [a2]))[i2]? = some (k,Box.loop 1 none e [14] kA kC):=by
   rw [List.getElem?_set_ne hne,List.getElem?_set,if_pos rfl,if_pos (by rw [List.getElem?_eq_some_iff] at hi2; exact hi2.1)]
  have hk5:=(H5.box (i:=i2+1) (p:=(k,Box.loop 1 none e [14] kA kC)) (by simpa using hb2)).1
  have H6:=H5.setBox (i:=i2+1) (id:=k) (X:=Box.loop 1 none e [14] kA kC) (by simpa using hb2) (.loop 0 none e [14] kA kC)
  rw [List.set_cons_succ,set3 hne hi2] at H6
  have hal:Ag 1 [AV.fn AX [.p b 0,.p q.nb 0]]=true:=rfl
  simp only [go_sem,AE,AA,AC,AB,KB_n,KB_x,Nat.reduceBEq,Nat.reduceAdd,Nat.reduceLT,Nat.reduceLeDiff,Nat.reduceEqDiff,reduceIte,Int.reduceEq,reduceCtorEq,d1]
  refine ⟨_,_,_,_,hk1,?_⟩
  rw [hq2]
  simp only [kC,AY,subC,go_sem,AE,AA,AC,AB,KB_n,KB_x,Nat.reduceBEq,Nat.reduceAdd,Nat.reduceLT,Nat.reduceLeDiff,Nat.reduceEqDiff,reduceIte,Int.reduceEq,reduceCtorEq,g2,g5,la,lr,hal,d4,d5]
  exact ⟨_,_,_,_,hk5,rfl,a2,q.nb,H6,lo5 p4.2⟩)
 obtain ⟨rfl,a',kb,H',hlo⟩:=hK
 exact ⟨q',a',kb,hc,H',hlo⟩
def KI (s q:St) (n:En) (e:Tr) (ido k b:Nat) (Bf:List (Nat×Box)) (J:Nat):Prop :=
 ∃ a xs B,Hp s q n [⟨1,64,a,xs,true⟩] B∧(ido,Box.cells 62 [a])∈B∧(k,Box.loop 0 none e [14] kA kC)∈B∧(∀ p∈Bf,p∈B)∧(J≠0→q.lo≤ido)∧xs.length=J ∧
  ∀ j,j < J→∃ kb,xs[j]? = some (.fn AX [.p b 0,.p kb 0])∧(kb,Box.cells 5 [.i .u8 (j:Nat)])∈B
theorem J5 {α:Type} {l:List α} {i:Nat} {a b x:α} (hi:l[i]? = some b) (hx:x∈l) (hne:x≠b):x∈l.set i a:=by
 obtain ⟨j,hj⟩:=List.mem_iff_getElem?.1 hx
 refine List.mem_iff_getElem?.2 ⟨j,?_⟩
 rw [List.getElem?_set_ne,hj]
 rintro rfl
 rw [hi] at hj
 exact hne (Option.some.inj hj).symm
theorem Ya {s q:St} {n:En} {e:Tr} {ido k b J:Nat} {Bf:List (Nat×Box)} (hbf:∀ p∈Bf,∀ c,p.2≠Box.cells 62 c) (h:KI s q n e ido k b Bf J) (hJ:J < 8) (g2:e.get 2=.p b 0) (g5:e.get 5=.p ido 0) :
    ∃ q',Dk (lim Ay) (.yld k) [.i .u8 (J:Nat)] q=some (.b true,q')∧KI s q' n e ido k b Bf (J+1):=by
 obtain ⟨a,xs,B,H,h1,h2,h3,h4,h5,h6⟩:=h
 obtain ⟨i1,hi1⟩:=List.mem_iff_getElem?.1 h1
 obtain ⟨i2,hi2⟩:=List.mem_iff_getElem?.1 h2
 obtain ⟨q',a',kb,hc,H',hlo⟩:=kround (j:=J) H hi1 hi2 (by omega) g2 g5
 refine ⟨q',hc,a',_,_,H',?_,?_,?_,fun _=>hlo,by simp [h5],fun j hj=>?_⟩
 · exact List.mem_cons_of_mem _ (List.mem_iff_getElem?.2 ⟨i1,by rw [List.getElem?_set,if_pos rfl,if_pos (by rw [List.getElem?_eq_some_iff] at hi1; exact hi1.1)]⟩)
 · exact List.mem_cons_of_mem _ (J5 hi1 h2 (by simp))
 · exact fun p hp=>List.mem_cons_of_mem _ (J5 hi1 (h3 p hp) fun he=>hbf p hp [a] (by rw [he]))
 · by_cases hjj:j < J
   · obtain ⟨kb',k1,k2⟩:=h6 j hjj
     refine ⟨kb',?_,List.mem_cons_of_mem _ (J5 hi1 k2 (by simp))⟩
     rw [List.getElem?_append_left (by omega),k1]
   · obtain rfl:j=J:=by omega
     refine ⟨kb,?_,List.mem_cons_self⟩
     rw [List.getElem?_append_right (by omega),h5]
     simp
theorem KI.box {s q:St} {n:En} {e:Tr} {ido k b J:Nat} {Bf:List (Nat×Box)} (h:KI s q n e ido k b Bf J) {p:Nat×Box} (hp:p∈Bf):q.box? p.1=some p.2∧p.1 < q.nb:=by
 obtain ⟨a,xs,B,H,h1,h2,h3,_⟩:=h
 obtain ⟨i,hi⟩:=List.mem_iff_getElem?.1 (h3 p hp)
 exact ⟨(H.box hi).1,(H.box hi).2.2⟩
theorem _root_.Go.Proofs.Ytgloinighjdhlaa.Am.Hp.leaveL {s0 s s1:St} {n:En} {lo1:Nat} {R R1:List RA} {B B1:List (Nat×Box)} (H:Hp s0 s n R B) (K:Hp s0 s1 ⟨lo1,s.nb,s.nt⟩ R1 B1):Hp s0 { s1 with lo:=min s.lo s1.lo } n R1 B1:=by
 have hnb:s.nb≤s1.nb:=K.nb
 have hnt:s.nt≤s1.nt:=K.nt
 refine { wf:=K.wf.lo _,over:=K.over.setLo ?_,lo:=by have:=H.lo; simp only; omega,nb:=by have:=H.nb; simp only; omega,nt:=by have:=H.nt; simp only; omega,rows:=fun hr=>(K.rows hr).mono (Nat.le_refl _) fun _ _=>rfl,apart:=K.apart,box:=K.box,bapart:=K.bapart }
 have:=H.over.lo
 have:=K.over.lo
 omega
theorem UZ {s q:St} {n:En} {e0:Tr} {ido k b kb:Nat} {links:Bool} {Bf:List (Nat×Box)} (hbf:∀ p∈Bf,∀ c,p.2≠Box.cells 62 c) (h:KI s q n e0 ido k b Bf 0) (hkb:(kb,Box.cells 4 [.b links])∈Bf) (g2:e0.get 2=.p b 0) (g5:e0.get 5=.p ido 0) :
    ∃ q',(lim Ay).call Bt [.yld k,.p kb 0] q=some (.tup [],q')∧KI s q' n e0 ido k b Bf (mostK links+1):=by
 have hmk:mostK links=2∧links=false∨mostK links=3∧links=true:=by cases links<;>simp [mostK]
 have hido:ido < q.nb:=by
  obtain ⟨a,xs,B,H,h1,_⟩:=h
  obtain ⟨i,hi⟩:=List.mem_iff_getElem?.1 h1
  exact (H.box hi).2.2
 obtain ⟨r,q',hcall,rfl,hres⟩:=fn_G (f:=Bt) (args:=[.yld k,.p kb 0]) (s:=q) (Post:=fun r q'=>r=.tup []∧KI s q' n e0 ido k b Bf (mostK links+1)) MM rfl rfl (by
  have hend:∀ q1,KI s q1 q.en e0 ido k b Bf (mostK links+1)→KH q [] (fun r q'=>r=.tup []∧KI s q' n e0 ido k b Bf (mostK links+1)) (some ([],q1)):=fun q1 hq1=>by
   obtain ⟨a,xs,B,H,h1,h2,h3,h4,h5,h6⟩:=hq1
   have hlo:=h4 (by omega)
   refine ⟨_,_,rfl,rfl,?_⟩
   rw [Ub (by omega)]
   obtain ⟨_,_,_,H0,_⟩:=h
   exact ⟨a,xs,B,H0.leaveL H,h1,h2,h3,fun _=>by simp only; omega,h5,h6⟩
  have hz0:wkZ CJ.cin [.yld k,.p kb 0]=[.yld k,.p kb 0]:=by simp [CJ,wkZ,wk]
  rw [hz0]
  simp only [CJ,go_sem,AE,AA,AC,AB,KB_n,KB_x,Nat.reduceBEq,Nat.reduceAdd,Nat.reduceLT,Nat.reduceLeDiff,Nat.reduceEqDiff,reduceIte,Int.reduceEq,reduceCtorEq]
  refine CH (fun x e q1=>∃ j:Nat,j+x=4∧KI s q1 q.en e0 ido k b Bf (min j (mostK links+1))∧e.get 0=.yld k∧e.get 1=.p kb 0∧e.get 4=.i .u8 (j:Nat)) ?_ 4 _ _ ?_
  · rintro x e q1 ⟨j,hn,hK,g0,g1,g4⟩
    have lda:=JM (s:=q1) (v:=.b links) (off:=0) (hK.box hkb).1 rfl
    by_cases hj:j < 4
    · have h1:((j:Int) < 4)=True:=eq_true (by omega)
      have hw1:=UB (show j≤3 by omega)
      by_cases hjk:j < mostK links+1
      · rw [Nat.min_eq_left (by omega)] at hK
        obtain ⟨q2,hstep,hK2⟩:=Ya hbf hK (by omega) g2 g5
        by_cases j3:j=3
        · have e1:((j:Int)≠3)=False:=by simp [j3]
          have hlt:links=true:=by
           rcases hmk with ⟨h2,_⟩ | ⟨_,h3⟩
           · omega
           · exact h3
          rw [hlt] at lda
          simp only [go_sem,AE,AA,AC,AB,KB_n,KB_x,Nat.reduceBEq,Nat.reduceAdd,Nat.reduceLT,Nat.reduceLeDiff,Nat.reduceEqDiff,reduceIte,Int.reduceEq,reduceCtorEq,g0,g1,g4,h1,e1,lda,hstep,hw1]
          exact ⟨x - 1,by omega,j+1,by omega,by rw [Nat.min_eq_left (by omega)]; exact hK2,rfl⟩
        · have e1:((j:Int)≠3)=True:=by simp only [ne_eq,eq_iff_iff,iff_true]; omega
          simp only [go_sem,AE,AA,AC,AB,KB_n,KB_x,Nat.reduceBEq,Nat.reduceAdd,Nat.reduceLT,Nat.reduceLeDiff,Nat.reduceEqDiff,reduceIte,Int.reduceEq,reduceCtorEq,g0,g1,g4,h1,e1,hstep,hw1]
          exact ⟨x - 1,by omega,j+1,by omega,by rw [Nat.min_eq_left (by omega)]; exact hK2,rfl⟩
      · rw [Nat.min_eq_right (by omega)] at hK
        have j3:j=3:=by omega
        have e1:((j:Int)≠3)=False:=by simp [j3]
        have hlf:links=false:=by
         rcases hmk with ⟨_,h3⟩ | ⟨h2,_⟩
         · exact h3
         · omega
        rw [hlf] at lda
        simp only [go_sem,AE,AA,AC,AB,KB_n,KB_x,Nat.reduceBEq,Nat.reduceAdd,Nat.reduceLT,Nat.reduceLeDiff,Nat.reduceEqDiff,reduceIte,Int.reduceEq,reduceCtorEq,g0,g1,g4,h1,e1,lda,hw1]
        exact ⟨x - 1,by omega,j+1,by omega,by rw [Nat.min_eq_right (by omega)]; exact hK,rfl⟩
    · have h1:((j:Int) < 4)=False:=eq_false (by omega)
      rw [Nat.min_eq_right (by rcases hmk with ⟨h2,_⟩ | ⟨h2,_⟩<;>omega)] at hK
      simp only [go_sem,AE,AA,AC,AB,KB_n,KB_x,Nat.reduceBEq,Nat.reduceAdd,Nat.reduceLT,Nat.reduceLeDiff,Nat.reduceEqDiff,reduceIte,Int.reduceEq,reduceCtorEq,g0,g1,g4,h1]
      exact hend q1 hK
  · simp only [go_sem,AE,AA,AC,AB,KB_n,KB_x,Nat.reduceBEq,Nat.reduceAdd,Nat.reduceLT,Nat.reduceLeDiff,Nat.reduceEqDiff,reduceIte,Int.reduceEq,reduceCtorEq]
    obtain ⟨a,xs,B,H,h1,h2,h3,h4,h5,h6⟩:=h
    refine ⟨0,by omega,⟨a,xs,B,H.enter,h1,h2,h3,fun h=>absurd (Nat.zero_min _) h,by simpa using h5,fun j hj=>absurd hj (by simp)⟩,rfl⟩)
 exact ⟨q',hcall,hres⟩
theorem Ua:∀ xs:List AV,wkM .id xs=xs
 | []=>by simp only [wkM]
 | x::xs=>by
   simp only [wkM,Ua xs,List.cons.injEq,and_true]
   rw [wk]

def Uc (l:List FT) (n:Int) (em links:Bool):Prop:=∀ {s q:St} {B0:List (Nat×Box)},Hp s q s.en [] B0 →
 ∃ vs q1 B1,(lim Ay).call BV [.agg [.i .i64 n,.b em],.b links] q=some (.ws false 1 vs,q1)∧Hp s q1 s.en [] B1∧vs.length=(Cn l n em links).length ∧
  ∀ (j:Nat) (r:List FT×Int),(Cn l n em links)[j]? = some r→∃ g caps,vs[j]? = some (.fn g caps) ∧
   ∀ {u:St} {m:En} {R:List RA} {B:List (Nat×Box)},Hp s u m R B→(∀ p∈B1,p∈B)→∃ v u',Dk (lim Ay) (.fn g caps) [fx l] u=some (v,u')∧Kept s u' m R B v r
theorem PL (l:List FT) (ho:FOk l) (n:Int) (links:Bool):Uc l n false links:=by
 intro s q B0 H
 obtain ⟨r,q1,hcall,vs,B1,rfl,H1,hvl,hspec⟩:=fn_G (f:=BV) (args:=[.agg [.i .i64 n,.b false],.b links]) (s:=q) (Post:=fun r q1=>∃ vs B1,r=.ws false 1 vs∧Hp s q1 s.en [] B1∧vs.length=mostK links+1∧∃ b,(b,Box.cells 30 [.i .i64 n,.b false])∈B1∧∀ j,j < mostK links+1→∃ kb,vs[j]? = some (.fn AX [.p b 0,.p kb 0])∧(kb,Box.cells 5 [.i .u8 (j:Nat)])∈B1) Fe rfl rfl (by
  have hz0:wkZ AY.cin [.agg [.i .i64 n,.b false],.b links]=[.agg [.i .i64 n,.b false],.b links]:=by simp [AY,wkZ,wk]
  rw [hz0]
  have H1:=H.enter.new (.cells 30 [.i .i64 n,.b false])
  have l1:=H1.ld 0 (off:=1) (v:=.b false) rfl rfl
  have H2:=H1.new (.cells 62 [.nsl])
  have hb1:(q.enter.new (.cells 30 [.i .i64 n,.b false])).nb=q.enter.nb+1:=rfl
  obtain ⟨u,hu⟩:∃ u,(q.enter.new (.cells 30 [.i .i64 n,.b false])).new (.cells 62 [.nsl])=u:=⟨_,rfl⟩
  rw [hu] at H2
  have hk:=WM links u
  have hub:u.nb=q.enter.nb+2:=by rw [← hu]; rfl
  have hlo:u.lo≤u.nb:=by rw [← hu]; show q.nb≤q.nb+2; omega
  have H3:=(H2.new (.cells 4 [.b links])).setLo (m:=min u.lo u.nb) (Nat.le_trans (Nat.min_le_left _ _) H2.lo) (by have:=H2.over.lo; have:=H2.over.nb; omega)
  obtain ⟨u3,hu3⟩:∃ u3,{ u.new (.cells 4 [.b links]) with lo:=min u.lo u.nb }=u3:=⟨_,rfl⟩
  rw [hu3] at H3 hk
  have hu3b:u3.nb=u.nb+1:=by rw [← hu3]; rfl
  rw [hb1] at H3
  simp only [AY,go_sem,AE,AA,AC,AB,KB_n,KB_x,Nat.reduceBEq,Nat.reduceAdd,Nat.reduceLT,Nat.reduceLeDiff,Nat.reduceEqDiff,reduceIte,Int.reduceEq,reduceCtorEq,List.length_cons,List.length_nil,Nat.zero_add,l1,hu,hk]
  refine W_rf3 (g:=Bt) (caps:=[.p u.nb 0]) (by simp only [go_sem,AE,AA,AC,AB,KB_n,KB_x,Nat.reduceBEq,Nat.reduceAdd,Nat.reduceLT,Nat.reduceLeDiff,Nat.reduceEqDiff,reduceIte,Int.reduceEq,reduceCtorEq]) fun e he=>?_
  have g2:e.get 2=.p q.enter.nb 0:=by rw [he]; simp only [go_sem,AE,AA,AC,AB,KB_n,KB_x,Nat.reduceBEq,Nat.reduceAdd,Nat.reduceLT,Nat.reduceLeDiff,Nat.reduceEqDiff,reduceIte,Int.reduceEq,reduceCtorEq]
  have g5:e.get 5=.p (q.enter.nb+1) 0:=by rw [he]; simp only [go_sem,AE,AA,AC,AB,KB_n,KB_x,Nat.reduceBEq,Nat.reduceAdd,Nat.reduceLT,Nat.reduceLeDiff,Nat.reduceEqDiff,reduceIte,Int.reduceEq,reduceCtorEq]
  have H4:=(H3.new (.loop 0 none e [14] kA kC)).addFull 1 64 true .nil
  have hKI:KI s (u3.new (.loop 0 none e [14] kA kC)) q.en e (q.enter.nb+1) u3.nb q.enter.nb [(u.nb,.cells 4 [.b links]),(q.enter.nb,.cells 30 [.i .i64 n,.b false])] 0 :=
   ⟨.nsl,[],_,H4,by simp,by simp,by simp,fun h=>absurd rfl h,rfl,fun j hj=>absurd hj (by omega)⟩
  obtain ⟨q',hc,a,xs,B,H5,k1,k2,k3,k4,k5,k6⟩:=UZ (kb:=u.nb) (links:=links) (by simp) hKI (by simp) g2 g5
  obtain ⟨i2,hi2⟩:=List.mem_iff_getElem?.1 k2
  refine ⟨_,_,hc,_,_,_,_,_,_,(H5.box hi2).1,by decide,?_⟩
  have H6:=H5.setBox hi2 .used
  obtain ⟨q6,hq6⟩:∃ q6,q'.setBox u3.nb .used=q6:=⟨_,rfl⟩
  rw [hq6] at H6
  obtain ⟨i1,hi1⟩:=List.mem_iff_getElem?.1 (J5 (a:=(u3.nb,Box.used)) hi2 k1 (by simp))
  have la:=H6.ld i1 (off:=0) (v:=a) hi1 rfl
  obtain ⟨a3,q7,d3,t3,H7,n3⟩:=H6.pub 0 rfl
  have d4:pubA q6 a=some (a3,q7):=by
   rw [GV (H6.rows (i:=0) rfl)]; exact d3
  have lr:=(H6.rld 0 rfl).1
  simp only [hq6,go_sem,AE,AA,AC,AB,KB_n,KB_x,Nat.reduceBEq,Nat.reduceAdd,Nat.reduceLT,Nat.reduceLeDiff,Nat.reduceEqDiff,reduceIte,Int.reduceEq,reduceCtorEq,g2,g5,la,lr,d4]
  simp only at t3
  obtain ⟨kb0,k60,_⟩:=k6 0 (by omega)
  have hgo:AV.refs.go xs=true:=by
   cases xs with
   | nil=>simp at k60
   | cons v vs =>
     simp only [List.getElem?_cons_zero,Option.some.injEq] at k60
     subst k60
     rfl
  have hrf:(Bs [a3]).refs=true:=by
   simp only [Bs]
   rcases t3 with ⟨_,rfl⟩ | ⟨_,rfl⟩ | rfl | rfl | rfl | rfl<;>first | exact hgo | cases hgo
  have hwk:Bs (wkZ [.sl 1 .id] [a3])=.ws false 1 xs:=by
   simp only [wkZ,Bs]
   exact t3.wk (Ua xs)
  have H8:=(H.leaveR (n1:=q.en) (v:=Bs [a3]) H7.dropR hrf)
  refine ⟨_,_,rfl,xs,_,hwk,H8,k5,q.enter.nb,J5 hi2 (k3 _ (by simp)) (by simp),fun j hj=>?_⟩
  obtain ⟨kb,z1,z2⟩:=k6 j hj
  exact ⟨kb,z1,J5 hi2 z2 (by simp)⟩)
 obtain ⟨b,hb,hspec⟩:=hspec
 have hans:Cn l n false links=(List.range (mostK links+1)).map fun k=>C9 l n k:=by simp [Cn]
 refine ⟨vs,q1,B1,hcall,H1,by rw [hans]; simpa using hvl,fun j r hr=>?_⟩
 rw [hans,List.getElem?_map] at hr
 by_cases hj:j < mostK links+1
 · rw [List.getElem?_range hj] at hr
   simp only [Option.map_some,Option.some.injEq] at hr
   subst hr
   obtain ⟨kb,z1,z2⟩:=hspec j hj
   refine ⟨_,_,z1,fun {u m R B} HB hB=>?_⟩
   obtain ⟨j1,h1⟩:=List.mem_iff_getElem?.1 (hB _ hb)
   obtain ⟨j2,h2⟩:=List.mem_iff_getElem?.1 (hB _ z2)
   exact WK l ho HB h1 h2
 · rw [List.getElem?_eq_none (by simpa using hj)] at hr
   simp at hr
theorem PM (l:List FT) (ho:FOk l) (n:Int) (links:Bool):Uc l n true links:=by
 intro s q B0 H
 have H1:=H.new (.cells 30 [.i .i64 n,.b true])
 have hlo:min q.lo q.nb≤s.en.lo:=Nat.le_trans (Nat.min_le_left _ _) H.lo
 have hnb:s.nb≤min q.lo q.nb:=by have:=H.over.lo; have:=H.over.nb; omega
 have H2:=H1.setLo (m:=min q.lo q.nb) hlo hnb
 refine ⟨_,_,_,UY n links q,H2,by simp [Cn],fun j r hr=>?_⟩
 have hans:Cn l n true links=[DF l n,ED l n]:=by simp [Cn]
 rw [hans] at hr
 cases j with
 | zero =>
   simp only [List.getElem?_cons_zero,Option.some.injEq] at hr
   subst hr
   refine ⟨_,_,rfl,fun {u m R B} HB hB=>?_⟩
   obtain ⟨j1,h1⟩:=List.mem_iff_getElem?.1 (hB (q.nb,.cells 30 [.i .i64 n,.b true]) List.mem_cons_self)
   exact WI l ho HB h1
 | succ j=>cases j with
   | zero =>
     simp only [List.getElem?_cons_succ,List.getElem?_cons_zero,Option.some.injEq] at hr
     subst hr
     refine ⟨_,_,rfl,fun {u m R B} HB hB=>?_⟩
     obtain ⟨j1,h1⟩:=List.mem_iff_getElem?.1 (hB (q.nb,.cells 30 [.i .i64 n,.b true]) List.mem_cons_self)
     exact WJ l ho HB h1
   | succ j=>simp at hr
theorem callsK (l:List FT) (ho:FOk l) (n:Int) (em links:Bool):Uc l n em links:=by
 cases em
 · exact PL l ho n links
 · exact PM l ho n links

abbrev Way:=Nat×List KQ
def EE (w:Way):List (Nat×Box):=rowK w.1 w.2::bxs w.2
def wayB (W:List Way):List (Nat×Box):=W.flatMap EE
def wayV (w:Way):AV:=.bl w.1 6 0 w.2.length (w.2.length*6,false)
def wayF (w:Way):List FT:=w.2.map KQ.f
theorem _root_.Go.Proofs.Ytgloinighjdhlaa.Am.Hp.takeB {s0 s:St} {n:En} {R:List RA} {A C:List (Nat×Box)} (H:Hp s0 s n R (A++C)):Hp s0 s n R A where
 wf:=H.wf
 over:=H.over
 lo:=H.lo
 nb:=H.nb
 nt:=H.nt
 rows:=H.rows
 apart:=H.apart
 box:=fun {i p} h=>H.box (i:=i) (by rw [List.getElem?_append_left (List.getElem?_eq_some_iff.1 h).1]; exact h)
 bapart:=fun {i j p q} hne h1 h2=>H.bapart hne (by rw [List.getElem?_append_left (List.getElem?_eq_some_iff.1 h1).1]; exact h1) (by rw [List.getElem?_append_left (List.getElem?_eq_some_iff.1 h2).1]; exact h2)
def RX (s0 s':St) (m:En) (B:List (Nat×Box)) (r:AV) (P:List (List FT)×Int):Prop :=
 (P.2≠0∧r=.tup [.nsl,.i .i64 P.2]∧Hp s0 s' m [] B)∨(P.2=0∧∃ a W,r=.tup [a,.i .i64 0]∧Hp s0 s' m [⟨1,22,a,W.map wayV,true⟩] (wayB W++B)∧(∀ w∈W,KBk w.2)∧W.map wayF=P.1∧((W=[]∧a=.nsl)∨∃ k v,a=.sl 1 (W.map wayV) (.tok k v)))
theorem ways_K (l:List FT) (ho:FOk l) (n:Int) (em links:Bool) {s0 s:St} {m:En} {B:List (Nat×Box)} (H:Hp s0 s m [] B) :
    ∃ r s',(lim Ay).call C3 [fx l,.agg [.i .i64 n,.b em],.b links] s=some (r,s')∧RX s0 s' m B r (waysP l n em links):=by
 have hz0:wkZ DK.cin [fx l,.agg [.i .i64 n,.b em],.b links]=[fx l,.agg [.i .i64 n,.b em],.b links]:=by
  simp only [DK,wkZ,N2,wk]
 have hw:=H.wf
 rw [← WL]
 refine OX (t:=6) (u:=7) (s:=s) (args:=[fx l,.agg [.i .i64 n,.b em],.b links]) (Post:=fun r s'=>RX s0 s' m B r (goW (Cn l n em links) [])) PF rfl rfl rfl (by rw [hz0]; rfl) ?_
 rw [hz0]
 have HE:=H.enter
 have H1:=(Hp.begin hw).new (.cells 30 [.i .i64 n,.b em])
 generalize hq:s.enter.new (.cells 30 [.i .i64 n,.b em])=q at H1
 generalize hm:s.enter.nb=k at H1
 have lw:=H1.ldw (m:=2) 0 rfl rfl
 obtain ⟨vs,q1,B1,hc,H2,hvl,hspec⟩:=callsK l ho n em links H1
 have hal:(Cn l n em links).length≤4:=by
  have hmk:mostK links≤3:=by unfold mostK; split<;>omega
  unfold Cn
  split
  · simp
  · simp; omega
 simp only [DK,go_sem,AE,AA,AC,AB,KB_n,KB_x,Nat.reduceBEq,Nat.reduceAdd,Nat.reduceLT,Nat.reduceLeDiff,Nat.reduceEqDiff,reduceIte,Int.reduceEq,reduceCtorEq,hq,hm,List.length_cons,List.length_nil,Nat.zero_add,fx,lw,hc,hvl]
 refine CH (fun x e q=>∃ (i:Nat) (a:AV) (W:List Way),i+x=(Cn l n em links).length∧Hp s q s.en [⟨1,22,a,W.map wayV,true⟩] (wayB W++B1)∧W.length≤i∧(∀ w∈W,KBk w.2)∧((W=[]∧a=.nsl)∨∃ k v,a=.sl 1 (W.map wayV) (.tok k v))∧goW ((Cn l n em links).drop i) (W.map wayF)=goW (Cn l n em links) []∧e.get 0=fx l∧e.get 8=a∧e.get 15=.ws false 1 vs∧e.get 16=.i .i64 ((Cn l n em links).length:Nat)∧e.get 17=.i .i64 (i:Nat)) ?_ (Cn l n em links).length _ _ ?_
 · rintro x e q ⟨i,a,W,hix,HW,hWl,hWk,hsh,hgo,g0,g8,g15,g16,g17⟩
   by_cases h:i < (Cn l n em links).length
   · have h1:((i:Int) < ((Cn l n em links).length:Int))=True:=eq_true (by omega)
     obtain ⟨r,hr⟩:∃ r,(Cn l n em links)[i]? = some r:=⟨_,List.getElem?_eq_getElem h⟩
     obtain ⟨g,caps,hv,hcall⟩:=hspec i r hr
     obtain ⟨v,u',hca,hK⟩:=hcall HW (fun p hp=>List.mem_append_right _ hp)
     have hw1:=A9 (show i+1 < 2^63 by omega)
     rw [YQ hr,goW] at hgo
     have lfn:∀ u:St,ldA u false 1 (.ep [.fn g caps] 0 .shut)=some (.fn g caps):=fun _=>rfl
     unfold fx at hca
     rcases hK with ⟨r0,rfl,HK⟩ | ⟨r0,id,rfl,K,HK,hKk,hKf⟩
     · have e1:(r.2=0)=False:=by simp [r0]
       rw [if_neg r0] at hgo
       by_cases r6:r.2=67
       · have e2:(r.2=67)=True:=by simp [r6]
         rw [if_pos r6] at hgo
         simp only [go_sem,AE,AA,AC,AB,KB_n,KB_x,Nat.reduceBEq,Nat.reduceAdd,Nat.reduceLT,Nat.reduceLeDiff,Nat.reduceEqDiff,reduceIte,Int.reduceEq,reduceCtorEq,g0,g8,g15,g16,g17,fx,h1,AI,hv,lfn,hca,e1,e2,hw1]
         exact ⟨x - 1,by omega,i+1,a,W,by omega,HK,by omega,hWk,hsh,hgo,rfl,rfl⟩
       · have e2:(r.2=67)=False:=by simp [r6]
         rw [if_neg r6] at hgo
         simp only [go_sem,AE,AA,AC,AB,KB_n,KB_x,Nat.reduceBEq,Nat.reduceAdd,Nat.reduceLT,Nat.reduceLeDiff,Nat.reduceEqDiff,reduceIte,Int.reduceEq,reduceCtorEq,g0,g8,g15,g16,g17,fx,h1,AI,hv,lfn,hca,e1,e2,Jp,Jq]
         rw [← hgo]
         refine .inl ⟨r0,rfl,?_⟩
         have hj:=H.join (HK.dropR.sel [] [] (by simp) (by simp))
         exact H.back hj
     · have e1:(r.2=0)=True:=by simp [r0]
       rw [if_pos r0] at hgo
       have hKl:r.1.length=K.length:=by rw [← hKf,List.length_map]
       obtain ⟨a2,q2,d2,H3,n3,p3⟩:=HK.app 0 (y:=.sl 1 [.bl id 6 0 r.1.length (r.1.length*6,false)] .full) (ys:=[wayV (id,K)]) rfl (by unfold wayV; rw [hKl]; rfl) (by simp; omega)
       have hall:Ag 1 [AV.bl id 6 0 r.1.length (r.1.length*6,false)]=true:=rfl
       have e0:((0:Int)=0)=True:=by simp
       simp only [go_sem,AE,AA,AC,AB,KB_n,KB_x,Nat.reduceBEq,Nat.reduceAdd,Nat.reduceLT,Nat.reduceLeDiff,Nat.reduceEqDiff,reduceIte,Int.reduceEq,reduceCtorEq,g0,g8,g15,g16,g17,fx,h1,AI,hv,lfn,hca,e0,hall,d2,hw1]
       refine ⟨x - 1,by omega,i+1,a2,W++[(id,K)],by omega,?_,by simp; omega,?_,?_,?_,rfl,rfl⟩
       · rw [List.map_append]
         refine H3.perm (.refl _) ?_
         have e3:wayB (W++[(id,K)])++B1=wayB W++(EE (id,K)++B1):=by
          unfold wayB; simp
         rw [e3]
         have e4:rowK id K::(bxs K++(wayB W++B1))=EE (id,K)++(wayB W++B1):=rfl
         rw [e4,← List.append_assoc,← List.append_assoc]
         exact List.perm_append_comm.append_right _
       · intro w hwm
         rcases List.mem_append.1 hwm with hwm | hwm
         · exact hWk w hwm
         · simp only [List.mem_singleton] at hwm
           subst hwm; exact hKk
       · refine .inr ?_
         rcases H3.rows (i:=0) rfl with hh | ⟨kk,vv,tt,hh,_⟩
         · exact absurd (EI hh) (p3 (by simp)).1
         · refine ⟨kk,vv,?_⟩
           rw [List.map_append]
           exact hh
       · rw [List.map_append]
         show goW _ (W.map wayF++[wayF (id,K)])=_
         rw [show wayF (id,K)=r.1 from hKf]
         exact hgo
   · have h1:((i:Int) < ((Cn l n em links).length:Int))=False:=eq_false (by omega)
     rw [List.drop_of_length_le (by omega),goW] at hgo
     simp only [go_sem,AE,AA,AC,AB,KB_n,KB_x,Nat.reduceBEq,Nat.reduceAdd,Nat.reduceLT,Nat.reduceLeDiff,Nat.reduceEqDiff,reduceIte,Int.reduceEq,reduceCtorEq,g0,g8,g15,g16,g17,h1,Jp,Jq]
     rw [← hgo]
     refine .inr ⟨rfl,a,W,rfl,?_,hWk,rfl,hsh⟩
     have hj:=H.join HW.takeB
     exact H.back hj
 · simp only [go_sem,AE,AA,AC,AB,KB_n,KB_x,Nat.reduceBEq,Nat.reduceAdd,Nat.reduceLT,Nat.reduceLeDiff,Nat.reduceEqDiff,reduceIte,Int.reduceEq,reduceCtorEq]
   exact ⟨0,.nsl,[],by omega,H2.addFull 1 22 true .nil,by simp,(fun w hw=>by simp at hw),.inl ⟨rfl,rfl⟩,rfl,rfl,rfl,rfl⟩
end Go.Proofs.Ytgloinighjdhlaa

set_option maxHeartbeats 8000000
namespace Go.Proofs.Ytgloinighjdhlaa
open Go.Proofs.Ytgloinighjdhlaa.Am
def One (cs:List AV):Prop:=∀ c∈cs,c.cells=[c]∧ones [c]=true
theorem One.ones:∀ {cs:List AV},One cs→ones cs=true
 | [],_=>rfl
 | c::cs,h=>Qa (a:=[c]) (h c (by simp)).2 (One.ones fun x hx=>h x (by simp [hx]))
theorem One.flat:∀ {cs:List AV},One cs→CU cs=cs
 | [],_=>rfl
 | c::cs,h=>by
   rw [CU,(h c (by simp)).1,One.flat fun x hx=>h x (by simp [hx])]; rfl
theorem one_s (L:List (List Nat)):One (L.map AV.s):=fun c hc=>by
 obtain ⟨x,_,rfl⟩:=List.mem_map.1 hc
 exact ⟨rfl,rfl⟩
theorem one_i (L:List Int):One (L.map iv):=fun c hc=>by
 obtain ⟨x,_,rfl⟩:=List.mem_map.1 hc
 exact ⟨rfl,rfl⟩
def TK (K:List KQ):Prop:=∀ p∈K,Ct p.nm=some (tx p.f.names)∧Ct p.a=some (zx p.f.kids)∧(∀ l,ones (p.nm::l)=ones l)∧∀ l,ones (p.a::l)=ones l
theorem TK.all {K:List KQ} (h:TK K):Ag 6 (K.map KQ.av)=true:=by
 induction K with
 | nil=>rfl
 | cons p K ih =>
   obtain ⟨_,_,h3,h4⟩:=h p (by simp)
   rw [List.map_cons,Ag,ih fun q hq=>h q (by simp [hq])]
   have:ones p.av.cells=true:=by
    show ones (AV.b p.f.known::AV.i .u8 (p.f.kind:Nat)::p.nm::p.a::[.i .i64 p.f.rest,.i .i64 p.f.beside])=true
    simp only [ones,h3,h4]
   rw [this]; rfl
theorem TK.tell {K:List KQ} (h:TK K):EH (K.map KQ.av)=some ((K.map KQ.f).map FT.av):=by
 induction K with
 | nil=>rfl
 | cons p K ih =>
   obtain ⟨h1,h2,_,_⟩:=h p (by simp)
   have hp:Ct p.av=some p.f.av:=RS (Cj rfl (Cj rfl (Cj h1 (Cj h2 (Cj rfl (Cj rfl rfl))))))
   rw [List.map_cons,List.map_cons,List.map_cons]
   exact Cj hp (ih fun q hq=>h q (by simp [hq]))
section
variable {s0 s:St} {n:En} {R:List RA} {B:List (Nat×Box)}
theorem WN (H:Hp s0 s n R B) (i:Nat) {id T rm:Nat} {cs:List AV} (h:B[i]? = some (id,.row T cs false rm)) (hc:One cs) (p:Nat×Bool) :
    ∃ s',frz s (.bl id 1 0 cs.length p)=some (.sl 1 cs .shut,s')∧Hp s0 s' n R (B.set i (id,.row T cs true rm)):=by
 have hb:=(H.box h).1
 simp only at hb
 have hcu:cut cs 0 (cs.length*1)=some cs:=by
  unfold cut
  rw [List.drop_zero,Nat.mul_one,List.take_of_length_le (Nat.le_refl _),if_pos rfl]
 refine ⟨_,?_,H.setBox h (.row T cs true rm)⟩
 simp only [frz,hb,hcu]
 rw [if_pos ⟨Nat.zero_le _,hc.ones,by decide⟩,MJ rfl]
theorem Wp {T:Nat} {a:AV} {xs:List AV} (H:Hp s0 s n R (cb T a xs++B)) (hc:okC a xs) (h1:One xs) (ht:EH xs=some xs) (hal:Ag 1 xs=true) :
    ∃ a' s',frz s a=some (a',s')∧Hp s0 s' n R B∧Ct a'=some (.ws false 1 xs)∧∀ l,ones (a'::l)=ones l:=by
 rcases hc with ⟨id,rfl⟩ | ⟨rfl,rfl⟩
 · obtain ⟨s',d,H'⟩:=WN H 0 (id:=id) (T:=T) (cs:=xs) (rm:=0) rfl h1 (xs.length,false)
   refine ⟨_,s',d,H'.dropB,?_,fun _=>rfl⟩
   simp only [Ct,ht,hal,if_true]
 · refine ⟨_,s,rfl,H,rfl,fun _=>rfl⟩
theorem Wq:∀ (K:List KQ) {s:St},Hp s0 s n R (bxs K++B)→KBk K→∃ K' s',frzE s (K.map KQ.av)=some (K'.map KQ.av,s')∧K'.map KQ.f=K.map KQ.f∧TK K'
 | [],s,H,_=>⟨[],s,rfl,rfl,fun p hp=>by simp at hp⟩
 | p :: K,s,H,hK=>by
   have H0:Hp s0 s n R (cb 9 p.nm (p.f.names.map .s)++(cb 3 p.a (p.f.kids.map iv)++(bxs K++B))):=by
    rw [← List.append_assoc,← List.append_assoc]; exact H
   obtain ⟨ok1,ok2⟩:=hK p (by simp)
   obtain ⟨b',s1,d1,H1,t1,o1⟩:=Wp H0 ok1 (one_s _) (GO AV.s _ fun _ _=>rfl) (Es AV.s 1 _ fun _ _=>⟨rfl,rfl⟩)
   obtain ⟨a',s2,d2,H2,t2,o2⟩:=Wp H1 ok2 (one_i _) (GO iv _ fun _ _=>rfl) (Es iv 1 _ fun _ _=>⟨rfl,rfl⟩)
   obtain ⟨K',s3,d3,h3,h4⟩:=Wq K H2 fun q hq=>hK q (by simp [hq])
   refine ⟨⟨p.f,b',a'⟩::K',s3,?_,by simp [h3],?_⟩
   · have:frzL s p.cells=some ((⟨p.f,b',a'⟩:KQ).cells,s2):=by
      simp only [KQ.cells,frzL,frz_b,frz_i,d1,d2]
     rw [List.map_cons]
     show frzE s (.agg p.cells::_)=_
     simp only [frzE,this,d3]
     rfl
   · intro q hq
     rcases List.mem_cons.1 hq with rfl | hq
     · exact ⟨t1,t2,o1,o2⟩
     · exact h4 q hq
theorem SG {id:Nat} {K:List KQ} (H:Hp s0 s n R (EE (id,K)++B)) (hK:KBk K) (p:Nat×Bool):RT s (.bl id 6 0 K.length p) (K.map KQ.f):=by
 have H':Hp s0 s n R (rowK id K::(bxs K++B)):=H
 have hb:=(H'.box (i:=0) rfl).1
 simp only at hb
 obtain ⟨h1,h2⟩:=Wx hK.cells
 rw [List.length_map] at h1
 have hc:cut (CU (K.map KQ.av)) 0 (K.length*6)=some (CU (K.map KQ.av)):=by
  unfold cut
  rw [List.drop_zero,List.take_of_length_le (by omega),if_pos h1]
 have hfz:frz s (.bl id 6 0 K.length p)=some (.sl 6 (K.map KQ.av) .shut,s.setBox id (.row 60 (CU (K.map KQ.av)) true 0)):=by
  simp only [frz,hb,hc]
  rw [if_pos ⟨Nat.zero_le _,h2,by decide⟩,Wy]
 have H2:=(H'.setBox (i:=0) rfl (.row 60 (CU (K.map KQ.av)) true 0)).dropB
 obtain ⟨K',s',d,h3,h4⟩:=Wq K H2 hK
 refine ⟨.sl 6 (K'.map KQ.av) .shut,s',?_,?_⟩
 · simp only [Rm,hfz,d,h4.all,if_true]
 · have hal:=Es FT.av 6 (K'.map KQ.f) fun _ _=>⟨rfl,rfl⟩
   simp only [Ct,h4.tell,hal,if_true,h3,fx]
   rw [h3] at hal
   rw [if_pos hal]
end
end Go.Proofs.Ytgloinighjdhlaa

namespace Go.Proofs.Ytgloinighjdhlaa
open Go.Proofs.Ytgloinighjdhlaa.Am
attribute [local irreducible] W WO WE WQ WD Tr.get Tr.set
theorem RY {α:Type} {A C D:List α}:(A++(C++D)).Perm (C++(A++D)):=by
 rw [← List.append_assoc,← List.append_assoc]
 exact List.perm_append_comm.append_right _
theorem Wr (T:Nat) (a:AV) (xs ys:List AV):(cb T a xs).map (·.1)=(cb T a ys).map (·.1):=by
 unfold cb
 split<;>rfl
theorem QS {K:List KQ} {i:Nat} {p:KQ} (h:K[i]? = some p) (g:FT):(bxs (K.set i ⟨g,p.nm,p.a⟩)).map (·.1)=(bxs K).map (·.1):=by
 induction K generalizing i with
 | nil=>simp at h
 | cons q K ih =>
   cases i with
   | zero =>
     simp only [List.getElem?_cons_zero,Option.some.injEq] at h
     subst h
     show (bx1 ⟨g,q.nm,q.a⟩++bxs K).map (·.1)=(bx1 q++bxs K).map (·.1)
     rw [List.map_append,List.map_append]
     congr 1
     unfold bx1
     rw [List.map_append,List.map_append,Wr 9 q.nm _ (q.f.names.map .s),Wr 3 q.a _ (q.f.kids.map iv)]
   | succ i =>
     show (bx1 q++bxs (K.set i ⟨g,p.nm,p.a⟩)).map (·.1)=(bx1 q++bxs K).map (·.1)
     rw [List.map_append,List.map_append,ih (by simpa using h)]
section
variable {s0 s:St} {n:En} {R:List RA} {B:List (Nat×Box)} {id i:Nat} {K:List KQ} {p:KQ}
theorem focN (H:Hp s0 s n R (EE (id,K)++B)) (hp:K[i]? = some p):Hp s0 s n R (cb 9 p.nm (p.f.names.map .s)++(rowK id K::(cb 3 p.a (p.f.kids.map iv)++(bxs (K.eraseIdx i)++B)))):=by
 refine H.perm (.refl _) ?_
 have h0:(bxs K).Perm (cb 9 p.nm (p.f.names.map .s)++cb 3 p.a (p.f.kids.map iv)++bxs (K.eraseIdx i)):=WB (φ:=bx1) hp
 have h1:(EE (id,K)++B).Perm (rowK id K::(cb 9 p.nm (p.f.names.map .s)++(cb 3 p.a (p.f.kids.map iv)++(bxs (K.eraseIdx i)++B)))):=by
  have:=(h0.append_right B).cons (rowK id K)
  simpa only [EE,List.append_assoc,List.cons_append] using this
 exact h1.trans List.perm_middle.symm
theorem Ws {g:KQ} (hp:K[i]? = some p) (H:Hp s0 s n R (cb 9 g.nm (g.f.names.map .s)++(rowK id (K.set i g)::(cb 3 g.a (g.f.kids.map iv)++(bxs (K.eraseIdx i)++B))))):Hp s0 s n R (EE (id,K.set i g)++B):=by
 refine H.perm (.refl _) ?_
 have h0:(bxs (K.set i g)).Perm (cb 9 g.nm (g.f.names.map .s)++cb 3 g.a (g.f.kids.map iv)++bxs (K.eraseIdx i)):=UN (φ:=bx1) hp
 have h1:(EE (id,K.set i g)++B).Perm (rowK id (K.set i g)::(cb 9 g.nm (g.f.names.map .s)++(cb 3 g.a (g.f.kids.map iv)++(bxs (K.eraseIdx i)++B)))):=by
  have:=(h0.append_right B).cons (rowK id (K.set i g))
  simpa only [EE,List.append_assoc,List.cons_append] using this
 exact List.perm_middle.trans h1.symm
theorem RZ {g:KQ} (hp:K[i]? = some p) (hc:g.cells=p.cells):rowK id (K.set i g)=rowK id K:=by
 have:(K.set i g).map KQ.av=K.map KQ.av:=by
  rw [List.map_set]
  refine RR ?_
  rw [List.getElem?_map,hp]
  show some (AV.agg p.cells)=some (.agg g.cells)
  rw [hc]
 unfold rowK
 rw [this]
theorem spoilN (H:Hp s0 s n R (EE (id,K)++B)) (hK:KBk K) (hp:K[i]? = some p) {k:Nat} (hk:k < p.f.names.length) (t:List Nat) :
    ∃ id2 s',p.nm=.bl id2 1 0 p.f.names.length (p.f.names.length,false)∧stA s 1 (.p id2 k) (.s t)=some s'∧Hp s0 s' n R (EE (id,K.set i ⟨{ p.f with names:=p.f.names.set k t },p.nm,p.a⟩)++B)∧KBk (K.set i ⟨{ p.f with names:=p.f.names.set k t },p.nm,p.a⟩):=by
 have HF:=focN H hp
 obtain ⟨ok1,ok2⟩:=hK p (List.mem_of_getElem? hp)
 rcases ok1 with ⟨id2,hnm⟩ | ⟨_,he⟩
 · rw [List.length_map] at hnm
   have hcb:cb 9 p.nm (p.f.names.map .s)=[(id2,.row 9 (p.f.names.map .s) false 0)]:=by rw [hnm]; rfl
   rw [hcb] at HF
   obtain ⟨s',d,H'⟩:=HF.stR 0 (off:=k) (v:=.s t) rfl (by rw [List.length_map]; exact hk) ⟨rfl,rfl⟩
   refine ⟨id2,s',hnm,d,?_,?_⟩
   · refine Ws hp ?_
     rw [RZ (g:=⟨{ p.f with names:=p.f.names.set k t },p.nm,p.a⟩) hp rfl]
     have hcb2:cb 9 p.nm ((p.f.names.set k t).map .s)=[(id2,.row 9 ((p.f.names.map .s).set k (.s t)) false 0)]:=by rw [hnm,List.map_set]; rfl
     show Hp s0 s' n R (cb 9 p.nm ((p.f.names.set k t).map .s)++_)
     rw [hcb2]
     exact H'
   · refine hK.set ⟨?_,ok2⟩
     refine .inl ⟨id2,?_⟩
     show p.nm=_
     rw [hnm,List.length_map,List.length_set]
 · rw [List.map_eq_nil_iff] at he
   rw [he] at hk; simp at hk
theorem focK (H:Hp s0 s n R (EE (id,K)++B)) (hp:K[i]? = some p):Hp s0 s n R (cb 3 p.a (p.f.kids.map iv)++(rowK id K::(cb 9 p.nm (p.f.names.map .s)++(bxs (K.eraseIdx i)++B)))):=by
 refine (focN H hp).perm (.refl _) ?_
 refine List.perm_middle.trans (.trans ?_ List.perm_middle.symm)
 exact List.Perm.cons _ RY
theorem unfocK {g:KQ} (hp:K[i]? = some p) (H:Hp s0 s n R (cb 3 g.a (g.f.kids.map iv)++(rowK id (K.set i g)::(cb 9 g.nm (g.f.names.map .s)++(bxs (K.eraseIdx i)++B))))):Hp s0 s n R (EE (id,K.set i g)++B):=by
 refine Ws hp (H.perm (.refl _) ?_)
 refine List.perm_middle.trans (.trans ?_ List.perm_middle.symm)
 exact List.Perm.cons _ RY
theorem spoilK (H:Hp s0 s n R (EE (id,K)++B)) (hK:KBk K) (hp:K[i]? = some p) {k:Nat} (hk:k < p.f.kids.length) (t:Int) :
    ∃ id2 s',p.a=.bl id2 1 0 p.f.kids.length (p.f.kids.length,false)∧stA s 1 (.p id2 k) (.i .i64 t)=some s'∧Hp s0 s' n R (EE (id,K.set i ⟨{ p.f with kids:=p.f.kids.set k t },p.nm,p.a⟩)++B)∧KBk (K.set i ⟨{ p.f with kids:=p.f.kids.set k t },p.nm,p.a⟩):=by
 have HF:=focK H hp
 obtain ⟨ok1,ok2⟩:=hK p (List.mem_of_getElem? hp)
 rcases ok2 with ⟨id2,hnm⟩ | ⟨_,he⟩
 · rw [List.length_map] at hnm
   have hcb:cb 3 p.a (p.f.kids.map iv)=[(id2,.row 3 (p.f.kids.map iv) false 0)]:=by rw [hnm]; rfl
   rw [hcb] at HF
   obtain ⟨s',d,H'⟩:=HF.stR 0 (off:=k) (v:=.i .i64 t) rfl (by rw [List.length_map]; exact hk) ⟨rfl,rfl⟩
   refine ⟨id2,s',hnm,d,?_,?_⟩
   · refine unfocK hp ?_
     rw [RZ (g:=⟨{ p.f with kids:=p.f.kids.set k t },p.nm,p.a⟩) hp rfl]
     have hcb2:cb 3 p.a ((p.f.kids.set k t).map iv)=[(id2,.row 3 ((p.f.kids.map iv).set k (.i .i64 t)) false 0)]:=by rw [hnm,List.map_set]; rfl
     show Hp s0 s' n R (cb 3 p.a ((p.f.kids.set k t).map iv)++_)
     rw [hcb2]
     exact H'
   · refine hK.set ⟨ok1,?_⟩
     refine .inl ⟨id2,?_⟩
     show p.a=_
     rw [hnm,List.length_map,List.length_set]
 · rw [List.map_eq_nil_iff] at he
   rw [he] at hk; simp at hk
theorem Wt (hK:KBk K) (hp:K[i]? = some p) (q:St):lenA q 1 p.nm=some (.i .i64 (p.f.names.length:Nat))∧lenA q 1 p.a=some (.i .i64 (p.f.kids.length:Nat)):=by
 obtain ⟨ok1,ok2⟩:=hK p (List.mem_of_getElem? hp)
 have h1:=(MU ok1 q).1
 have h2:=(MU ok2 q).1
 rw [List.length_map] at h1 h2
 exact ⟨h1,h2⟩
theorem ld_nm (hK:KBk K) (hp:K[i]? = some p):(∀ q:St,ldR q (some p.nm)=some (p.nm,q))∧∀ q:St,ldR q (some p.a)=some (p.a,q):=by
 obtain ⟨ok1,ok2⟩:=hK p (List.mem_of_getElem? hp)
 exact ⟨(MU ok1 s0).2.1,(MU ok2 s0).2.1⟩
end
theorem Ud (id:Nat) (K:List KQ) (B:List (Nat×Box)):(EE (id,K)++B).map (·.1)=id::((bxs K).map (·.1)++B.map (·.1)):=by simp [EE]
def spoilT:List Nat:=[115,112,111,105,108,116]
def SK (N:Nat) (K:List KQ):Prop:=K.length=N∧KBk K∧∀ p∈K,p.f.names.length < 2^34∧p.f.kids.length < 2^34
theorem SK.setN {N:Nat} {K:List KQ} (h:SK N K) {i k:Nat} {p:KQ} {t:List Nat} (hp:K[i]? = some p) (hK:KBk (K.set i ⟨{ p.f with names:=p.f.names.set k t },p.nm,p.a⟩)):SK N (K.set i ⟨{ p.f with names:=p.f.names.set k t },p.nm,p.a⟩):=by
 refine ⟨by rw [List.length_set]; exact h.1,hK,fun q hq=>?_⟩
 rcases List.mem_or_eq_of_mem_set hq with hq | rfl
 · exact h.2.2 q hq
 · have:=h.2.2 p (List.mem_of_getElem? hp)
   simpa using this
theorem SK.setK {N:Nat} {K:List KQ} (h:SK N K) {i k:Nat} {p:KQ} {t:Int} (hp:K[i]? = some p) (hK:KBk (K.set i ⟨{ p.f with kids:=p.f.kids.set k t },p.nm,p.a⟩)):SK N (K.set i ⟨{ p.f with kids:=p.f.kids.set k t },p.nm,p.a⟩):=by
 refine ⟨by rw [List.length_set]; exact h.1,hK,fun q hq=>?_⟩
 rcases List.mem_or_eq_of_mem_set hq with hq | rfl
 · exact h.2.2 q hq
 · have:=h.2.2 p (List.mem_of_getElem? hp)
   simpa using this
theorem WP {s0 s:St} {n:En} {R:List RA} {B:List (Nat×Box)} {id N:Nat} {K:List KQ} (H:Hp s0 s n R (EE (id,K)++B)) (hS:SK N K) (hN:N < 2^34) :
    ∃ s',(lim Ay).call BL [.bl id 6 0 N (N*6,false)] s=some (.tup [],s')∧∃ K',Hp s0 s' n R (EE (id,K')++B)∧SK N K':=by
 obtain ⟨r, s', hc,rfl,hP⟩:=fn_G (f:=BL) (args:=[.bl id 6 0 N (N*6,false)]) (s:=s) (Post:=fun r s'=>r=.tup []∧∃ K',Hp s0 s' n R (EE (id,K')++B)∧SK N K') GK rfl rfl (by
  have hz0:wkZ BM.cin [.bl id 6 0 N (N*6,false)]=[.bl id 6 0 N (N*6,false)]:=rfl
  have hth:∀ q,FO q (.bl id 6 0 N (N*6,false))=some (.bl id 6 0 N (N*6,false),q):=fun q=>rfl
  rw [hz0]
  simp only [BM,go_sem,AE,AA,AC,AB,KB_n,KB_x,Nat.reduceBEq,Nat.reduceAdd,Nat.reduceLT,Nat.reduceLeDiff,Nat.reduceEqDiff,reduceIte,Int.reduceEq,reduceCtorEq]
  refine CH (fun x e q=>∃ (i:Nat) (K':List KQ),i+x=N∧Hp s0 q s.en R (EE (id,K')++B)∧SK N K'∧(bxs K').map (·.1)=(bxs K).map (·.1)∧e.get 0=.bl id 6 0 N (N*6,false)∧e.get 2=.i .i64 (i:Nat)) ?_ N _ _ ?_
  · rintro x e q ⟨i,K1,hix,H1,hS1,hid1,g0,g2⟩
    by_cases h:i < N
    · have h1 : ((i:Int) < (N:Int))=True:=eq_true (by omega)
      have hlt:(i < N)=True:=by simp [h]
      have hw1:=A9 (show i+1 < 2^63 by omega)
      simp only [go_sem,AE,AA,AC,AB,KB_n,KB_x,Nat.reduceBEq,Nat.reduceAdd,Nat.reduceLT,Nat.reduceLeDiff,Nat.reduceEqDiff,reduceIte,Int.reduceEq,reduceCtorEq,g0,g2,h1]
      obtain ⟨p1,hp1⟩:∃ p,K1[i]? = some p:=⟨_,List.getElem?_eq_getElem (by rw [hS1.1]; exact h)⟩
      refine CH (fun x e q=>∃ (k:Nat) (K2:List KQ) (p:KQ),k+x=p.f.names.length∧K2[i]? = some p∧Hp s0 q s.en R (EE (id,K2)++B)∧SK N K2∧(bxs K2).map (·.1)=(bxs K).map (·.1)∧e.get 0=.bl id 6 0 N (N*6,false)∧e.get 2=.i .i64 (i:Nat)∧e.get 3=.i .i64 (k:Nat)) ?_ p1.f.names.length _ _ ?_
      · clear g0 g2
        rintro y e q ⟨k,K2,p,hky,hp,H2,hS2,hid2,g0,g2,g3⟩
        have la:=H2.ldR 0 (off:=i*6+2) (v:=p.nm) rfl (MX hp rfl)
        have hln:=(Wt hS2.2.1 hp q).1
        have lr:=(ld_nm hS2.2.1 hp).1
        have hsz:=hS2.2.2 p (List.mem_of_getElem? hp)
        by_cases hk:k < p.f.names.length
        · have e1:((k:Int) < (p.f.names.length:Int))=True:=eq_true (by omega)
          have e2:(k < p.f.names.length)=True:=by simp [hk]
          have hw2:=A9 (show k+1 < 2^63 by omega)
          obtain ⟨id2,q2,hnm,d2,H3,hK3⟩:=spoilN H2 hS2.2.1 hp hk spoilT
          rw [hnm] at la hln lr
          have d2':stA q 1 (.p id2 k) (.s [115,112,111,105,108,116])=some q2:=d2
          simp only [go_sem,AE,AA,AC,AB,KB_n,KB_x,Nat.reduceBEq,Nat.reduceAdd,Nat.reduceLT,Nat.reduceLeDiff,Nat.reduceEqDiff,reduceIte,Int.reduceEq,reduceCtorEq,g0,g2,g3,hth,AI,hlt,Nat.zero_add,Nat.mul_one,la,e1,e2,d2',hw2]
          exact ⟨y - 1,by omega,k+1,_,_,by simp; omega,Jb hp _,H3,hS2.setN hp hK3,by rw [QS hp]; exact hid2,rfl⟩
        · have e1:((k:Int) < (p.f.names.length:Int))=False:=eq_false (by omega)
          simp only [go_sem,AE,AA,AC,AB,KB_n,KB_x,Nat.reduceBEq,Nat.reduceAdd,Nat.reduceLT,Nat.reduceLeDiff,Nat.reduceEqDiff,reduceIte,Int.reduceEq,reduceCtorEq,g0,g2,g3,hth,AI,hlt,Nat.zero_add,la,lr,hln,e1]
          refine CH (fun x e q=>∃ (k:Nat) (K2:List KQ) (p:KQ),k+x=p.f.kids.length∧K2[i]? = some p∧Hp s0 q s.en R (EE (id,K2)++B)∧SK N K2∧(bxs K2).map (·.1)=(bxs K).map (·.1)∧e.get 0=.bl id 6 0 N (N*6,false)∧e.get 2=.i .i64 (i:Nat)∧e.get 4=.i .i64 (k:Nat)) ?_ p.f.kids.length _ _ ?_
          · clear g0 g2 g3 la lr hln hsz hk e1 H2 hS2 hid2 hp hky
            rintro z e q ⟨k,K2,p,hky,hp,H2,hS2,hid2,g0,g2,g4⟩
            have la:=H2.ldR 0 (off:=i*6+3) (v:=p.a) rfl (MX hp rfl)
            have hln:=(Wt hS2.2.1 hp q).2
            have lr:=(ld_nm hS2.2.1 hp).2
            have hsz:=hS2.2.2 p (List.mem_of_getElem? hp)
            by_cases hk:k < p.f.kids.length
            · have e1:((k:Int) < (p.f.kids.length:Int))=True:=eq_true (by omega)
              have e2:(k < p.f.kids.length)=True:=by simp [hk]
              have hw2:=A9 (show k+1 < 2^63 by omega)
              obtain ⟨id2,q2,hnm,d2,H3,hK3⟩:=spoilK H2 hS2.2.1 hp hk (-7)
              rw [hnm] at la hln lr
              simp only [go_sem,AE,AA,AC,AB,KB_n,KB_x,Nat.reduceBEq,Nat.reduceAdd,Nat.reduceLT,Nat.reduceLeDiff,Nat.reduceEqDiff,reduceIte,Int.reduceEq,reduceCtorEq,g0,g2,g4,hth,AI,hlt,Nat.zero_add,Nat.mul_one,la,e1,e2,d2,hw2]
              exact ⟨z - 1,by omega,k+1,_,_,by simp; omega,Jb hp _,H3,hS2.setK hp hK3,by rw [QS hp]; exact hid2,rfl⟩
            · have e1:((k:Int) < (p.f.kids.length:Int))=False:=eq_false (by omega)
              obtain ⟨q2,d2,H3⟩:=stKB H2 hp (j:=4) (g:={ p.f with rest:=9 }) (v:=.i .i64 9) (by omega) ⟨rfl,rfl⟩ rfl
              simp only [go_sem,AE,AA,AC,AB,KB_n,KB_x,Nat.reduceBEq,Nat.reduceAdd,Nat.reduceLT,Nat.reduceLeDiff,Nat.reduceEqDiff,reduceIte,Int.reduceEq,reduceCtorEq,g0,g2,g4,hth,AI,hlt,Nat.zero_add,la,lr,hln,e1,d2,hw1]
              have hb:=Kw hp (g:={ p.f with rest:=9 }) rfl rfl
              refine ⟨x - 1,by omega,i+1,K2.set i ⟨{ p.f with rest:=9 },p.nm,p.a⟩,by omega,?_,⟨by rw [List.length_set]; exact hS2.1,hS2.2.1.setF hp rfl rfl,fun r hr=>?_⟩,by rw [QS hp]; exact hid2,rfl⟩
              · show Hp s0 q2 s.en R (rowK id _::(bxs _++B))
                rw [hb]; exact H3
              · rcases List.mem_or_eq_of_mem_set hr with hr | rfl
                · exact hS2.2.2 r hr
                · exact hsz
          · simp only [go_sem,AE,AA,AC,AB,KB_n,KB_x,Nat.reduceBEq,Nat.reduceAdd,Nat.reduceLT,Nat.reduceLeDiff,Nat.reduceEqDiff,reduceIte,Int.reduceEq,reduceCtorEq,g0,g2]
            exact ⟨0,K2,p,by omega,hp,H2,hS2,hid2,rfl⟩
      · simp only [go_sem,AE,AA,AC,AB,KB_n,KB_x,Nat.reduceBEq,Nat.reduceAdd,Nat.reduceLT,Nat.reduceLeDiff,Nat.reduceEqDiff,reduceIte,Int.reduceEq,reduceCtorEq,g0,g2]
        exact ⟨0,K1,p1,by omega,hp1,H1,hS1,hid1,rfl⟩
    · have h1:((i:Int) < (N:Int))=False:=eq_false (by omega)
      simp only [go_sem,AE,AA,AC,AB,KB_n,KB_x,Nat.reduceBEq,Nat.reduceAdd,Nat.reduceLT,Nat.reduceLeDiff,Nat.reduceEqDiff,reduceIte,Int.reduceEq,reduceCtorEq,g0,g2,h1]
      refine ⟨_,_,rfl,rfl,K1,?_,hS1⟩
      refine H.leave (n1:=s.en) H1 _ (fun {j x} hj=>?_) (.inr fun {j r k} hr hk=>(H.rows hr).tok_lt hk)
      have e1:((EE (id,K1)++B).map (·.1))[j]? = some x.1:=by rw [List.getElem?_map,hj]; rfl
      rw [Ud,hid1,← Ud,List.getElem?_map] at e1
      cases hq:(EE (id,K)++B)[j]? with
      | none=>rw [hq] at e1; cases e1
      | some y =>
        rw [hq] at e1
        simp only [Option.map_some,Option.some.injEq] at e1
        rw [← e1]
        exact (H.box hq).2.2
  · simp only [go_sem,AE,AA,AC,AB,KB_n,KB_x,Nat.reduceBEq,Nat.reduceAdd,Nat.reduceLT,Nat.reduceLeDiff,Nat.reduceEqDiff,reduceIte,Int.reduceEq,reduceCtorEq]
    exact ⟨0,K,by omega,H.enter,hS,rfl,rfl⟩)
 exact ⟨s',hc,hP⟩
end Go.Proofs.Ytgloinighjdhlaa

namespace Go.Proofs.Ytgloinighjdhlaa
open Go.Proofs.Ytgloinighjdhlaa.Am
attribute [local irreducible] W WO WE WQ WD Tr.get Tr.set
theorem N9 (l:List FT) (hl:l.length < 2^34) {i:Nat} (hi:i < l.length) (f:FT) {c:List AV} (hc:wkZ [CT.id,.id,(.sl 1 .id),(.sl 1 .id),.id,.id] c=f.cells) (s:St) (hw:Wf s):(lim Ay).call BA [fx l,.i .i64 (i:Nat),.agg c] s=some (fx (l.set i f),s):=by
 refine fn_W Gv rfl rfl ?_
 have hz0:wkZ c_touchstoneref22_with.cin [fx l,.i .i64 (i:Nat),.agg c]=[fx l,.i .i64 (i:Nat),.agg f.cells]:=by
  rw [show c_touchstoneref22_with.cin=[(.sl 6 (.agg [.id,.id,(.sl 1 .id),(.sl 1 .id),.id,.id])),.id,(.agg [.id,.id,(.sl 1 .id),(.sl 1 .id),.id,.id])] from rfl]
  rw [wkZ,wkZ,wkZ]
  simp only [wk,fx,hc,wkZ]
 rw [hz0]
 have H1:=(Hp.begin hw).new (.cells 60 f.cells)
 generalize hq:s.enter.new (.cells 60 f.cells)=q at H1
 generalize hm:s.enter.nb=m at H1
 obtain ⟨a2,q2,d2,H2,n2,p2⟩:=H1.appN (es:=6) 60 (a:=.sl 6 [] .full) (xs:=[]) (.inr (.inr (.inl rfl))) (V1 q l) (by simp; omega)
 have p2:=p2 (by intro hh; rw [List.map_eq_nil_iff] at hh; subst hh; simp at hi)
 rw [List.nil_append] at H2
 obtain ⟨q3,d3,H3,n3⟩:=H2.thaw 0 rfl p2.1 [] (by simp) (by simp)
 rw [← N1,MH] at H3
 rw [List.length_map] at d3
 generalize hid:q2.nb=id at d3 H3
 have hlen:=MI (QM l)
 rw [List.length_map] at hlen
 obtain ⟨q4,d4,H4,n4⟩:=H3.strw 0 (off:=i*6) (m:=6) (v:=.agg f.cells) rfl (by rw [hlen]; omega) ⟨rfl,rfl⟩
 have lw:=H3.ldw (m:=6) 1 rfl rfl
 have hset:=YJ (QM l) (i:=i) (by simpa using hi) f.cells rfl
 rw [show (AV.agg f.cells).cells=f.cells from rfl,hset,← List.map_set] at H4
 have hbx:=(H4.box (i:=0) rfl).1
 have hfz:=YL (QM (l.set i f)) (fun c hc=>by obtain ⟨g,_,rfl⟩:=List.mem_map.1 hc; exact ones_F g) (p:=(l.length*6,false)) hbx
 rw [List.length_map,List.length_set,N1] at hfz
 have hlt:(i < l.length)=True:=by simp [hi]
 have hal0:Ag 6 []=true:=rfl
 unfold fx at d2
 simp only [c_touchstoneref22_with,go_sem,AE,AA,AC,AB,KB_n,KB_x,Nat.reduceBEq,Nat.reduceAdd,Nat.reduceLT,Nat.reduceLeDiff,Nat.reduceEqDiff,reduceIte,Int.reduceEq,reduceCtorEq,CI,hq,hm,fx,hal0,d2,d3,lw,AI,hlt,Nat.zero_add,AW,d4]
 have hti:∀ L:List FT,(L.map FT.av).any Uz=false:=fun L=>by
  rw [List.any_eq_false]
  intro x hx
  obtain ⟨g,_,rfl⟩:=List.mem_map.1 hx
  simp [FT.av,FT.cells,Uz,tx,zx]
 have hpa:pubA q4 (.bl id 6 0 l.length (l.length*6,false))=some (.sl 6 ((l.set i f).map FT.av) .shut,q4.setBox id (.row 60 ((l.set i f).map FT.cells).flatten true 0)):=by
  show Sg (frz q4 (.bl id 6 0 l.length (l.length*6,false)))=_
  have hfz':frz q4 (.bl id 6 0 l.length (l.length*6,false))=some (.sl 6 ((l.set i f).map FT.av) .shut,q4.setBox id (.row 60 ((l.set i f).map FT.cells).flatten true 0)):=hfz
  rw [hfz']
  simp only [Sg,hti,Bool.false_eq_true,if_false]
 rw [hpa]
 have H5:=H4.setBox (i:=0) rfl (.row 60 ((l.set i f).map FT.cells).flatten true 0)
 refine AU H5.over (by simp only [Bs,AV.refs,Kv]) ?_
 have hwk:=YM (l.set i f) ((l.set i f).map FT.cells) (by
  rw [List.map_map]
  exact List.map_congr_left fun g _=>N0 g)
 rw [N1] at hwk
 simp only [wkZ,wk,hwk]
 rfl
theorem Yf {s q:St} {n:En} {a:AV} {L:List Int} {fr:Bool} {m:Nat} {f:FT} (H:Hp s q n [⟨1,3,a,L.map iv,fr⟩] [(m,.cells 60 f.cells)]) (hL:L.length < 2^36) {i:Nat} {x:Int} (hx:f.kids[i]? = some x)
    {e:Tr} {Q:Ex→Tr→St→Prop} (h1:e.get 1=.p m 0) (h3:e.get 3=a) (h4:e.get 4=.i .i64 (i:Nat)) (h5:e.get 5=.i .i64 (L.length:Nat))
    (k:∀ (e':Tr) (b:Nat),e'.get 1=.p m 0→e'.get 3=a→e'.get 4=.i .i64 (i:Nat)→e'.get 5=.i .i64 (b:Nat)→b≤L.length→(∀ j y,b≤j→L[j]? = some y→x < y)→(b=0∨∃ y,L[b - 1]? = some y∧y≤x)→Q (.x 2) e' q) :
    W (lim Ay) (subC Ai.body [1,1,0,1,0,0,1,0,0,1,0,0]) e q Q:=by
 have l3:=H.ld 0 (off:=3) (v:=zx f.kids) rfl rfl
 have hx2:=JY hx
 unfold zx at l3
 simp only [Ai,subC,go_sem,AE,AA,AC,AB,KB_n,KB_x,Nat.reduceBEq,Nat.reduceAdd,Nat.reduceLT,Nat.reduceLeDiff,Nat.reduceEqDiff,reduceIte,Int.reduceEq,reduceCtorEq]
 refine CH (fun y e q'=>∃ b:Nat,b=y∧b≤L.length∧q'=q∧(∀ j z,b≤j→L[j]? = some z→x < z)∧e.get 1=.p m 0∧e.get 3=a∧e.get 4=.i .i64 (i:Nat)∧e.get 5=.i .i64 (b:Nat)) ?_ L.length _ _ ?_
 · clear h1 h3 h4 h5
   rintro y e q' ⟨b,rfl,hbl,rfl,hgt,g1,g3,g4,g5⟩
   by_cases hb:b=0
   · subst hb
     have e1:((0:Int) < ((0:Nat):Int))=False:=by simp
     simp only [go_sem,AE,AA,AC,AB,KB_n,KB_x,Nat.reduceBEq,Nat.reduceAdd,Nat.reduceLT,Nat.reduceLeDiff,Nat.reduceEqDiff,reduceIte,Int.reduceEq,reduceCtorEq,g1,g3,g4,g5,e1]
     refine k _ 0 ?_ ?_ ?_ ?_ hbl hgt (.inl rfl)<;>simp only [go_sem,AE,AA,AC,AB,KB_n,KB_x,Nat.reduceBEq,Nat.reduceAdd,Nat.reduceLT,Nat.reduceLeDiff,Nat.reduceEqDiff,reduceIte,Int.reduceEq,reduceCtorEq,g1,g3,g4,g5]
   · have e1:((0:Int) < (b:Int))=True:=eq_true (by omega)
     have hsb:IntKind.i64.wrap ((b:Int) - 1)=((b - 1:Nat):Int):=by
      rw [show (b:Int) - 1=((b - 1:Nat):Int) by omega]; exact IH (by omega)
     obtain ⟨z,hz⟩:∃ z,L[b - 1]? = some z:=⟨_,List.getElem?_eq_getElem (by omega)⟩
     have hz2:=JY hz
     rcases H.rows (i:=0) rfl with (⟨hh,h2⟩ | ⟨hh,h2⟩ | hh | hh) | ⟨kk,v,t,hh,k1,k2,k3,k4,k5,k6,k7⟩
     · simp at h2; subst h2; simp at hz
     · simp at h2; subst h2; simp at hz
     · simp only at hh
       have lr:ldA q' false 1 (.ep [AV.i .i64 z] 0 .full)=some (.i .i64 z):=rfl
       rw [hh] at g3
       by_cases hxz:x < z
       · have e2:(x < z)=True:=by simp [hxz]
         simp only [go_sem,AE,AA,AC,AB,KB_n,KB_x,Nat.reduceBEq,Nat.reduceAdd,Nat.reduceLT,Nat.reduceLeDiff,Nat.reduceEqDiff,reduceIte,Int.reduceEq,reduceCtorEq,g1,g3,g4,g5,e1,hsb,AI,hz2,hx2,CK,l3,Dy,lr,e2]
         refine ⟨b - 1,by omega,b - 1,rfl,by omega,fun j w hj hw=>?_,hh.symm,rfl⟩
         by_cases hjb:j=b - 1
         · subst hjb
           rw [hz] at hw; cases hw; exact hxz
         · exact hgt j w (by omega) hw
       · have e2:(x < z)=False:=by simp only [eq_iff_iff,iff_false]; exact hxz
         simp only [go_sem,AE,AA,AC,AB,KB_n,KB_x,Nat.reduceBEq,Nat.reduceAdd,Nat.reduceLT,Nat.reduceLeDiff,Nat.reduceEqDiff,reduceIte,Int.reduceEq,reduceCtorEq,g1,g3,g4,g5,e1,hsb,AI,hz2,hx2,CK,l3,Dy,lr,e2]
         refine k _ b ?_ ?_ ?_ ?_ hbl hgt (.inr ⟨z,hz,by omega⟩)<;>simp only [go_sem,AE,AA,AC,AB,KB_n,KB_x,Nat.reduceBEq,Nat.reduceAdd,Nat.reduceLT,Nat.reduceLeDiff,Nat.reduceEqDiff,reduceIte,Int.reduceEq,reduceCtorEq,g1,g3,g4,g5,hh]
     · simp only at hh
       have lr:ldA q' false 1 (.ep [AV.i .i64 z] 0 .shut)=some (.i .i64 z):=rfl
       rw [hh] at g3
       by_cases hxz:x < z
       · have e2:(x < z)=True:=by simp [hxz]
         simp only [go_sem,AE,AA,AC,AB,KB_n,KB_x,Nat.reduceBEq,Nat.reduceAdd,Nat.reduceLT,Nat.reduceLeDiff,Nat.reduceEqDiff,reduceIte,Int.reduceEq,reduceCtorEq,g1,g3,g4,g5,e1,hsb,AI,hz2,hx2,CK,l3,Dy,lr,e2]
         refine ⟨b - 1,by omega,b - 1,rfl,by omega,fun j w hj hw=>?_,hh.symm,rfl⟩
         by_cases hjb:j=b - 1
         · subst hjb
           rw [hz] at hw; cases hw; exact hxz
         · exact hgt j w (by omega) hw
       · have e2:(x < z)=False:=by simp only [eq_iff_iff,iff_false]; exact hxz
         simp only [go_sem,AE,AA,AC,AB,KB_n,KB_x,Nat.reduceBEq,Nat.reduceAdd,Nat.reduceLT,Nat.reduceLeDiff,Nat.reduceEqDiff,reduceIte,Int.reduceEq,reduceCtorEq,g1,g3,g4,g5,e1,hsb,AI,hz2,hx2,CK,l3,Dy,lr,e2]
         refine k _ b ?_ ?_ ?_ ?_ hbl hgt (.inr ⟨z,hz,by omega⟩)<;>simp only [go_sem,AE,AA,AC,AB,KB_n,KB_x,Nat.reduceBEq,Nat.reduceAdd,Nat.reduceLT,Nat.reduceLeDiff,Nat.reduceEqDiff,reduceIte,Int.reduceEq,reduceCtorEq,g1,g3,g4,g5,hh]
     · simp only at hh
       have lr:ldA q' false 1 (.ep [AV.i .i64 z] 0 (.tok kk v))=some (.i .i64 z):=by
        simp [ldA,St.ok,k3,k4,cut,scal]
       rw [hh] at g3
       by_cases hxz:x < z
       · have e2:(x < z)=True:=by simp [hxz]
         simp only [go_sem,AE,AA,AC,AB,KB_n,KB_x,Nat.reduceBEq,Nat.reduceAdd,Nat.reduceLT,Nat.reduceLeDiff,Nat.reduceEqDiff,reduceIte,Int.reduceEq,reduceCtorEq,g1,g3,g4,g5,e1,hsb,AI,hz2,hx2,CK,l3,Dy,lr,e2]
         refine ⟨b - 1,by omega,b - 1,rfl,by omega,fun j w hj hw=>?_,hh.symm,rfl⟩
         by_cases hjb:j=b - 1
         · subst hjb
           rw [hz] at hw; cases hw; exact hxz
         · exact hgt j w (by omega) hw
       · have e2:(x < z)=False:=by simp only [eq_iff_iff,iff_false]; exact hxz
         simp only [go_sem,AE,AA,AC,AB,KB_n,KB_x,Nat.reduceBEq,Nat.reduceAdd,Nat.reduceLT,Nat.reduceLeDiff,Nat.reduceEqDiff,reduceIte,Int.reduceEq,reduceCtorEq,g1,g3,g4,g5,e1,hsb,AI,hz2,hx2,CK,l3,Dy,lr,e2]
         refine k _ b ?_ ?_ ?_ ?_ hbl hgt (.inr ⟨z,hz,by omega⟩)<;>simp only [go_sem,AE,AA,AC,AB,KB_n,KB_x,Nat.reduceBEq,Nat.reduceAdd,Nat.reduceLT,Nat.reduceLeDiff,Nat.reduceEqDiff,reduceIte,Int.reduceEq,reduceCtorEq,g1,g3,g4,g5,hh]
 · simp only [go_sem,AE,AA,AC,AB,KB_n,KB_x,Nat.reduceBEq,Nat.reduceAdd,Nat.reduceLT,Nat.reduceLeDiff,Nat.reduceEqDiff,reduceIte,Int.reduceEq,reduceCtorEq]
   refine ⟨L.length,rfl,Nat.le_refl _,fun j z hj hz=>?_,h1,h3,h4,h5⟩
   rw [List.getElem?_eq_none hj] at hz
   cases hz
theorem Yg (f:FT) (ho:f.Ok) (hb0:0≤f.beside) (hb1:f.beside≤(f.kids.length:Int)) (s:St) (hw:Wf s):(lim Ay).call BW [.agg f.cells] s=some (zx (besP f),s):=by
 refine fn_W F1 rfl rfl ?_
 have hz0:wkZ Ai.cin [.agg f.cells]=[.agg f.cells]:=by
  have:=N0 f
  simp only [Ai,wkZ,wk] at this ⊢
  rw [this]
 rw [hz0]
 have H1:=(Hp.begin hw).new (.cells 60 f.cells)
 generalize hq:s.enter.new (.cells 60 f.cells)=q at H1
 generalize hm:s.enter.nb=m at H1
 have hkl:=ho.klen
 simp only [Ai,go_sem,AE,AA,AC,AB,KB_n,KB_x,Nat.reduceBEq,Nat.reduceAdd,Nat.reduceLT,Nat.reduceLeDiff,Nat.reduceEqDiff,reduceIte,Int.reduceEq,reduceCtorEq,CI,hq,hm]
 refine CH (fun x e q=>∃ (i:Nat) (L:List Int) (a:AV) (fr:Bool),i+x=f.kids.length∧L.Perm (f.kids.take i)∧L.Pairwise (·≤·)∧Hp s q s.en [⟨1,3,a,L.map iv,fr⟩] [(m,.cells 60 f.cells)]∧e.get 1=.p m 0∧e.get 3=a∧e.get 4=.i .i64 (i:Nat)) ?_ f.kids.length _ _ ?_
 · rintro x e q' ⟨i,L,a,fr,hix,hpm,hsr,H,g1,g3,g4⟩
   have l3:=H.ld 0 (off:=3) (v:=zx f.kids) rfl rfl
   have l5:=H.ld 0 (off:=5) (v:=.i .i64 f.beside) rfl rfl
   have hll:L.length=i:=by rw [hpm.length_eq,List.length_take]; omega
   have hla:=V3 (H.rows (i:=0) rfl) q'
   simp only [List.length_map] at hla
   by_cases h:i < f.kids.length
   · have h1:((i:Int) < (f.kids.length:Int))=True:=eq_true (by omega)
     obtain ⟨z,hz⟩:∃ z,f.kids[i]? = some z:=⟨_,List.getElem?_eq_getElem h⟩
     have hz2:=JY hz
     have hw1:=A9 (show i+1 < 2^63 by omega)
     simp only [go_sem,AE,AA,AC,AB,KB_n,KB_x,Nat.reduceBEq,Nat.reduceAdd,Nat.reduceLT,Nat.reduceLeDiff,Nat.reduceEqDiff,reduceIte,Int.reduceEq,reduceCtorEq,g1,g3,g4,l3,zx,List.length_map,Nat.zero_add,h1,hla]
     refine Yf (f:=f) (i:=i) (x:=z) H (by omega) hz ?_ ?_ ?_ ?_ ?_
     · simp only [go_sem,AE,AA,AC,AB,KB_n,KB_x,Nat.reduceBEq,Nat.reduceAdd,Nat.reduceLT,Nat.reduceLeDiff,Nat.reduceEqDiff,reduceIte,Int.reduceEq,reduceCtorEq,g1]
     · simp only [go_sem,AE,AA,AC,AB,KB_n,KB_x,Nat.reduceBEq,Nat.reduceAdd,Nat.reduceLT,Nat.reduceLeDiff,Nat.reduceEqDiff,reduceIte,Int.reduceEq,reduceCtorEq,g3]
     · simp only [go_sem,AE,AA,AC,AB,KB_n,KB_x,Nat.reduceBEq,Nat.reduceAdd,Nat.reduceLT,Nat.reduceLeDiff,Nat.reduceEqDiff,reduceIte,Int.reduceEq,reduceCtorEq,g4]
     · simp only [go_sem,AE,AA,AC,AB,KB_n,KB_x,Nat.reduceBEq,Nat.reduceAdd,Nat.reduceLT,Nat.reduceLeDiff,Nat.reduceEqDiff,reduceIte,Int.reduceEq,reduceCtorEq]
     clear g1 g3 g4 e
     intro e b g1 g3 g4 g5 hbl hgt hle
     obtain ⟨a2,q2,d2,y2,_,⟨fr2,H2⟩,n2⟩:=H.slc 0 (lo:=none) (hi:=some (.i .i64 (b:Nat))) (p:=0) (q:=b) rfl (by simp only [CS,AI,List.length_map]; rw [if_pos ⟨Nat.zero_le _,hbl⟩])
     obtain ⟨a3,q3,d3,H3,n3,_⟩:=H2.appN (es:=1) 3 (a:=.sl 1 [] .full) (xs:=[]) (.inr (.inr (.inl rfl))) y2 (by simp; omega)
     have l3:=H3.ld 0 (off:=3) (v:=zx f.kids) rfl rfl
     obtain ⟨a4,q4,d4,H4,n4,_⟩:=H3.app 0 (y:=.sl 1 [.i .i64 z] .full) (ys:=[.i .i64 z]) rfl (by simp [elems,St.ok]) (by simp; omega)
     obtain ⟨a5,q5,d5,y5,_,⟨fr5,H5⟩,n5⟩:=H4.slc 1 (lo:=some (.i .i64 (b:Nat))) (hi:=none) (p:=b) (q:=L.length) rfl (by simp only [CS,AI,List.length_map]; rw [if_pos ⟨hbl,Nat.le_refl _⟩])
     obtain ⟨a6,q6,d6,H6,n6,_⟩:=H5.app 0 rfl y5 (by simp; omega)
     have H7:=H6.sel [0] [0] (by simp) (by simp)
     have hpin:=put_in hsr hbl hgt hle
     have hal0:Ag 1 []=true:=rfl
     have hal1:Ag 1 [AV.i .i64 z]=true:=rfl
     simp only [go_sem,AE,AA,AC,AB,KB_n,KB_x,Nat.reduceBEq,Nat.reduceAdd,Nat.reduceLT,Nat.reduceLeDiff,Nat.reduceEqDiff,reduceIte,Int.reduceEq,reduceCtorEq,g1,g3,g4,g5,l3,zx,hal0,hal1,d2,d3,d4,d5,d6,AI,hz2,CK,Dy,Nat.zero_add,hw1]
     refine ⟨x - 1,by omega,i+1,L.take b++([z]++L.drop b),a6,true,by omega,?_,hpin.1,?_,?_⟩
     · have htk:f.kids.take (i+1)=f.kids.take i++[z]:=by rw [List.take_add_one,hz]; rfl
       rw [htk]
       exact hpin.2.trans (hpm.append_right [z])
     · have hxs:(([]++((L.map iv).drop 0).take (b - 0))++[AV.i .i64 z])++((L.map iv).drop b).take (L.length - b)=(L.take b++([z]++L.drop b)).map iv:=by
        have e1:((L.map iv).drop b).take (L.length - b)=(L.drop b).map iv:=by rw [List.take_of_length_le (by simp),List.map_drop]
        have e2:(([]:List AV)++((L.map iv).drop 0).take (b - 0))=(L.take b).map iv:=by rw [List.nil_append,List.drop_zero,Nat.sub_zero,List.map_take]
        rw [e1,e2,List.map_append,List.map_append,List.append_assoc]
        rfl
       have H8:Hp s q6 s.en [⟨1,3,a6,(([]++((L.map iv).drop 0).take (b - 0))++[AV.i .i64 z])++((L.map iv).drop b).take (L.length - b),true⟩] [(m,.cells 60 f.cells)]:=H7
       rw [hxs] at H8
       exact H8
     · exact ⟨rfl,rfl⟩
   · have h1:((i:Int) < (f.kids.length:Int))=False:=eq_false (by omega)
     have h2:((L.length:Int) < f.beside)=False:=eq_false (by omega)
     obtain ⟨B,hB⟩:∃ B:Nat,f.beside=(B:Int):=⟨f.beside.toNat,by omega⟩
     obtain ⟨a2,q2,d2,_,hor,⟨fr2,H2⟩,n2⟩:=H.slc 0 (lo:=some (.i .i64 (B:Nat))) (hi:=none) (p:=B) (q:=L.length) rfl (by simp only [CS,AI,List.length_map]; rw [if_pos ⟨by omega,Nat.le_refl _⟩])
     rw [hB] at l5 h2
     have hys:((L.map iv).drop B).take (L.length - B)=(besP f).map iv:=by
      rw [List.take_of_length_le (by simp),← List.map_drop]
      unfold besP
      rw [List.take_of_length_le (by omega)] at hpm
      rw [V2 hpm hsr,hB,Int.toNat_natCast]
     rw [hys] at hor
     obtain ⟨a3,q3,d3,t3,ov⟩:∃ a3 q3,pubA q2 a2=some (a3,q3)∧DD 1 a3 ((besP f).map iv)∧Over s q3:=by
      rcases hor with ht | ⟨rfl,he⟩
      · exact ⟨a2,q2,ht.pubA q2,ht,H2.over⟩
      · obtain ⟨a3,q3,d3,t3,H3,_⟩:=H2.pub 0 rfl
        refine ⟨a3,q3,?_,by rw [he]; exact t3,H3.over⟩
        rw [GV (H2.rows (i:=0) rfl)]
        exact d3
     simp only [go_sem,AE,AA,AC,AB,KB_n,KB_x,Nat.reduceBEq,Nat.reduceAdd,Nat.reduceLT,Nat.reduceLeDiff,Nat.reduceEqDiff,reduceIte,Int.reduceEq,reduceCtorEq,g1,g3,g4,l3,zx,List.length_map,Nat.zero_add,h1,l5,hla,h2,d2,d3]
     exact AU ov (by simp only [Bs,t3.refs (JA _)]) (by simp only [Bs,wkZ,t3.wk (Rp _)])
 · simp only [go_sem,AE,AA,AC,AB,KB_n,KB_x,Nat.reduceBEq,Nat.reduceAdd,Nat.reduceLT,Nat.reduceLeDiff,Nat.reduceEqDiff,reduceIte,Int.reduceEq,reduceCtorEq]
   exact ⟨0,[],.nsl,true,by omega,by simp,by simp,H1.addFull 1 3 true .nil,rfl,rfl⟩
theorem OA (l:List FT) (ho:∀ f∈l,f.Ok) (hl:l.length < 2^34) (hB:(flatK l).length < 2^62) (n:Int) (kind:Nat) (s:St) (hw:Wf s):(lim Ay).call Bl [fx l,.i .i64 n,.i .u8 (kind:Nat)] s=some (tupR (C9 l n kind),s):=by
 refine fn_W Gt rfl rfl ?_
 have hz0:wkZ Al.cin [fx l,.i .i64 n,.i .u8 (kind:Nat)]=[fx l,.i .i64 n,.i .u8 (kind:Nat)]:=by
  simp only [Al,wkZ,fx,wk]
 have hth:∀ u:St,FO u (.ws false 6 (l.map FT.av))=some (.ws false 6 (l.map FT.av),u):=fun _=>rfl
 have hm:=YW (s:=s.enter) ⟨ho,hl,hB⟩ n
 have hno:∀ z:Int,KR s [.sl 6 (.agg [.id,.id,(.sl 1 .id),(.sl 1 .id),.id,.id]),.id] (tupR ([],z)) (some ([.nsl,.i .i64 z],s.enter)):=fun z=>AU (Over.enter s) rfl rfl
 rw [hz0]
 unfold fx at hm
 unfold C9
 by_cases hwr:C2 l n=0
 · obtain ⟨_,i,f,rfl,hf⟩:=Er hwr
   have hil:=(List.getElem?_eq_some_iff.1 hf).1
   have hg2:=Fc hf
   have l0:∀ u,ldA u false 1 (.ep f.cells 0 .shut)=some (.b f.known):=fun u=>rfl
   have hz:((0:Int)≠0)=False:=by simp
   rw [hwr] at hm
   rw [if_pos hwr,Int.toNat_natCast,hf]
   show W _ _ _ _ (KF s _ _ (tupR (if f.known then ([],6) else if 3 < kind then ([],1) else (l.set i ⟨true,kind,[],[],0,0⟩,0))))
   cases hk:f.known
   · rw [hk] at l0
     rw [if_neg (by simp)]
     by_cases k2:3 < kind
     · have e1:((3:Int) < (kind:Int))=True:=eq_true (by omega)
       rw [if_pos k2]
       simp only [Al,go_sem,AE,AA,AC,AB,KB_n,KB_x,Nat.reduceBEq,Nat.reduceAdd,Nat.reduceLT,Nat.reduceLeDiff,Nat.reduceEqDiff,reduceIte,Int.reduceEq,reduceCtorEq,fx,hm,hz,hth,AI,hg2,Bx,l0,e1]
       exact hno _
     · have e1:((3:Int) < (kind:Int))=False:=eq_false (by omega)
       have hwi:=N9 l hl hil ⟨true,kind,[],[],0,0⟩ (YN kind) s.enter hw.enter
       unfold fx at hwi
       rw [if_neg k2]
       simp only [Al,go_sem,AE,AA,AC,AB,KB_n,KB_x,Nat.reduceBEq,Nat.reduceAdd,Nat.reduceLT,Nat.reduceLeDiff,Nat.reduceEqDiff,reduceIte,Int.reduceEq,reduceCtorEq,fx,hm,hz,hth,AI,hg2,Bx,l0,e1,hwi]
       exact KR_F (Over.enter s) _ _
   · rw [hk] at l0
     rw [if_pos rfl]
     simp only [Al,go_sem,AE,AA,AC,AB,KB_n,KB_x,Nat.reduceBEq,Nat.reduceAdd,Nat.reduceLT,Nat.reduceLeDiff,Nat.reduceEqDiff,reduceIte,Int.reduceEq,reduceCtorEq,fx,hm,hz,hth,AI,hg2,Bx,l0]
     exact hno _
 · have e1:(C2 l n≠0)=True:=by simp [hwr]
   rw [if_neg hwr]
   simp only [Al,go_sem,AE,AA,AC,AB,KB_n,KB_x,Nat.reduceBEq,Nat.reduceAdd,Nat.reduceLT,Nat.reduceLeDiff,Nat.reduceEqDiff,reduceIte,Int.reduceEq,reduceCtorEq,fx,hm,e1]
   exact hno _
theorem OB (l:List FT) (ho:∀ f∈l,f.Ok) (hl:l.length < 2^34) (hB:(flatK l).length < 2^62) (n:Int) (s:St) (hw:Wf s):(lim Ay).call Bk [fx l,.i .i64 n] s=some (tupR (ED l n),s):=by
 refine fn_W Gu rfl rfl ?_
 have hz0:wkZ Ar.cin [fx l,.i .i64 n]=[fx l,.i .i64 n]:=by
  simp only [Ar,wkZ,fx,wk]
 have hm:=UM (s:=s.enter) ⟨ho,hl,hB⟩ n
 have hno:∀ z:Int,KR s [.sl 6 (.agg [.id,.id,(.sl 1 .id),(.sl 1 .id),.id,.id]),.id] (tupR ([],z)) (some ([.nsl,.i .i64 z],s.enter)):=fun z=>KR_0 (Over.enter s) z
 rw [hz0]
 unfold fx at hm
 unfold ED
 by_cases hwr:dirE l n=0
 · obtain ⟨_,i,f,rfl,hf,hd⟩:=RN hwr
   have hil:=(List.getElem?_eq_some_iff.1 hf).1
   have hg2:=Fc hf
   have hz:((0:Int)≠0)=False:=by simp
   obtain ⟨q1,d1,H1,n1⟩:=(Hp.begin hw).adp (T:=60) (m:=6) (z:=[.b false,.i .u8 0,.nsl,.nsl,.i .i64 0,.i .i64 0]) (v:=.agg f.cells) rfl ⟨rfl,rfl⟩
   generalize hb:s.enter.nb=b at d1 H1
   have l2:=H1.ld 0 (off:=2) (v:=tx f.names) rfl rfl
   have l4:=H1.ld 0 (off:=4) (v:=.i .i64 f.rest) rfl rfl
   rw [hwr] at hm
   rw [if_pos hwr,Int.toNat_natCast,hf]
   show W _ _ _ _ (KF s _ _ (tupR (if f.rest=1 then ([],6) else (l.set i { f with rest:=2,beside:=(f.names.length:Int) },0))))
   by_cases r1:f.rest=1
   · have e1:(f.rest=1)=True:=by simp [r1]
     rw [if_pos r1]
     simp only [Ar,go_sem,AE,AA,AC,AB,KB_n,KB_x,Nat.reduceBEq,Nat.reduceAdd,Nat.reduceLT,Nat.reduceLeDiff,Nat.reduceEqDiff,reduceIte,Int.reduceEq,reduceCtorEq,fx,hm,hz,AI,hg2,Bx,Ax,AW,d1,hb,Nat.zero_add,l4,e1]
     exact KR_0 H1.over _
   · have e1:(f.rest=1)=False:=by simp [r1]
     obtain ⟨q2,d2,H2,n2,_⟩:=H1.st 0 (off:=4) (v:=.i .i64 2) rfl (by show 4 < 6; omega) ⟨rfl,rfl⟩
     have l2':=H2.ld 0 (off:=2) (v:=tx f.names) rfl rfl
     obtain ⟨q3,d3,H3,n3,_⟩:=H2.st 0 (off:=5) (v:=.i .i64 (f.names.length:Nat)) rfl (by show 5 < 6; omega) ⟨rfl,rfl⟩
     have H4:Hp s q3 s.en [] [(b,.cells 60 (FT.mk f.known f.kind f.names f.kids 2 (f.names.length:Int)).cells)]:=H3
     have lw:=H4.ldw (m:=6) 0 rfl rfl
     have hwi:=N9 l hl hil (FT.mk f.known f.kind f.names f.kids 2 (f.names.length:Int)) (N0 _) q3 H3.wf
     unfold fx at hwi
     rw [if_neg r1]
     simp only [Ar,go_sem,AE,AA,AC,AB,KB_n,KB_x,Nat.reduceBEq,Nat.reduceAdd,Nat.reduceLT,Nat.reduceLeDiff,Nat.reduceEqDiff,reduceIte,Int.reduceEq,reduceCtorEq,fx,hm,hz,AI,hg2,Bx,Ax,AW,d1,hb,Nat.zero_add,l4,e1,d2,l2',List.length_map,d3,lw,hwi]
     exact KR_F H3.over _ _
 · have e1:(dirE l n≠0)=True:=by simp [hwr]
   rw [if_neg hwr]
   simp only [Ar,go_sem,AE,AA,AC,AB,KB_n,KB_x,Nat.reduceBEq,Nat.reduceAdd,Nat.reduceLT,Nat.reduceLeDiff,Nat.reduceEqDiff,reduceIte,Int.reduceEq,reduceCtorEq,fx,hm,e1]
   exact hno _
theorem Mu (l:List FT) (ho:∀ f∈l,f.Ok) (hl:l.length < 2^34) (hB:(flatK l).length < 2^62) (n:Int) (s:St) (hw:Wf s):(lim Ay).call Bd [fx l,.i .i64 n] s=some (tupR (DF l n),s):=by
 refine fn_W GL rfl rfl ?_
 have hz0:wkZ Ad.cin [fx l,.i .i64 n]=[fx l,.i .i64 n]:=by
  simp only [Ad,wkZ,fx,wk]
 have hth:∀ u:St,FO u (.ws false 6 (l.map FT.av))=some (.ws false 6 (l.map FT.av),u):=fun _=>rfl
 have hm:=UM (s:=s.enter) ⟨ho,hl,hB⟩ n
 have hno:∀ z:Int,KR s [.sl 6 (.agg [.id,.id,(.sl 1 .id),(.sl 1 .id),.id,.id]),.id] (tupR ([],z)) (some ([.nsl,.i .i64 z],s.enter)):=fun z=>KR_0 (Over.enter s) z
 rw [hz0]
 unfold fx at hm
 unfold DF
 by_cases hwr:dirE l n=0
 · obtain ⟨hmay,i,f,rfl,hf,hd⟩:=RN hwr
   have hil:=(List.getElem?_eq_some_iff.1 hf).1
   have hfm:=List.mem_of_getElem? hf
   have hg2:=Fc hf
   have hz:((0:Int)≠0)=False:=by simp
   obtain ⟨q1,d1,H1,n1⟩:=(Hp.begin hw).adp (T:=60) (m:=6) (z:=[.b false,.i .u8 0,.nsl,.nsl,.i .i64 0,.i .i64 0]) (v:=.agg f.cells) rfl ⟨rfl,rfl⟩
   generalize hb:s.enter.nb=b at d1 H1
   have l4:=H1.ld 0 (off:=4) (v:=.i .i64 f.rest) rfl rfl
   have lw:=H1.ldw (m:=6) 0 rfl rfl
   rw [hwr] at hm
   rw [if_pos hwr,Int.toNat_natCast,hf]
   show W _ _ _ _ (KF s _ _ (tupR (if f.rest=1 then ([],6) else if f.rest=2∧IS l f=false then ([],67) else (l.set i { f with rest:=1,beside:=0 },0))))
   by_cases r1:f.rest=1
   · have e1:(f.rest=1)=True:=by simp [r1]
     rw [if_pos r1]
     simp only [Ad,go_sem,AE,AA,AC,AB,KB_n,KB_x,Nat.reduceBEq,Nat.reduceAdd,Nat.reduceLT,Nat.reduceLeDiff,Nat.reduceEqDiff,reduceIte,Int.reduceEq,reduceCtorEq,fx,hm,hz,AI,hg2,Bx,Ax,AW,d1,hb,Nat.zero_add,l4,e1]
     exact KR_0 H1.over _
   · have e1 : (f.rest=1)=False:=by simp [r1]
     rw [if_neg r1]
     obtain ⟨q2,d2,H2,n2,_⟩:=H1.st 0 (off:=4) (v:=.i .i64 1) rfl (by show 4 < 6; omega) ⟨rfl,rfl⟩
     obtain ⟨q3,d3,H3,n3,_⟩:=H2.st 0 (off:=5) (v:=.i .i64 0) rfl (by show 5 < 6; omega) ⟨rfl,rfl⟩
     have H4:Hp s q3 s.en [] [(b,.cells 60 (FT.mk f.known f.kind f.names f.kids 1 0).cells)]:=H3
     have lw4:=H4.ldw (m:=6) 0 rfl rfl
     have hwi:=N9 l hl hil (FT.mk f.known f.kind f.names f.kids 1 0) (N0 _) q3 H3.wf
     unfold fx at hwi
     by_cases r2:f.rest=2
     · have e2 : (f.rest=2)=True:=by simp [r2]
       obtain ⟨b0,b1⟩:=RO (QO hmay hfm) hd r2
       have hbes:=Yg f (ho f hfm) b0 b1 q1 H1.wf
       have hbl:(besP f).length < 2^40:=by
        have h1:=(ho f hfm).klen
        unfold besP
        rw [List.length_drop,Hb]
        omega
       simp only [Ad,go_sem,AE,AA,AC,AB,KB_n,KB_x,Nat.reduceBEq,Nat.reduceAdd,Nat.reduceLT,Nat.reduceLeDiff,Nat.reduceEqDiff,reduceIte,Int.reduceEq,reduceCtorEq,fx,hm,hz,AI,hg2,Bx,Ax,AW,d1,hb,Nat.zero_add,l4,e1,e2,lw,hbes]
       refine CH (fun x e q=>∃ c:Nat,c+x=(besP f).length∧q=q1∧e.get 0=fx l∧e.get 1=.i .i64 (i:Nat)∧e.get 7=.p b 0∧e.get 8=.b (((besP f).take c).any (F0 l))∧e.get 9=zx (besP f)∧e.get 10=.i .i64 (c:Nat)) ?_ (besP f).length _ _ ?_
       · rintro x e q ⟨c,hcx,rfl,g0,g1,g7,g8,g9,g10⟩
         by_cases hc:c < (besP f).length
         · have c1:((c:Int) < ((besP f).length:Int))=True:=eq_true (by omega)
           obtain ⟨k,hk⟩:∃ k,(besP f)[c]? = some k:=⟨_,List.getElem?_eq_getElem hc⟩
           have hk2:=JY hk
           have hw1:=A9 (show c+1 < 2^63 by omega)
           obtain ⟨j,g,rfl,hg⟩:=T9 hmay hf (T8 (List.mem_of_getElem? hk))
           have hg3:=Fc hg
           have l0:∀ u,ldA u false 1 (.ep g.cells 0 .shut)=some (.b g.known):=fun u=>rfl
           have l1:∀ u,ldA u false 1 (.ep g.cells 1 .shut)=some (.i .u8 (g.kind:Nat)):=fun u=>rfl
           have hat:=V4 (P:=F0 l) hk
           have hit:F0 l (j:Int)=(g.known&&decide (g.kind≠0)):=by
            unfold F0
            rw [Int.toNat_natCast,hg]
           rw [hit] at hat
           have hkk:((g.kind:Int)≠0)=(g.kind≠0):=by simp
           cases ht:((besP f).take c).any (F0 l)
           · rw [ht] at g8 hat
             rw [Bool.false_or] at hat
             cases hkn:g.known
             · rw [hkn] at l0 hat
               simp only [go_sem,AE,AA,AC,AB,KB_n,KB_x,Nat.reduceBEq,Nat.reduceAdd,Nat.reduceLT,Nat.reduceLeDiff,Nat.reduceEqDiff,reduceIte,Int.reduceEq,reduceCtorEq,g0,g1,g7,g8,g9,g10,fx,zx,List.length_map,c1,hth,AI,hk2,CK,Dy,hg3,Bx,l0,l1,hw1,hkk]
               exact ⟨x - 1,by omega,c+1,by omega,by rw [hat,Bool.false_and],rfl⟩
             · rw [hkn] at l0 hat
               simp only [go_sem,AE,AA,AC,AB,KB_n,KB_x,Nat.reduceBEq,Nat.reduceAdd,Nat.reduceLT,Nat.reduceLeDiff,Nat.reduceEqDiff,reduceIte,Int.reduceEq,reduceCtorEq,g0,g1,g7,g8,g9,g10,fx,zx,List.length_map,c1,hth,AI,hk2,CK,Dy,hg3,Bx,l0,l1,hw1,hkk]
               exact ⟨x - 1,by omega,c+1,by omega,by rw [hat,Bool.true_and],rfl⟩
           · rw [ht] at g8 hat
             simp only [go_sem,AE,AA,AC,AB,KB_n,KB_x,Nat.reduceBEq,Nat.reduceAdd,Nat.reduceLT,Nat.reduceLeDiff,Nat.reduceEqDiff,reduceIte,Int.reduceEq,reduceCtorEq,g0,g1,g7,g8,g9,g10,fx,zx,List.length_map,c1,hth,AI,hk2,CK,Dy,hg3,Bx,l0,l1,hw1,hkk]
             exact ⟨x - 1,by omega,c+1,by omega,by rw [hat,Bool.true_or],rfl⟩
         · have c1:((c:Int) < ((besP f).length:Int))=False:=eq_false (by omega)
           rw [List.take_of_length_le (by omega),← UA] at g8
           cases ht:IS l f
           · rw [ht] at g8
             rw [if_pos rfl]
             simp only [go_sem,AE,AA,AC,AB,KB_n,KB_x,Nat.reduceBEq,Nat.reduceAdd,Nat.reduceLT,Nat.reduceLeDiff,Nat.reduceEqDiff,reduceIte,Int.reduceEq,reduceCtorEq,g0,g1,g7,g8,g9,g10,fx,zx,List.length_map,c1]
             exact KR_0 H1.over _
           · rw [ht] at g8
             rw [if_neg (by simp)]
             simp only [go_sem,AE,AA,AC,AB,KB_n,KB_x,Nat.reduceBEq,Nat.reduceAdd,Nat.reduceLT,Nat.reduceLeDiff,Nat.reduceEqDiff,reduceIte,Int.reduceEq,reduceCtorEq,g0,g1,g7,g8,g9,g10,fx,zx,List.length_map,c1,Nat.zero_add,d2,d3,lw4,AW,hwi]
             exact KR_F H3.over _ _
       · simp only [go_sem,AE,AA,AC,AB,KB_n,KB_x,Nat.reduceBEq,Nat.reduceAdd,Nat.reduceLT,Nat.reduceLeDiff,Nat.reduceEqDiff,reduceIte,Int.reduceEq,reduceCtorEq]
         exact ⟨0,by omega,rfl,rfl,rfl⟩
     · have e2:(f.rest=2)=False:=by simp [r2]
       rw [if_neg (fun h=>r2 h.1)]
       simp only [Ad,go_sem,AE,AA,AC,AB,KB_n,KB_x,Nat.reduceBEq,Nat.reduceAdd,Nat.reduceLT,Nat.reduceLeDiff,Nat.reduceEqDiff,reduceIte,Int.reduceEq,reduceCtorEq,fx,hm,hz,AI,hg2,Bx,Ax,AW,d1,hb,Nat.zero_add,l4,e1,e2,d2,d3,lw4,hwi]
       exact KR_F H3.over _ _
 · have e1:(dirE l n≠0)=True:=by simp [hwr]
   rw [if_neg hwr]
   simp only [Ad,go_sem,AE,AA,AC,AB,KB_n,KB_x,Nat.reduceBEq,Nat.reduceAdd,Nat.reduceLT,Nat.reduceLeDiff,Nat.reduceEqDiff,reduceIte,Int.reduceEq,reduceCtorEq,fx,hm,e1]
   exact hno _
theorem NJ {l:List FT} (ho:∀ f∈l,f.Ok) (hl:l.length < 2^34) (hB:(flatK l).length < 2^62) {n:Int} {links:Bool} {s q:St} {m:Nat} {empty:Bool}
    (H:Hp s q s.en [] [(m,.cells 32 [.i .i64 n,.b empty])]) {e:Tr} {Q:Ex→Tr→St→Prop}
    (h0:e.get 0=fx l) (h4:e.get 4=.p m 0) (h8:e.get 8=.nsl) (h12:e.get 12=.i .u8 (mostK links:Nat)) (h13:e.get 13=.i .u8 0)
    (k0:(C9 l n 0).2≠0→∀ e' q',e'.get 6=.nsl→e'.get 7=.i .i64 (C9 l n 0).2→Over s q'→Q .r e' q')
    (k1:(C9 l n 0).2=0→∀ e' q' a,e'.get 8=a→Hp s q' s.en [⟨1,22,a,((List.range (mostK links+1)).map fun k=>(C9 l n k).1).map fx,true⟩] [(m,.cells 32 [.i .i64 n,.b empty])]→Q (.x 0) e' q') :
    W (lim Ay) (subC AO.body [1,1,1,1,1,0,1,0]) e q Q:=by
 have hmk:mostK links≤3:=by unfold mostK; split<;>omega
 simp only [AO,subC,go_sem,AE,AA,AC,AB,KB_n,KB_x,Nat.reduceBEq,Nat.reduceAdd,Nat.reduceLT,Nat.reduceLeDiff,Nat.reduceEqDiff,reduceIte,Int.reduceEq,reduceCtorEq]
 refine CH (fun x e q=>∃ (k:Nat) (a:AV),k+x=mostK links+1∧Hp s q s.en [⟨1,22,a,((List.range k).map fun k=>(C9 l n k).1).map fx,true⟩] [(m,.cells 32 [.i .i64 n,.b empty])]∧(0 < k→(C9 l n 0).2=0)∧e.get 0=fx l∧e.get 4=.p m 0∧e.get 8=a∧e.get 12=.i .u8 (mostK links:Nat)∧e.get 13=.i .u8 (k:Nat)) ?_ (mostK links+1) _ _ ?_
 · clear h0 h4 h8 h12 h13 H
   rintro x e q ⟨k,a,hkx,H,hke,g0,g4,g8,g12,g13⟩
   have l0:=H.ld 0 (off:=0) (v:=.i .i64 n) rfl rfl
   by_cases hk:k≤mostK links
   · have e1:((k:Int)≤(mostK links:Int))=True:=eq_true (by omega)
     have hkn:=OA l ho hl hB n k q H.wf
     have hee:=Wn l n k (by omega)
     unfold fx at hkn
     simp only [tupR,fx] at hkn
     have hw1:=UB (show k≤3 by omega)
     by_cases hz:(C9 l n 0).2=0
     · have e2:((C9 l n k).2≠0)=False:=by simp [hee,hz]
       obtain ⟨a2,q2,d2,H2,n2,_⟩:=H.app 0 (y:=.sl 1 [.ws false 6 ((C9 l n k).1.map FT.av)] .full) (ys:=[fx (C9 l n k).1]) rfl (Ja _ _) (by simp; omega)
       have hal:=IG (C9 l n k).1
       simp only [go_sem,AE,AA,AC,AB,KB_n,KB_x,Nat.reduceBEq,Nat.reduceAdd,Nat.reduceLT,Nat.reduceLeDiff,Nat.reduceEqDiff,reduceIte,Int.reduceEq,reduceCtorEq,g0,g4,g8,g12,g13,fx,l0,e1,hkn,e2,hal,d2,hw1,Nat.zero_add]
       refine ⟨x - 1,by omega,k+1,a2,by omega,?_,fun _=>hz,?_⟩
       · have hxs:((List.range k).map fun k=>(C9 l n k).1).map fx++[fx (C9 l n k).1]=((List.range (k+1)).map fun k=>(C9 l n k).1).map fx:=by
          rw [List.range_succ,List.map_append,List.map_append]; rfl
         have H3:Hp s q2 s.en [⟨1,22,a2,((List.range k).map fun k=>(C9 l n k).1).map fx++[fx (C9 l n k).1],true⟩] [(m,.cells 32 [.i .i64 n,.b empty])]:=H2
         rw [hxs] at H3
         exact H3
       · exact ⟨rfl,rfl⟩
     · have e2:((C9 l n k).2≠0)=True:=by rw [hee]; simp [hz]
       simp only [go_sem,AE,AA,AC,AB,KB_n,KB_x,Nat.reduceBEq,Nat.reduceAdd,Nat.reduceLT,Nat.reduceLeDiff,Nat.reduceEqDiff,reduceIte,Int.reduceEq,reduceCtorEq,g0,g4,g8,g12,g13,fx,l0,e1,hkn,e2,Nat.zero_add]
       refine k0 hz _ _ ?_ ?_ H.over<;>simp only [go_sem,AE,AA,AC,AB,KB_n,KB_x,Nat.reduceBEq,Nat.reduceAdd,Nat.reduceLT,Nat.reduceLeDiff,Nat.reduceEqDiff,reduceIte,Int.reduceEq,reduceCtorEq,hee]
   · have e1:((k:Int)≤(mostK links:Int))=False:=eq_false (by omega)
     obtain rfl:k=mostK links+1:=by omega
     simp only [go_sem,AE,AA,AC,AB,KB_n,KB_x,Nat.reduceBEq,Nat.reduceAdd,Nat.reduceLT,Nat.reduceLeDiff,Nat.reduceEqDiff,reduceIte,Int.reduceEq,reduceCtorEq,g0,g4,g8,g12,g13,e1]
     refine k1 (hke (by omega)) _ _ a ?_ H
     simp only [go_sem,AE,AA,AC,AB,KB_n,KB_x,Nat.reduceBEq,Nat.reduceAdd,Nat.reduceLT,Nat.reduceLeDiff,Nat.reduceEqDiff,reduceIte,Int.reduceEq,reduceCtorEq,g8]
 · exact ⟨0,.nsl,by omega,H.addFull 1 22 true .nil,fun h=>absurd h (by omega),h0,h4,h8,h12,h13⟩
theorem OC (l:List FT) (ho:∀ f∈l,f.Ok) (hl:l.length < 2^34) (hB:(flatK l).length < 2^62) (n:Int) (empty links:Bool) {a0:AV} (ha0:DD 6 a0 (l.map FT.av)) (s:St) (hw:Wf s):(lim Ay).call Bj [a0,.agg [.i .i64 n,.b empty],.b links] s=some (tupW (waysP l n empty links),s):=by
 refine fn_W Gs rfl rfl ?_
 have hz0:wkZ AO.cin [a0,.agg [.i .i64 n,.b empty],.b links]=[fx l,.agg [.i .i64 n,.b empty],.b links]:=by
  simp only [AO,wkZ,YP ha0,wk]
 rw [hz0]
 have H1:=(Hp.begin hw).new (.cells 32 [.i .i64 n,.b empty])
 generalize hq:s.enter.new (.cells 32 [.i .i64 n,.b empty])=q at H1
 generalize hm:s.enter.nb=m at H1
 have l0:=H1.ld 0 (off:=0) (v:=.i .i64 n) rfl rfl
 have l1:=H1.ld 0 (off:=1) (v:=.b empty) rfl rfl
 unfold waysP
 cases empty
 · rw [if_neg (by simp)]
   cases links
   · simp only [AO,go_sem,AE,AA,AC,AB,KB_n,KB_x,Nat.reduceBEq,Nat.reduceAdd,Nat.reduceLT,Nat.reduceLeDiff,Nat.reduceEqDiff,reduceIte,Int.reduceEq,reduceCtorEq,hq,hm,l0,l1,Nat.zero_add]
     refine NJ (links:=false) ho hl hB H1 ?_ ?_ ?_ ?_ ?_ ?_ ?_
     · simp only [go_sem,AE,AA,AC,AB,KB_n,KB_x,Nat.reduceBEq,Nat.reduceAdd,Nat.reduceLT,Nat.reduceLeDiff,Nat.reduceEqDiff,reduceIte,Int.reduceEq,reduceCtorEq,fx]
     · simp only [go_sem,AE,AA,AC,AB,KB_n,KB_x,Nat.reduceBEq,Nat.reduceAdd,Nat.reduceLT,Nat.reduceLeDiff,Nat.reduceEqDiff,reduceIte,Int.reduceEq,reduceCtorEq]
     · simp only [go_sem,AE,AA,AC,AB,KB_n,KB_x,Nat.reduceBEq,Nat.reduceAdd,Nat.reduceLT,Nat.reduceLeDiff,Nat.reduceEqDiff,reduceIte,Int.reduceEq,reduceCtorEq]
     · simp only [go_sem,AE,AA,AC,AB,KB_n,KB_x,Nat.reduceBEq,Nat.reduceAdd,Nat.reduceLT,Nat.reduceLeDiff,Nat.reduceEqDiff,reduceIte,Int.reduceEq,reduceCtorEq,mostK]; rfl
     · simp only [go_sem,AE,AA,AC,AB,KB_n,KB_x,Nat.reduceBEq,Nat.reduceAdd,Nat.reduceLT,Nat.reduceLeDiff,Nat.reduceEqDiff,reduceIte,Int.reduceEq,reduceCtorEq]
     · intro hz e q' g6 g7 ov
       rw [if_neg hz]
       simp only [go_sem,AE,AA,AC,AB,KB_n,KB_x,Nat.reduceBEq,Nat.reduceAdd,Nat.reduceLT,Nat.reduceLeDiff,Nat.reduceEqDiff,reduceIte,Int.reduceEq,reduceCtorEq,g6,g7]
       exact YO ov _
     · intro hz e q' a g8 H
       rw [if_pos hz]
       obtain ⟨a3,q3,d3,t3,H3,_⟩:=H.pub 0 rfl
       have d4:pubA q' a=some (a3,q3):=by
        rw [GV (H.rows (i:=0) rfl)]; exact d3
       simp only [go_sem,AE,AA,AC,AB,KB_n,KB_x,Nat.reduceBEq,Nat.reduceAdd,Nat.reduceLT,Nat.reduceLeDiff,Nat.reduceEqDiff,reduceIte,Int.reduceEq,reduceCtorEq,g8,d4]
       exact KR_W H3.over _ _ t3
   · simp only [AO,go_sem,AE,AA,AC,AB,KB_n,KB_x,Nat.reduceBEq,Nat.reduceAdd,Nat.reduceLT,Nat.reduceLeDiff,Nat.reduceEqDiff,reduceIte,Int.reduceEq,reduceCtorEq,hq,hm,l0,l1,Nat.zero_add]
     refine NJ (links:=true) ho hl hB H1 ?_ ?_ ?_ ?_ ?_ ?_ ?_
     · simp only [go_sem,AE,AA,AC,AB,KB_n,KB_x,Nat.reduceBEq,Nat.reduceAdd,Nat.reduceLT,Nat.reduceLeDiff,Nat.reduceEqDiff,reduceIte,Int.reduceEq,reduceCtorEq,fx]
     · simp only [go_sem,AE,AA,AC,AB,KB_n,KB_x,Nat.reduceBEq,Nat.reduceAdd,Nat.reduceLT,Nat.reduceLeDiff,Nat.reduceEqDiff,reduceIte,Int.reduceEq,reduceCtorEq]
     · simp only [go_sem,AE,AA,AC,AB,KB_n,KB_x,Nat.reduceBEq,Nat.reduceAdd,Nat.reduceLT,Nat.reduceLeDiff,Nat.reduceEqDiff,reduceIte,Int.reduceEq,reduceCtorEq]
     · simp only [go_sem,AE,AA,AC,AB,KB_n,KB_x,Nat.reduceBEq,Nat.reduceAdd,Nat.reduceLT,Nat.reduceLeDiff,Nat.reduceEqDiff,reduceIte,Int.reduceEq,reduceCtorEq,mostK]; rfl
     · simp only [go_sem,AE,AA,AC,AB,KB_n,KB_x,Nat.reduceBEq,Nat.reduceAdd,Nat.reduceLT,Nat.reduceLeDiff,Nat.reduceEqDiff,reduceIte,Int.reduceEq,reduceCtorEq]
     · intro hz e q' g6 g7 ov
       rw [if_neg hz]
       simp only [go_sem,AE,AA,AC,AB,KB_n,KB_x,Nat.reduceBEq,Nat.reduceAdd,Nat.reduceLT,Nat.reduceLeDiff,Nat.reduceEqDiff,reduceIte,Int.reduceEq,reduceCtorEq,g6,g7]
       exact YO ov _
     · intro hz e q' a g8 H
       rw [if_pos hz]
       obtain ⟨a3,q3,d3,t3,H3,_⟩:=H.pub 0 rfl
       have d4:pubA q' a=some (a3,q3):=by
        rw [GV (H.rows (i:=0) rfl)]; exact d3
       simp only [go_sem,AE,AA,AC,AB,KB_n,KB_x,Nat.reduceBEq,Nat.reduceAdd,Nat.reduceLT,Nat.reduceLeDiff,Nat.reduceEqDiff,reduceIte,Int.reduceEq,reduceCtorEq,g8,d4]
       exact KR_W H3.over _ _ t3
 · rw [if_pos rfl]
   have hmo:=OB l ho hl hB n q H1.wf
   have hwo:=Mu l ho hl hB n q H1.wf
   simp only [tupR,fx] at hmo hwo
   by_cases hz:(ED l n).2=0
   · have e1:((ED l n).2≠0)=False:=by simp [hz]
     rw [if_pos hz]
     by_cases hz2:(DF l n).2=0
     · have e2:((DF l n).2=0)=True:=by simp [hz2]
       rw [if_pos hz2]
       obtain ⟨a2,q2,d2,H2,n2,_⟩:=H1.appN (es:=1) 22 (a:=.nsl) (xs:=[]) .nil (Ja q (DF l n).1) (by simp)
       obtain ⟨a3,q3,d3,H3,n3,_⟩:=H2.app 0 (y:=.sl 1 [.ws false 6 ((ED l n).1.map FT.av)] .full) (ys:=[fx (ED l n).1]) rfl (Ja _ _) (by simp)
       obtain ⟨a4,q4,d4,t4,H4,_⟩:=H3.pub 0 rfl
       have d5:pubA q3 a3=some (a4,q4):=by
        rw [GV (H3.rows (i:=0) rfl)]; exact d4
       have hal:=IG (ED l n).1
       have hal2:=IG (DF l n).1
       simp only [AO,go_sem,AE,AA,AC,AB,KB_n,KB_x,Nat.reduceBEq,Nat.reduceAdd,Nat.reduceLT,Nat.reduceLeDiff,Nat.reduceEqDiff,reduceIte,Int.reduceEq,reduceCtorEq,hq,hm,l0,l1,Nat.zero_add,fx,hmo,hwo,e1,e2,hal,hal2,d2,d3,d5]
       exact KR_W H4.over [(DF l n).1,(ED l n).1] 0 t4
     · have e2:((DF l n).2=0)=False:=by simp [hz2]
       rw [if_neg hz2]
       obtain ⟨a3,q3,d3,H3,n3,_⟩:=H1.appN (es:=1) 22 (a:=.nsl) (xs:=[]) .nil (Ja q (ED l n).1) (by simp)
       obtain ⟨a4,q4,d4,t4,H4,_⟩:=H3.pub 0 rfl
       have d5:pubA q3 a3=some (a4,q4):=by
        rw [GV (H3.rows (i:=0) rfl)]; exact d4
       have hal:=IG (ED l n).1
       simp only [AO,go_sem,AE,AA,AC,AB,KB_n,KB_x,Nat.reduceBEq,Nat.reduceAdd,Nat.reduceLT,Nat.reduceLeDiff,Nat.reduceEqDiff,reduceIte,Int.reduceEq,reduceCtorEq,hq,hm,l0,l1,Nat.zero_add,fx,hmo,hwo,e1,e2,hal,d3,d5]
       exact KR_W H4.over [(ED l n).1] 0 t4
   · have e1:((ED l n).2≠0)=True:=by simp [hz]
     rw [if_neg hz]
     simp only [AO,go_sem,AE,AA,AC,AB,KB_n,KB_x,Nat.reduceBEq,Nat.reduceAdd,Nat.reduceLT,Nat.reduceLeDiff,Nat.reduceEqDiff,reduceIte,Int.reduceEq,reduceCtorEq,hq,hm,l0,l1,Nat.zero_add,fx,hmo,e1]
     exact YO H1.over _
end Go.Proofs.Ytgloinighjdhlaa

namespace Go.Proofs.Ytgloinighjdhlaa
open Go.Proofs.Ytgloinighjdhlaa.Am
def RowA (a:AV) (W:List Way):Prop:=(W=[]∧a=.nsl)∨∃ k v,a=.sl 1 (W.map wayV) (.tok k v)
theorem RowA.len {a:AV} {W:List Way} (h:RowA a W) (q:St):lenA q 1 a=some (.i .i64 (W.length:Nat)):=by
 rcases h with ⟨rfl,rfl⟩ | ⟨k,v,rfl⟩
 · rfl
 · simp [lenA]
theorem RowA.at {a:AV} {W:List Way} (h:RowA a W) {i:Nat} {w:Way} (hw:W[i]? = some w):∃ k v,a=.sl 1 (W.map wayV) (.tok k v):=by
 rcases h with ⟨rfl,rfl⟩ | h
 · simp at hw
 · exact h
theorem Yd {W:List Way} {i:Nat} {w:Way} (h:W[i]? = some w):(W.map wayV)[i]? = some (.bl w.1 6 0 w.2.length (w.2.length*6,false)):=by
 rw [List.getElem?_map,h]; rfl
theorem way_ld {s q:St} {n:En} {T k v id m p:Nat} {xs:List AV} {fr x:Bool} {R:List RA} {B:List (Nat×Box)} (H:Hp s q n (⟨1,T,.sl 1 xs (.tok k v),xs,fr⟩::R) B) :
    ldA q false 1 (.ep (AV.bl id 6 0 m (p,x)).cells 0 (.tok k v))=some (.bl id 6 0 m (p,x)):=by
 have hr:=H.rows (i:=0) rfl
 have hok:q.ok (.tok k v)=true:=by
  rcases hr with hh | ⟨k',v',t,hh,_,_,h3,h4,_⟩
  · have:=EI hh; simp [Av] at this
  · simp only [AV.sl.injEq,Cap.tok.injEq,true_and] at hh
    obtain ⟨rfl,rfl⟩:=hh
    simp only [St.ok,h3,h4,Nat.beq_refl]
 unfold ldA
 simp only [hok,if_true]
 rfl
section
variable {s q:St} {W:List Way}
theorem focW {R:List RA} {B:List (Nat×Box)} {m:En} (H:Hp s q m R (wayB W++B)) {i:Nat} {w:Way} (hi:W[i]? = some w):Hp s q m R (EE (w.1,w.2)++(wayB (W.eraseIdx i)++B)):=by
 refine H.perm (.refl _) ?_
 rw [← List.append_assoc]
 exact (WB (φ:=EE) hi).append_right _
theorem unfocW {R:List RA} {B:List (Nat×Box)} {m:En} {i:Nat} {w w':Way} (hi:W[i]? = some w) (H:Hp s q m R (EE w'++(wayB (W.eraseIdx i)++B))):Hp s q m R (wayB (W.set i w')++B):=by
 refine H.perm (.refl _) ?_
 rw [← List.append_assoc]
 exact (UN (φ:=EE) hi).symm.append_right _
structure WOk (P:List (List FT)) (W:List Way):Prop where
 kb:∀ w∈W,KBk w.2
 fs:W.map wayF=P
 fok:∀ f∈P,FOk f
 len:W.length≤4
theorem WOk.mem {P:List (List FT)} (h:WOk P W) {w:Way} (hw:w∈W):FOk (wayF w):=by
 have:wayF w∈P:=by rw [← h.fs]; exact List.mem_map_of_mem hw
 exact h.fok _ this
theorem WOk.sk {P:List (List FT)} (h:WOk P W) {w:Way} (hw:w∈W):SK w.2.length w.2∧w.2.length < 2^34:=by
 have hf:=h.mem hw
 refine ⟨⟨rfl,h.kb w hw,fun p hp=>?_⟩,?_⟩
 · have:=hf.ok p.f (List.mem_map_of_mem hp)
   exact ⟨this.nlen,this.klen⟩
 · have:=hf.len
   simpa [wayF] using this
theorem WOk.at {P:List (List FT)} (h:WOk P W) {i:Nat} {w:Way} (hw:W[i]? = some w):P[i]? = some (wayF w):=by
 rw [← h.fs,List.getElem?_map,hw]; rfl
end
theorem Ye (l:List FT) (ho:FOk l) (n:Int) (em links:Bool) {s0 s:St} {m:En} (H:Hp s0 s m [] []) :
    ∃ a W s',(lim Ay).call C3 [fx l,.agg [.i .i64 n,.b em],.b links] s=some (.tup [a,.i .i64 (waysP l n em links).2],s')∧RowA a W∧WOk (waysP l n em links).1 W∧Hp s0 s' m [⟨1,22,a,W.map wayV,true⟩] (wayB W++[]):=by
 obtain ⟨r,s',hc,h⟩:=ways_K l ho n em links H
 rcases h with ⟨hne,rfl,H2⟩ | ⟨he,a,W,rfl,H2,hkb,hfs,hsh⟩
 · have hnil:(waysP l n em links).1=[]:=by
    unfold waysP at hne ⊢
    cases em with
    | true =>
      rw [if_pos rfl] at hne ⊢
      by_cases h1:(ED l n).2=0
      · rw [if_pos h1] at hne
        split at hne<;>exact absurd rfl hne
      · rw [if_neg h1]
    | false =>
      rw [if_neg (by simp)] at hne ⊢
      by_cases h1:(C9 l n 0).2=0
      · rw [if_pos h1] at hne
        exact absurd rfl hne
      · rw [if_neg h1]
   refine ⟨.nsl,[],s',hc,.inl ⟨rfl,rfl⟩,?_,H2.addFull 1 22 true .nil⟩
   rw [hnil]
   exact ⟨fun w hw=>by simp at hw,rfl,fun f hf=>by simp at hf,by simp⟩
 · rw [he]
   refine ⟨a,W,s',hc,hsh,⟨hkb,hfs,ho.ways n em links,?_⟩,H2⟩
   have:=V5 l n em links
   rw [← hfs,List.length_map] at this
   exact this
end Go.Proofs.Ytgloinighjdhlaa

namespace Go.Proofs.Ytgloinighjdhlaa
open Go.Proofs.Ytgloinighjdhlaa.Am
attribute [local irreducible] W WO WE WQ WD Tr.get Tr.set
theorem fx_at {P:List (List FT)} {i:Nat} {l:List FT} (h:P[i]? = some l):(P.map fx)[i]? = some (.ws false 6 (l.map FT.av)):=by
 rw [List.getElem?_map,h]; rfl
theorem fx_ld (q:St) (L:List AV):ldA q false 1 (.ep [AV.ws false 6 L] 0 .shut)=some (.ws false 6 L):=rfl
theorem QU (l : List FT) (n:Int) (em links:Bool) (ho:FOk l) (s:St) (hw:Wf s) :
    (lim Ay).call Bg [fx l,.i .i64 n,.b em,.b links] s=some (.b true,s):=by
 refine fn_W Fd rfl rfl ?_
 have hz0:wkZ Aj.cin [fx l,.i .i64 n,.b em,.b links]=[fx l,.i .i64 n,.b em,.b links]:=by
  simp only [Aj,wkZ,N2,wk]
 rw [hz0]
 have hlo:=d_long (s:=s.enter) ho
 have haw:=fun q=>YV q
 unfold fx at hlo
 cases hL:N4 l with
 | true =>
   rw [hL] at hlo
   simp only [Aj,go_sem,AE,AA,AC,AB,KB_n,KB_x,Nat.reduceBEq,Nat.reduceAdd,Nat.reduceLT,Nat.reduceLeDiff,Nat.reduceEqDiff,reduceIte,Int.reduceEq,reduceCtorEq,fx,hlo,haw]
   exact AU (Over.enter s) rfl rfl
 | false =>
   rw [hL] at hlo
   simp only [Aj,go_sem,AE,AA,AC,AB,KB_n,KB_x,Nat.reduceBEq,Nat.reduceAdd,Nat.reduceLT,Nat.reduceLeDiff,Nat.reduceEqDiff,reduceIte,Int.reduceEq,reduceCtorEq,fx,hlo]
   refine CH (fun x e q=>∃ i:Nat,i+x=2∧Hp s q s.en [] []∧e.get 0=fx l∧e.get 1=.i .i64 n∧e.get 2=.b em∧e.get 3=.b links∧e.get 9=.i .i64 (i:Nat)) ?_ 2 _ _ ?_
   · rintro x e q ⟨i,hix,H,g0,g1,g2,g3,g9⟩
     by_cases hi:i < 2
     · have e1:((i:Int) < 2)=True:=eq_true (by omega)
       obtain ⟨a,W,q2,hwc,hA,hW,H2⟩:=Ye l ho n em links H
       have hrw:=OC l ho.ok ho.len ho.fl n em links (a0:=fx l) .ws q2 H2.wf
       have hal:=fun q=>hA.len q
       have hPl:(waysP l n em links).1.length=W.length:=by rw [← hW.fs,List.length_map]
       have hn1:=A9 (show i+1 < 2^63 by omega)
       have hlen:=hW.len
       unfold tupW wx at hrw
       generalize hP:waysP l n em links=P at *
       obtain ⟨P1,pe⟩:=P
       simp only at hwc hW hrw hPl
       have e2:(pe≠pe)=False:=by simp
       have e3:((W.length:Int)≠(W.length:Int))=False:=by simp
       unfold fx at hwc hrw g0
       simp only [go_sem,AE,AA,AC,AB,KB_n,KB_x,Nat.reduceBEq,Nat.reduceAdd,Nat.reduceLT,Nat.reduceLeDiff,Nat.reduceEqDiff,reduceIte,Int.reduceEq,reduceCtorEq,g0,g1,g2,g3,g9,e1,hwc,hrw,hal,List.length_map,hPl,e2,e3]
       refine CH (fun y e q=>∃ (j:Nat) (W':List Way),j+y=W.length∧Hp s q s.en [⟨1,22,a,W.map wayV,true⟩] (wayB W'++[])∧W'.map wayV=W.map wayV∧(∀ k,j≤k→W'[k]? = W[k]?)∧e.get 0=fx l∧e.get 1=.i .i64 n∧e.get 2=.b em∧e.get 3=.b links∧e.get 9=.i .i64 (i:Nat)∧e.get 10=a∧e.get 12=.ws false 1 (P1.map fx)∧e.get 14=.i .i64 (j:Nat)) ?_ W.length _ _ ?_
       · clear g0 g1 g2 g3 g9 hwc hrw H2 H
         rintro y e q ⟨j,W1,hjy,H,hm,hrest,g0,g1,g2,g3,g9,g10,g12,g14⟩
         by_cases hj:j < W.length
         · have e4:((j:Int) < (W.length:Int))=True:=eq_true (by omega)
           obtain ⟨w,hw⟩:∃ w,W[j]? = some w:=⟨_,List.getElem?_eq_getElem hj⟩
           have hw1:=(hrest j (Nat.le_refl _)).trans hw
           obtain ⟨k,v,rfl⟩:=hA.at hw
           have hwm:=List.mem_of_getElem? hw
           have hgi:=Yd hw
           have hgp:=fx_at (hW.at hw)
           have hn2:=A9 (show j+1 < 2^63 by omega)
           have la:=way_ld (id:=w.1) (m:=w.2.length) (p:=w.2.length*6) (x:=false) H
           have lf:=fx_ld q ((wayF w).map FT.av)
           have hfd:=SG (focW H hw1) (hW.kb w hwm) (w.2.length*6,false)
           have hsm:=d_same hfd (hW.mem hwm)
           unfold fx at hsm
           obtain ⟨hsk,hN⟩:=hW.sk hwm
           obtain ⟨q3,hsp,K',H3,hS3⟩:=WP (focW H hw1) hsk hN
           have H4:=unfocW hw1 H3
           have hm2:(W1.set j (w.1,K')).map wayV=W.map wayV:=by
            rw [← hm]
            refine List.ext_getElem? fun j'=>?_
            rw [List.getElem?_map,List.getElem?_map,List.getElem?_set]
            split
            · rename_i hij
              subst hij
              split
              · rw [hw1]
                show some (AV.bl w.1 6 0 K'.length (K'.length*6,false))=some (AV.bl w.1 6 0 w.2.length (w.2.length*6,false))
                rw [hS3.1]
              · rename_i hh
                exact absurd (List.getElem?_eq_some_iff.1 hw1).1 hh
            · rfl
           have hr2:∀ j',j+1≤j'→(W1.set j (w.1,K'))[j']? = W[j']? := fun j' hj'=>by
            rw [List.getElem?_set_ne (by omega)]
            exact hrest j' (by omega)
           have hwf:wayF w=w.2.map KQ.f:=rfl
           rw [hwf] at hgp lf
           simp only [go_sem,AE,AA,AC,AB,KB_n,KB_x,Nat.reduceBEq,Nat.reduceAdd,Nat.reduceLT,Nat.reduceLeDiff,Nat.reduceEqDiff,reduceIte,Int.reduceEq,reduceCtorEq,g0,g1,g2,g3,g9,g10,g12,g14,hal,e4,AI,hgi,la,hgp,lf,hsm,hsp,hn2]
           exact ⟨y - 1,by omega,j+1,W1.set j (w.1,K'),by omega,H4,hm2,hr2,rfl⟩
         · have e4:((j:Int) < (W.length:Int))=False:=eq_false (by omega)
           simp only [go_sem,AE,AA,AC,AB,KB_n,KB_x,Nat.reduceBEq,Nat.reduceAdd,Nat.reduceLT,Nat.reduceLeDiff,Nat.reduceEqDiff,reduceIte,Int.reduceEq,reduceCtorEq,g0,g1,g2,g3,g9,g10,g12,g14,hal,e4,hn1]
           exact ⟨x - 1,by omega,i+1,by omega,H.sel [] [] (by simp) (by simp),rfl⟩
       · simp only [go_sem,AE,AA,AC,AB,KB_n,KB_x,Nat.reduceBEq,Nat.reduceAdd,Nat.reduceLT,Nat.reduceLeDiff,Nat.reduceEqDiff,reduceIte,Int.reduceEq,reduceCtorEq,g0,g1,g2,g3,g9]
         exact ⟨0,W,by omega,H2,rfl,fun k _=>rfl,rfl,rfl,rfl⟩
     · have e1:((i:Int) < 2)=False:=eq_false (by omega)
       simp only [go_sem,AE,AA,AC,AB,KB_n,KB_x,Nat.reduceBEq,Nat.reduceAdd,Nat.reduceLT,Nat.reduceLeDiff,Nat.reduceEqDiff,reduceIte,Int.reduceEq,reduceCtorEq,g0,g1,g2,g3,g9,e1,haw]
       exact AU H.over rfl rfl
   · simp only [go_sem,AE,AA,AC,AB,KB_n,KB_x,Nat.reduceBEq,Nat.reduceAdd,Nat.reduceLT,Nat.reduceLeDiff,Nat.reduceEqDiff,reduceIte,Int.reduceEq,reduceCtorEq]
     exact ⟨0,by omega,Hp.begin hw,rfl,rfl⟩
end Go.Proofs.Ytgloinighjdhlaa

namespace Go.Proofs.Ytgloinighjdhlaa
open Go.Proofs.Ytgloinighjdhlaa.Am Go.Proofs
theorem Yb (hX:Ctx Try.prog gt prog) {f:Nat} {fn:Fun} (h:prog f=some fn) (hp:fn.prim=none):∃ F b,Try.prog.funcs[f]? = some F∧F.body=some b:=by
 obtain ⟨F,pops,raw,hF,hc⟩:=hX.fns f fn h hp
 obtain ⟨b,hb,_⟩:=Ij hc
 exact ⟨F,b,hF,hb⟩
theorem QT (hN:CW Try.prog) (hX:Ctx Try.prog gt prog) {f:Nat} {fn:Fun} (h:prog f=some fn) (hp:fn.prim=none):Ps Try.prog gt f (dq f) :=
 .inr ⟨_,rfl,Sn hN hX (Yb hX h hp)⟩
theorem Yc (hN:CW Try.prog) (hX:Ctx Try.prog gt prog) (f:Nat) (fn:Fun) (h:Ay f=some fn):Ps Try.prog gt f fn:=by
 unfold Ay at h
 by_cases e:f=Bg
 · rw [if_pos e] at h; subst e; cases h; exact Co _ _ Fj
 rw [if_neg e] at h; clear e
 by_cases e:f=BL
 · rw [if_pos e] at h; subst e; cases h; exact Co _ _ Gm
 rw [if_neg e] at h; clear e
 by_cases e:f=C3
 · rw [if_pos e] at h; subst e; cases h; exact Co _ _ QD
 rw [if_neg e] at h; clear e
 by_cases e:f=BV
 · rw [if_pos e] at h; subst e; cases h; exact Co _ _ JU
 rw [if_neg e] at h; clear e
 by_cases e:f=A3
 · rw [if_pos e] at h; subst e; cases h; exact Co _ _ II
 rw [if_neg e] at h; clear e
 by_cases e:f=A4
 · rw [if_pos e] at h; subst e; cases h; exact Co _ _ IJ
 rw [if_neg e] at h; clear e
 by_cases e:f=AX
 · rw [if_pos e] at h; subst e; cases h; exact Co _ _ IK
 rw [if_neg e] at h; clear e
 by_cases e:f=Dc
 · rw [if_pos e] at h; subst e; cases h; exact Co _ _ O4
 rw [if_neg e] at h; clear e
 by_cases e:f=Bt
 · rw [if_pos e] at h; subst e; cases h; exact Co _ _ Mp
 rw [if_neg e] at h; clear e
 by_cases e:f=EA
 · rw [if_pos e] at h; subst e; cases h; exact Co _ _ O5
 rw [if_neg e] at h; clear e
 by_cases e:f=Ch
 · rw [if_pos e] at h; subst e; cases h; exact Co _ _ Mq
 rw [if_neg e] at h; clear e
 by_cases e:f=Ci
 · rw [if_pos e] at h; subst e; cases h; exact Co _ _ Mr
 rw [if_neg e] at h; clear e
 by_cases e:f=Dp
 · rw [if_pos e] at h; subst e; cases h; exact Co _ _ Nw
 rw [if_neg e] at h; clear e
 by_cases e:f=CM
 · rw [if_pos e] at h; subst e; cases h; exact Co _ _ L8
 rw [if_neg e] at h; clear e
 by_cases e:f=CN
 · rw [if_pos e] at h; subst e; cases h; exact Co _ _ MA
 rw [if_neg e] at h; clear e
 by_cases e:f=D9
 · rw [if_pos e] at h; subst e; cases h; exact Co _ _ O3
 rw [if_neg e] at h; clear e
 by_cases e:f=Cf
 · rw [if_pos e] at h; subst e; cases h; exact Co _ _ Mn
 rw [if_neg e] at h; clear e
 by_cases e:f=Cg
 · rw [if_pos e] at h; subst e; cases h; exact Co _ _ Mo
 rw [if_neg e] at h; clear e
 by_cases e:f=Ce
 · rw [if_pos e] at h; subst e; cases h; exact Co _ _ Mm
 rw [if_neg e] at h; clear e
 by_cases e:f=Ep
 · rw [if_pos e] at h; subst e; cases h; exact Co _ _ QG
 rw [if_neg e] at h; clear e
 by_cases e:f=Ab
 · rw [if_pos e] at h; subst e; cases h; exact Co _ _ FC
 rw [if_neg e] at h; clear e
 by_cases e:f=A2
 · rw [if_pos e] at h; subst e; cases h; exact Co _ _ HG
 rw [if_neg e] at h; clear e
 by_cases e:f=Af
 · rw [if_pos e] at h; subst e; cases h; exact Co _ _ EW
 rw [if_neg e] at h; clear e
 by_cases e:f=Bj
 · rw [if_pos e] at h; subst e; cases h; exact Co _ _ G7
 rw [if_neg e] at h; clear e
 by_cases e:f=Bl
 · rw [if_pos e] at h; subst e; cases h; exact Co _ _ G9
 rw [if_neg e] at h; clear e
 by_cases e:f=Bk
 · rw [if_pos e] at h; subst e; cases h; exact Co _ _ G8
 rw [if_neg e] at h; clear e
 by_cases e:f=Bd
 · rw [if_pos e] at h; subst e; cases h; exact Co _ _ Gn
 rw [if_neg e] at h; clear e
 by_cases e:f=BA
 · rw [if_pos e] at h; subst e; cases h; exact Co _ _ HC
 rw [if_neg e] at h; clear e
 by_cases e:f=BW
 · rw [if_pos e] at h; subst e; cases h; exact Co _ _ GH
 rw [if_neg e] at h; clear e
 by_cases e:f=BK
 · rw [if_pos e] at h; subst e; cases h; exact Co _ _ Gl
 rw [if_neg e] at h; clear e
 by_cases e:f=Az
 · rw [if_pos e] at h; subst e; cases h; exact QT hN hX EZ rfl
 rw [if_neg e] at h; clear e
 by_cases e:f=EN
 · rw [if_pos e] at h; subst e; cases h; exact QT hN hX O2 rfl
 rw [if_neg e] at h; clear e
 by_cases e:f=C4
 · rw [if_pos e] at h; subst e; cases h; exact QT hN hX L9 rfl
 rw [if_neg e] at h; clear e
 by_cases e:f=CZ
 · rw [if_pos e] at h; subst e; cases h; exact QT hN hX JV rfl
 rw [if_neg e] at h; clear e
 by_cases e:f=A1
 · rw [if_pos e] at h; subst e; cases h; exact QT hN hX Ea rfl
 rw [if_neg e] at h; clear e
 by_cases e:f=Ao
 · rw [if_pos e] at h; subst e; cases h; exact QT hN hX EQ rfl
 rw [if_neg e] at h; clear e
 by_cases e:f=Aw
 · rw [if_pos e] at h; subst e; cases h; exact QT hN hX Ez rfl
 rw [if_neg e] at h; clear e
 cases h
end Go.Proofs.Ytgloinighjdhlaa
