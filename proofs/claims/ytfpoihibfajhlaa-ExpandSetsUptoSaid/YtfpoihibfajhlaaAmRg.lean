/-
  A heap as it is reckoned with: rows of which nobody else knows, boxes, and what operations do to them.
-/
import Derived.Test.YtfpoihibfajhlaaAmKeep
import Derived.Test.YtfpoihibfajhlaaAmDraw3
import Derived.Attr
import Derived.SliceStrings
import Derived.WideShapes
import Derived.ProofKit
import Derived.ChangeArms
import Derived.Lib.LaidTab
import Derived.Lib.RowBridge
set_option linter.all false
set_option linter.unusedVariables false
set_option linter.unusedSimpArgs false
set_option linter.unusedSectionVars false
namespace Go.Proofs.Ytfpoihibfajhlaa.Am
structure RA where
 es:Nat
 T:Nat
 a:AV
 xs:List AV
 fr:Bool
def Ga (es:Nat) (a:AV) (xs:List AV):Prop:=(a=.nsl∧xs=[])∨(a=.wz∧xs=[])∨a=.sl es xs .full∨a=.ws true es xs
def TokA (t0:Nat) (s:St) (r:RA):Prop:=∃ k v t,r.a=.sl r.es r.xs (.tok k v)∧t0≤k∧k < s.nt∧s.tok? k=some t∧t.ver=v∧t.front=r.xs.length∧t.ty=some r.T∧(r.fr=true→t.pub=0)
def RowH (t0:Nat) (s:St) (r:RA):Prop:=Ga r.es r.a r.xs∨TokA t0 s r
structure En where
 lo:Nat
 nb:Nat
 nt:Nat
def St.en (s:St):En:=⟨s.nb,s.nb,s.nt⟩
structure Hp (s0 s:St) (n:En) (R:List RA) (B:List (Nat×Box)):Prop where
 wf:Wf s
 over:Over s0 s
 lo:s.lo≤n.lo
 nb:n.nb≤s.nb
 nt:n.nt≤s.nt
 rows:∀ {i:Nat} {r:RA},R[i]? = some r→RowH s0.nt s r
 apart:∀ {i j:Nat} {r r':RA} {k:Nat},i≠j→R[i]? = some r→R[j]? = some r'→Av r.a=some k→Av r'.a≠some k
 box:∀ {i:Nat} {p:Nat×Box},B[i]? = some p→s.box? p.1=some p.2∧s0.nb≤p.1∧p.1 < s.nb
 bapart:∀ {i j:Nat} {p q:Nat×Box},i≠j→B[i]? = some p→B[j]? = some q→p.1≠q.1
section
variable {s0 s s':St} {n:En} {R:List RA} {B:List (Nat×Box)} {r:RA}
theorem Eu {es:Nat} {a:AV} {xs:List AV} (h:Ga es a xs):Av a=none:=by
 rcases h with ⟨rfl,_⟩ | ⟨rfl,_⟩ | rfl | rfl<;>rfl
theorem Mo {es:Nat} {a:AV} {xs:List AV} (h:Ga es a xs):a.cells=[a]∧ones [a]=true:=by
 rcases h with ⟨rfl,_⟩ | ⟨rfl,_⟩ | rfl | rfl<;>exact ⟨rfl,rfl⟩
theorem RowH.tok_lt {t0:Nat} (h:RowH t0 s r) {k:Nat} (hk:Av r.a=some k):k < s.nt:=by
 rcases h with h | ⟨k',v,t,h,_,h2,_⟩
 · rw [Eu h] at hk; cases hk
 · rw [h] at hk; simp only [Av,Option.some.injEq] at hk; omega
theorem RowH.cells {t0:Nat} (h:RowH t0 s r):r.a.cells=[r.a]∧ones [r.a]=true:=by
 rcases h with h | ⟨k',v,t,h,_⟩
 · exact Mo h
 · rw [h]; exact ⟨rfl,rfl⟩
theorem RowH.mono {t0:Nat} (h:RowH t0 s r) (hn:s.nt≤s'.nt) (ht:∀ k,Av r.a=some k→s'.tok? k=s.tok? k):RowH t0 s' r:=by
 rcases h with h | ⟨k,v,t,h,h1,h2,h3,h4⟩
 · exact .inl h
 · exact .inr ⟨k,v,t,h,h1,by omega,by rw [ht k (by rw [h]; rfl)]; exact h3,h4⟩
theorem Ga.nil {es:Nat}:Ga es .nsl []:=.inl ⟨rfl,rfl⟩
theorem Ga.full {es:Nat} {xs:List AV}:Ga es (.sl es xs .full) xs:=.inr (.inr (.inl rfl))
theorem Ga.ws {es:Nat} {xs:List AV}:Ga es (.ws true es xs) xs:=.inr (.inr (.inr rfl))
theorem Hp.begin (hw:Wf s):Hp s s.enter s.en [] [] where
 wf:=hw.enter
 over:=Over.enter s
 lo:=Nat.le_refl _
 nb:=Nat.le_refl _
 nt:=Nat.le_refl _
 rows:=fun h=>by simp at h
 apart:=fun _ h=>by simp at h
 box:=fun h=>by simp at h
 bapart:=fun _ h=>by simp at h
theorem Hp.enter (H:Hp s0 s n R B):Hp s0 s.enter s.en R B where
 wf:=H.wf.enter
 over:=H.over.toEnter
 lo:=Nat.le_refl _
 nb:=Nat.le_refl _
 nt:=Nat.le_refl _
 rows:=fun h=>(H.rows h).mono (Nat.le_refl _) fun _ _=>rfl
 apart:=H.apart
 box:=H.box
 bapart:=H.bapart
theorem Hp.setLo (H:Hp s0 s n R B) {m:Nat} (h1:m≤n.lo) (h2:s0.nb≤m):Hp s0 { s with lo:=m } n R B where
 wf:=H.wf.lo m
 over:=H.over.setLo h2
 lo:=h1
 nb:=H.nb
 nt:=H.nt
 rows:=fun h=>(H.rows h).mono (Nat.le_refl _) fun _ _=>rfl
 apart:=H.apart
 box:=H.box
 bapart:=H.bapart
def pick {α:Type} (l:List α):List Nat→List α
 | []=>[]
 | i::is=>match l[i]? with
   | some a=>a::pick l is
   | none=>pick l is
theorem Dn {α:Type} (l:List α):∀ (is:List Nat) {j:Nat} {a:α},(pick l is)[j]? = some a→∃ m i,is[m]? = some i∧l[i]? = some a∧(pick l (is.take m)).length=j
 | [],j,a,h=>by simp [pick] at h
 | i :: is,j,a,h=>by
   simp only [pick] at h
   cases hi:l[i]? with
   | none =>
     rw [hi] at h
     obtain ⟨m,i',h1,h2,h3⟩:=Dn l is h
     exact ⟨m+1,i',by simpa using h1,h2,by simp [pick,hi,h3]⟩
   | some b =>
     rw [hi] at h
     cases j with
     | zero=>exact ⟨0,i,rfl,by simp only [List.getElem?_cons_zero,Option.some.injEq] at h; rw [← h]; exact hi,rfl⟩
     | succ j =>
       obtain ⟨m,i',h1,h2,h3⟩:=Dn l is (by simpa using h)
       exact ⟨m+1,i',by simpa using h1,h2,by simp [pick,hi,h3]⟩
theorem KX {is:List Nat} (h:is.Nodup) {a b x:Nat} (ha:is[a]? = some x) (hb:is[b]? = some x):a=b:=by
 rw [List.getElem?_eq_some_iff] at ha hb
 obtain ⟨ha,ea⟩:=ha
 obtain ⟨hb,eb⟩:=hb
 rcases Nat.lt_trichotomy a b with hh | hh | hh
 · exact absurd (ea.trans eb.symm) ((List.pairwise_iff_getElem.1 h) a b ha hb hh)
 · exact hh
 · exact absurd (eb.trans ea.symm) ((List.pairwise_iff_getElem.1 h) b a hb ha hh)
theorem Hp.sel (H:Hp s0 s n R B) (f g:List Nat) (hf:f.Nodup) (hg:g.Nodup):Hp s0 s n (pick R f) (pick B g) where
 wf:=H.wf
 over:=H.over
 lo:=H.lo
 nb:=H.nb
 nt:=H.nt
 rows:=fun h=>by obtain ⟨_,_,_,h2,_⟩:=Dn R f h; exact H.rows h2
 apart:=fun {i j r r' k} hne h1 h2=>by
  obtain ⟨m1,i1,a1,a2,a3⟩:=Dn R f h1
  obtain ⟨m2,i2,b1,b2,b3⟩:=Dn R f h2
  refine H.apart (fun he=>hne ?_) a2 b2
  subst he
  have:=KX hf a1 b1
  rw [← a3,← b3,this]
 box:=fun h=>by obtain ⟨_,_,_,h2,_⟩:=Dn B g h; exact H.box h2
 bapart:=fun {i j p q} hne h1 h2=>by
  obtain ⟨m1,i1,a1,a2,a3⟩:=Dn B g h1
  obtain ⟨m2,i2,b1,b2,b3⟩:=Dn B g h2
  refine H.bapart (fun he=>hne ?_) a2 b2
  subst he
  have:=KX hg a1 b1
  rw [← a3,← b3,this]
theorem Hz {α:Type} (b:α) (l:List α):∀ is:List Nat,pick (b::l) (is.map (·+1))=pick l is
 | []=>rfl
 | i::is=>by simp only [List.map_cons,pick,List.getElem?_cons_succ,Hz b l is]
theorem GA {α:Type}:∀ l:List α,pick l (List.range l.length)=l
 | []=>rfl
 | a::l=>by
   rw [List.length_cons,List.range_succ_eq_map]
   simp only [pick,List.getElem?_cons_zero]
   exact congrArg (a::·) ((Hz a l (List.range l.length)).trans (GA l))
theorem KY {α:Type} (b:α) (l:List α):pick (b::l) (List.range' 1 l.length)=l:=by
 have:List.range' 1 l.length=(List.range l.length).map (·+1):=by
  apply List.ext_getElem<;>simp [Nat.add_comm]
 rw [this,Hz,GA]
theorem Hp.dropR (H:Hp s0 s n (r::R) B):Hp s0 s n R B:=by
 have:=H.sel (List.range' 1 R.length) (List.range B.length) List.nodup_range' List.nodup_range
 rw [GA,KY] at this
 exact this
theorem Hp.dropB {p:Nat×Box} (H:Hp s0 s n R (p::B)):Hp s0 s n R B:=by
 have:=H.sel (List.range R.length) (List.range' 1 B.length) List.nodup_range List.nodup_range'
 rw [GA,KY] at this
 exact this
theorem Hp.addFull (H:Hp s0 s n R B) (es T:Nat) {a:AV} {xs:List AV} (fr:Bool) (h:Ga es a xs):Hp s0 s n (⟨es,T,a,xs,fr⟩::R) B where
 wf:=H.wf
 over:=H.over
 lo:=H.lo
 nb:=H.nb
 nt:=H.nt
 rows:=fun {i r} hr=>by
  cases i with
  | zero=>simp only [List.getElem?_cons_zero,Option.some.injEq] at hr; subst hr; exact .inl h
  | succ i=>exact H.rows (by simpa using hr)
 apart:=fun {i j r r' k} hne h1 h2 hk=>by
  cases i with
  | zero =>
    simp only [List.getElem?_cons_zero,Option.some.injEq] at h1; subst h1
    simp only [Eu h] at hk; cases hk
  | succ i=>cases j with
    | zero =>
      simp only [List.getElem?_cons_zero,Option.some.injEq] at h2; subst h2
      simp only [Eu h]; simp
    | succ j=>exact H.apart (i:=i) (j:=j) (by omega) (by simpa using h1) (by simpa using h2) hk
 box:=H.box
 bapart:=H.bapart
theorem Hp.new (H:Hp s0 s n R B) (X:Box):Hp s0 (s.new X) n R ((s.nb,X)::B) where
 wf:=H.wf.new X
 over:=H.over.new X
 lo:=H.lo
 nb:=Nat.le_succ_of_le H.nb
 nt:=H.nt
 rows:=fun h=>(H.rows h).mono (Nat.le_refl _) fun _ _=>rfl
 apart:=H.apart
 box:=fun {i p} h=>by
  cases i with
  | zero=>
    simp only [List.getElem?_cons_zero,Option.some.injEq] at h; subst h
    exact ⟨AQ s X,H.over.nb,Nat.lt_succ_self _⟩
  | succ i =>
    obtain ⟨h1,h2,h3⟩:=H.box (i:=i) (by simpa using h)
    exact ⟨by rw [D3 h3]; exact h1,h2,Nat.lt_succ_of_lt h3⟩
 bapart:=fun {i j p q} hne h1 h2=>by
  cases i with
  | zero=>cases j with
    | zero=>exact absurd rfl hne
    | succ j =>
      have:=(H.box (i:=j) (by simpa using h2)).2.2
      simp only [List.getElem?_cons_zero,Option.some.injEq] at h1; subst h1
      simp only; omega
  | succ i=>cases j with
    | zero =>
      have:=(H.box (i:=i) (by simpa using h1)).2.2
      simp only [List.getElem?_cons_zero,Option.some.injEq] at h2; subst h2
      simp only; omega
    | succ j=>exact H.bapart (i:=i) (j:=j) (by omega) (by simpa using h1) (by simpa using h2)
theorem Cm {α:Type} {l:List α} {i j:Nat} {a b x:α} (hi:l[i]? = some b) (h:(l.set i a)[j]? = some x):(j=i∧x=a)∨(j≠i∧l[j]? = some x):=by
 rw [List.getElem?_set] at h
 by_cases hj:i=j
 · subst hj
   rw [if_pos rfl,if_pos (by rw [List.getElem?_eq_some_iff] at hi; exact hi.1)] at h
   exact .inl ⟨rfl,by simpa using h.symm⟩
 · rw [if_neg hj] at h
   exact .inr ⟨fun hh=>hj hh.symm,h⟩
theorem Hp.setBox (H:Hp s0 s n R B) {i id:Nat} {X:Box} (h:B[i]? = some (id,X)) (Y:Box):Hp s0 (s.setBox id Y) n R (B.set i (id,Y)) where
 wf:=H.wf.setBox _ _
 over:=Over.setBox H.over (H.box h).2.1 (H.box h).2.2 _
 lo:=H.lo
 nb:=H.nb
 nt:=H.nt
 rows:=fun h=>(H.rows h).mono (Nat.le_refl _) fun _ _=>rfl
 apart:=H.apart
 box:=fun {j p} hj=>by
  rcases Cm h hj with ⟨rfl,rfl⟩ | ⟨hne,hj⟩
  · exact ⟨by rw [setBox_box? H.wf.b (H.box h).2.2,if_pos rfl],(H.box h).2.1,(H.box h).2.2⟩
  · obtain ⟨h1,h2,h3⟩:=H.box hj
    exact ⟨by rw [setBox_box? H.wf.b (H.box h).2.2,if_neg (H.bapart hne hj h)]; exact h1,h2,h3⟩
 bapart:=fun {a b p q} hne h1 h2=>by
  rcases Cm h h1 with ⟨e1,e2⟩ | ⟨hn1,h3⟩
  · rcases Cm h h2 with ⟨e3,e4⟩ | ⟨hn2,h4⟩
    · exact absurd (e1.trans e3.symm) hne
    · rw [e2]
      exact H.bapart (p:=(id,X)) (fun he=>hn2 he.symm) h h4
  · rcases Cm h h2 with ⟨e3,e4⟩ | ⟨hn2,h4⟩
    · rw [e4]
      exact H.bapart (q:=(id,X)) hn1 h3 h
    · exact H.bapart hne h3 h4
theorem Hp.esc (H:Hp s0 s n R B) {i id:Nat} {X:Box} (h:B[i]? = some (id,X)) (v:AV):Hp s0 (Am.esc s id v) n R B∧(Am.esc s id v).nb=s.nb∧(v.refs=true→(Am.esc s id v).lo≤id):=by
 unfold Am.esc
 split
 · rename_i hv
   exact ⟨H.setLo (by have:=H.lo; omega) (by have:=H.over.lo; have:=(H.box h).2.1; simp only at *; omega),rfl,fun _=>by simp only; omega⟩
 · rename_i hv
   exact ⟨H,rfl,fun h=>absurd h hv⟩
theorem Hp.cells (H:Hp s0 s n R B) {i id T:Nat} {cs:List AV} (h:B[i]? = some (id,.cells T cs)):s.cells? id=some cs:=by
 have:=(H.box h).1
 simp only [St.cells?]
 simp only at this
 rw [this]
theorem Hp.ld (H:Hp s0 s n R B) (i:Nat) {id T off:Nat} {cs:List AV} {v:AV} (h:B[i]? = some (id,.cells T cs)) (hc:cs[off]? = some v):ldA s false 1 (.p id off)=some v:=Ed (H.box h).1 hc
theorem Hp.ldw (H:Hp s0 s n R B) (i:Nat) {id T m:Nat} {cs:List AV} (h:B[i]? = some (id,.cells T cs)) (hc:cs.length=m):ldA s true m (.p id 0)=some (.agg cs):=by
 simp only [ldA,H.cells h,cut,List.drop_zero]
 rw [List.take_of_length_le (by omega),if_pos hc]; rfl
theorem Hp.st (H:Hp s0 s n R B) (i:Nat) {id T off:Nat} {cs:List AV} {v:AV} (h:B[i]? = some (id,.cells T cs)) (hoff:off < cs.length) (hv:v.cells=[v]∧ones [v]=true) :
    ∃ s',stA s 1 (.p id off) v=some s'∧Hp s0 s' n R (B.set i (id,.cells T (cs.set off v)))∧s'.nb=s.nb∧(v.refs=true→s'.lo≤id):=by
 have hb:(B.set i (id,Box.cells T (cs.set off v)))[i]? = some (id,.cells T (cs.set off v)):=by
  rw [List.getElem?_set,if_pos rfl,if_pos (by rw [List.getElem?_eq_some_iff] at h; exact h.1)]
 obtain ⟨h1,h2,h3⟩:=(H.setBox h (.cells T (cs.set off v))).esc hb v
 exact ⟨_,P2 (H.box h).1 hv.1 hv.2 hoff,h1,h2,h3⟩
theorem Hp.stw (H:Hp s0 s n R B) (i:Nat) {id T m:Nat} {cs:List AV} {v:AV} (h:B[i]? = some (id,.cells T cs)) (hm:cs.length=m) (hv:v.cells.length=m∧ones v.cells=true) :
    ∃ s',stA s m (.p id 0) v=some s'∧Hp s0 s' n R (B.set i (id,.cells T v.cells))∧s'.nb=s.nb∧(v.refs=true→s'.lo≤id):=by
 have hb:(B.set i (id,Box.cells T v.cells))[i]? = some (id,.cells T v.cells):=by
  rw [List.getElem?_set,if_pos rfl,if_pos (by rw [List.getElem?_eq_some_iff] at h; exact h.1)]
 obtain ⟨h1,h2,h3⟩:=(H.setBox h (.cells T v.cells)).esc hb v
 refine ⟨_,?_,h1,h2,h3⟩
 have hbx:=(H.box h).1
 simp only at hbx
 have:Am.over cs 0 v.cells=some v.cells:=by
  unfold Am.over
  rw [if_pos (by omega),List.take_zero,List.nil_append,Nat.zero_add,List.drop_of_length_le (by omega),List.append_nil]
 simp only [stA,hbx,hv,and_self,if_true,this]
theorem Hp.adp (H:Hp s0 s n R B) {T m:Nat} {z:List AV} {v:AV} (hz:z.length=m) (hv:v.cells.length=m∧ones v.cells=true) :
    ∃ s',stA (s.new (.cells T z)) m (.p s.nb 0) v=some s'∧Hp s0 s' n R ((s.nb,.cells T v.cells)::B)∧s'.nb=s.nb+1:=by
 obtain ⟨s',h1,h2,h3,_⟩:=(H.new (.cells T z)).stw 0 (v:=v) rfl hz hv
 exact ⟨s',h1,h2,h3⟩
theorem Hp.newTok (H:Hp s0 s n R B) (es T:Nat) (xs:List AV):Hp s0 (s.newTok xs.length (some T)) n (⟨es,T,.sl es xs (.tok s.nt 0),xs,true⟩::R) B where
 wf:=H.wf.newTok _ _
 over:=H.over.withTok _
 lo:=H.lo
 nb:=H.nb
 nt:=Nat.le_succ_of_le H.nt
 rows:=fun {i r} h=>by
  cases i with
  | zero =>
    simp only [List.getElem?_cons_zero,Option.some.injEq] at h; subst h
    exact .inr ⟨s.nt,0,⟨xs.length,0,0,some T⟩,rfl,H.over.nt,by simp [St.newTok],by rw [newTok_tok?,if_pos rfl],rfl,rfl,rfl,fun _=>rfl⟩
  | succ i =>
    have hr:=H.rows (i:=i) (r:=r) (by simpa using h)
    exact hr.mono (by simp [St.newTok]) fun k hk=>by rw [newTok_tok?,if_neg (by have:=hr.tok_lt hk; omega)]
 apart:=fun {i j r r' k} hne h1 h2 hk hk2=>by
  cases i with
  | zero=>cases j with
    | zero=>exact hne rfl
    | succ j =>
      have:=(H.rows (i:=j) (by simpa using h2)).tok_lt hk2
      simp only [List.getElem?_cons_zero,Option.some.injEq] at h1; subst h1
      simp only [Av,Option.some.injEq] at hk; omega
  | succ i=>cases j with
    | zero =>
      have:=(H.rows (i:=i) (by simpa using h1)).tok_lt hk
      simp only [List.getElem?_cons_zero,Option.some.injEq] at h2; subst h2
      simp only [Av,Option.some.injEq] at hk2; omega
    | succ j=>exact H.apart (i:=i) (j:=j) (by omega) (by simpa using h1) (by simpa using h2) hk hk2
 box:=H.box
 bapart:=H.bapart
theorem Hp.setTok (H:Hp s0 s n R B) {i k v:Nat} {t:Tok} (h:R[i]? = some r) (ha:r.a=.sl r.es r.xs (.tok k v)) (ht:s.tok? k=some t) (xs:List AV) (t':Tok) (v':Nat) (fr:Bool)
    (h1:t'.ver=v') (h2:t'.front=xs.length) (h3:t'.ty=t.ty) (h4:fr=true→t'.pub=0):Hp s0 (s.setTok k t') n (R.set i ⟨r.es,r.T,.sl r.es xs (.tok k v'),xs,fr⟩) B:=by
 have hk:Av r.a=some k:=by rw [ha]; rfl
 have hlt:=(H.rows h).tok_lt hk
 have hrow:s0.nt≤k∧t.ty=some r.T:=by
  rcases H.rows h with hh | ⟨k',w,t2,hh,q1,q2,q3,q4,q5,q6,q7⟩
  · rw [Eu hh] at hk; cases hk
  · rw [ha] at hh; cases hh; rw [ht] at q3; cases q3; exact ⟨q1,q6⟩
 exact {
  wf:=H.wf.setTok _ _
  over:=H.over.setTok hrow.1 hlt _
  lo:=H.lo
  nb:=H.nb
  nt:=H.nt
  rows:=fun {j x} hj=>by
   rcases Cm h hj with ⟨rfl,rfl⟩ | ⟨hne,hj⟩
   · exact .inr ⟨k,v',t',rfl,hrow.1,hlt,by rw [setTok_tok? H.wf.t hlt,if_pos rfl],h1,h2,by rw [h3]; exact hrow.2,h4⟩
   · exact (H.rows hj).mono (Nat.le_refl _) fun m hm=>by
      rw [setTok_tok? H.wf.t hlt,if_neg]
      intro he
      exact H.apart hne hj h hm (by rw [he]; exact hk)
  apart:=fun {a b x y m} hne g1 g2 gk gk2=>by
   rcases Cm h g1 with ⟨e1,e2⟩ | ⟨hn1,g3⟩
   · rcases Cm h g2 with ⟨e3,e4⟩ | ⟨hn2,g4⟩
     · exact hne (e1.trans e3.symm)
     · rw [e2] at gk
       simp only [Av] at gk
       exact H.apart (fun he=>hn2 he.symm) h g4 (by rw [hk]; exact gk) gk2
   · rcases Cm h g2 with ⟨e3,e4⟩ | ⟨hn2,g4⟩
     · rw [e4] at gk2
       simp only [Av] at gk2
       exact H.apart hn1 g3 h gk (by rw [hk]; exact gk2)
     · exact H.apart hne g3 g4 gk gk2
  box:=H.box
  bapart:=H.bapart }
theorem Lw {α:Type} {l:List α} {i:Nat} {a:α} (h:l[i]? = some a):l.set i a=l:=by
 apply List.ext_getElem?
 intro j
 rw [List.getElem?_set]
 by_cases hj:i=j
 · subst hj; rw [if_pos rfl,if_pos (by rw [List.getElem?_eq_some_iff] at h; exact h.1),h]
 · rw [if_neg hj]
theorem Oq {es T:Nat} {a y:AV} {xs ys:List AV} (h:Ga es a xs) (hy:elems s es y=some ys) (h1:ys≠[]) (hsz:(xs.length+ys.length)*es < 2^38) :
    appA s es T a y=some (.sl es (xs++ys) (.tok s.nt 0),s.newTok (xs++ys).length (some T)):=by
 cases ys with
 | nil=>exact absurd rfl h1
 | cons y0 ys =>
 unfold appA
 rw [hy]
 rcases h with ⟨rfl,rfl⟩ | ⟨rfl,rfl⟩ | rfl | rfl
 · simp only [List.length_nil,Nat.zero_add,List.nil_append] at hsz ⊢
   rw [if_pos hsz]
 · simp only [List.length_nil,Nat.zero_add,List.nil_append] at hsz ⊢
   rw [if_pos hsz]
 · simp only [List.length_append]
   rw [if_pos ⟨trivial,hsz⟩]
 · simp only [List.length_append]
   rw [if_pos ⟨trivial,hsz⟩]
theorem Ot {es T:Nat} {a y:AV} {t0:Nat} (h:RowH t0 s r) (ha:r.a=a) (hy:elems s es y=some []):appA s es T a y=some (a,s):=by
 subst ha
 unfold appA
 rw [hy]
 rcases h with (⟨h,_⟩ | ⟨h,_⟩ | h | h) | ⟨k,v,t,h,_⟩<;>rw [h]
theorem Hp.app (H:Hp s0 s n R B) (i:Nat) {es T:Nat} {a y:AV} {xs ys:List AV} {fr:Bool} (h:R[i]? = some ⟨es,T,a,xs,fr⟩) (hy:elems s es y=some ys) (hsz:(xs.length+ys.length)*es < 2^38) :
    ∃ a' s',appA s es T a y=some (a',s')∧Hp s0 s' n (R.set i ⟨es,T,a',xs++ys,fr⟩) B∧s'.nb=s.nb∧(ys≠[]→Av a'≠none∧a'.refs=true):=by
 by_cases hys:ys=[]
 · subst hys
   refine ⟨a,s,Ot (H.rows h) rfl hy,?_,rfl,fun h=>absurd rfl h⟩
   rw [List.append_nil,Lw h]
   exact H
 · rcases H.rows h with hf | ⟨k,v,t,ha,k1,k2,k3,k4,k5,k6,k7⟩
   · refine ⟨_,_,Oq hf hy hys hsz,?_,rfl,fun _=>⟨by simp [Av],rfl⟩⟩
     have h0:=H.newTok es T (xs++ys)
     refine { wf:=h0.wf,over:=h0.over,lo:=h0.lo,nb:=h0.nb,nt:=h0.nt,rows:=fun {j x} hj=>?_,apart:=fun {p q x y m} hne g1 g2 gk=>?_,box:=h0.box,bapart:=h0.bapart }
     · rcases Cm h hj with ⟨rfl,rfl⟩ | ⟨_,hj⟩
       · rcases h0.rows (i:=0) rfl with hh | ⟨k,v,t,q1,q2,q3,q4,q5,q6,q7,q8⟩
         · exact .inl hh
         · exact .inr ⟨k,v,t,q1,q2,q3,q4,q5,q6,q7,fun _=>q8 rfl⟩
       · exact h0.rows (i:=j+1) (by simpa using hj)
     · rcases Cm h g1 with ⟨e1,e2⟩ | ⟨hn1,g3⟩
       · rcases Cm h g2 with ⟨e3,e4⟩ | ⟨hn2,g4⟩
         · exact absurd (e1.trans e3.symm) hne
         · rw [e2] at gk
           exact h0.apart (i:=0) (j:=q+1) (by omega) rfl (by simpa using g4) gk
       · rcases Cm h g2 with ⟨e3,e4⟩ | ⟨hn2,g4⟩
         · rw [e4]
           exact h0.apart (i:=p+1) (j:=0) (r':=⟨es,T,.sl es (xs++ys) (.tok s.nt 0),xs++ys,true⟩) (by omega) (by simpa using g3) rfl gk
         · exact H.apart hne g3 g4 gk
   · simp only at ha
     refine ⟨.sl es (xs++ys) (.tok k v),s.setTok k { t with front:=xs.length+ys.length },?_,H.setTok h ha k3 (xs++ys) { t with front:=xs.length+ys.length } v fr k4 (by simp) rfl k7,rfl,fun _=>⟨by simp [Av],rfl⟩⟩
     subst ha
     cases ys with
     | nil=>exact absurd rfl hys
     | cons y0 ys =>
     unfold appA
     rw [hy]
     simp only [k3]
     rw [if_pos ⟨trivial,k4,k5,by rw [k6]; simp [tyOk],hsz⟩]
theorem Hp.appN (H:Hp s0 s n R B) {es:Nat} (T:Nat) {a y:AV} {xs ys:List AV} (hf:Ga es a xs) (hy:elems s es y=some ys) (hsz:(xs.length+ys.length)*es < 2^38) :
    ∃ a' s',appA s es T a y=some (a',s')∧Hp s0 s' n (⟨es,T,a',xs++ys,true⟩::R) B∧s'.nb=s.nb∧(ys≠[]→Av a'≠none∧a'.refs=true):=(H.addFull es T true hf).app 0 rfl hy hsz
def Cs (es:Nat) (a:AV) (xs:List AV):Prop:=(a=.nsl∧xs=[])∨(a=.wz∧xs=[])∨a=.sl es xs .full∨a=.sl es xs .shut∨a=.ws true es xs∨a=.ws false es xs
theorem Ga.told {es:Nat} {a:AV} {xs:List AV} (h:Ga es a xs):Cs es a xs:=by
 rcases h with h | h | h | h
 · exact .inl h
 · exact .inr (.inl h)
 · exact .inr (.inr (.inl h))
 · exact .inr (.inr (.inr (.inr (.inl h))))
theorem Hp.pub (H:Hp s0 s n R B) (i:Nat) (h:R[i]? = some r) :
    ∃ a' s',Am.pub s r.a=some (a',s')∧Cs r.es a' r.xs∧Hp s0 s' n (R.set i { r with fr:=false }) B∧s'.nb=s.nb:=by
 rcases H.rows h with hf | ⟨k,v,t,ha,k1,k2,k3,k4,k5,k6,k7⟩
 · refine ⟨r.a,s,?_,hf.told,?_,rfl⟩
   · rcases hf with ⟨h,_⟩ | ⟨h,_⟩ | h | h<;>rw [h]<;>rfl
   · refine { wf:=H.wf,over:=H.over,lo:=H.lo,nb:=H.nb,nt:=H.nt,rows:=fun {j x} hj=>?_,apart:=fun {p q x y m} hne g1 g2 gk=>?_,box:=H.box,bapart:=H.bapart }
     · rcases Cm h hj with ⟨rfl,rfl⟩ | ⟨_,hj⟩
       · exact .inl hf
       · exact H.rows hj
     · rcases Cm h g1 with ⟨e1,e2⟩ | ⟨hn1,g3⟩
       · rw [e2] at gk
         simp only [Eu hf] at gk; cases gk
       · rcases Cm h g2 with ⟨e3,e4⟩ | ⟨hn2,g4⟩
         · rw [e4]; simp only [Eu hf]; simp
         · exact H.apart hne g3 g4 gk
 · refine ⟨.sl r.es r.xs .shut,s.setTok k { t with pub:=max t.pub r.xs.length },?_,.inr (.inr (.inr (.inl rfl))),?_,rfl⟩
   · rw [ha]; simp only [Am.pub,k3,k4,if_true]
   · have:=H.setTok h ha k3 r.xs { t with pub:=max t.pub r.xs.length } v false k4 k5 rfl (fun hh=>by cases hh)
     rw [← ha] at this
     exact this
theorem Hp.pop (H:Hp s0 s n R B) (i:Nat) {es T m:Nat} {a:AV} {xs:List AV} (h:R[i]? = some ⟨es,T,a,xs,true⟩) (hm:m≤xs.length) :
    ∃ a' s',Br s true es a none (some (.i .i64 (m:Int))) none=some (a',s')∧((∃ fr,Hp s0 s' n (R.set i ⟨es,T,a',xs.take m,fr⟩) B∧(Av a≠none→fr=true))∨(Av a=none∧Cs es a' (xs.take m)∧s'=s))∧s'.nb=s.nb:=by
 have hb:Be xs.length none (some (.i .i64 (m:Int)))=some (0,m):=by
  unfold Be
  simp [Bo,hm]
 rcases H.rows h with (⟨h1,h2⟩ | ⟨h1,h2⟩ | h1 | h1) | ⟨k,v,t,ha,k1,k2,k3,k4,k5,k6,k7⟩
 · simp only at h1 h2; subst h1; subst h2
   obtain rfl:m=0:=by simpa using hm
   exact ⟨.nsl,s,rfl,.inr ⟨rfl,.inl ⟨rfl,rfl⟩,rfl⟩,rfl⟩
 · simp only at h1 h2; subst h1; subst h2
   obtain rfl:m=0:=by simpa using hm
   exact ⟨.wz,s,rfl,.inr ⟨rfl,.inr (.inl ⟨rfl,rfl⟩),rfl⟩,rfl⟩
 · simp only at h1; subst h1
   unfold Br
   simp only [if_true,hb,List.drop_zero,Nat.sub_zero]
   by_cases hx:m=xs.length
   · rw [if_pos ⟨trivial,hx⟩]
     exact ⟨_,_,rfl,.inr ⟨rfl,.inr (.inr (.inl (by rw [hx,List.take_length]))),rfl⟩,rfl⟩
   · rw [if_neg (fun hh=>hx hh.2),if_neg hx]
     exact ⟨_,_,rfl,.inr ⟨rfl,.inr (.inr (.inr (.inl rfl))),rfl⟩,rfl⟩
 · simp only at h1; subst h1
   unfold Br
   simp only [if_true,hb,List.drop_zero,Nat.sub_zero]
   by_cases hx:m=xs.length
   · rw [if_pos ⟨trivial,hx⟩]
     exact ⟨_,_,rfl,.inr ⟨rfl,.inr (.inr (.inr (.inr (.inl (by rw [hx,List.take_length]))))),rfl⟩,rfl⟩
   · rw [if_neg (fun hh=>hx hh.2)]
     exact ⟨_,_,rfl,.inr ⟨rfl,.inr (.inr (.inr (.inr (.inr rfl)))),rfl⟩,rfl⟩
 · simp only at ha
   have k7:=k7 rfl
   by_cases hx:m=xs.length
   · refine ⟨a,s,?_,.inl ⟨true,by rw [hx,List.take_length,Lw h]; exact H,fun _=>rfl⟩,rfl⟩
     rw [ha]
     unfold Br
     simp only [if_true,hb]
     rw [if_pos ⟨trivial,hx⟩]
   · refine ⟨.sl es (xs.take m) (.tok k (v+1)),s.setTok k ⟨m,v+1,t.pub,t.ty⟩,?_,.inl ⟨true,H.setTok h ha k3 (xs.take m) ⟨m,v+1,t.pub,t.ty⟩ (v+1) true rfl (by simp only; rw [List.length_take]; omega) rfl (fun _=>k7),fun _=>rfl⟩,rfl⟩
     rw [ha]
     unfold Br
     have hc:(true&&Nat.beq 0 0&&Nat.beq t.front xs.length&&Nat.ble t.pub m)=true:=by rw [k5,k7]; simp
     simp only [if_true,hb,k3,k4,hc,List.drop_zero,Nat.sub_zero]
     rw [if_neg (fun hh=>hx hh.2)]
theorem Hp.thaw (H:Hp s0 s n R B) (i:Nat) {es T:Nat} {a:AV} {xs:List AV} (h:R[i]? = some ⟨es,T,a,xs,true⟩) (ha:Av a≠none) (f:List Nat) (hf:f.Nodup) (hi:i∉f) :
    ∃ s',Hc s a=some (.bl s.nb es 0 xs.length (xs.length*es,false),s')∧Hp s0 s' n (pick R f) ((s.nb,.row T (EU xs) false 0)::B)∧s'.nb=s.nb+1:=by
 rcases H.rows h with hh | ⟨k,v,t,ha,k1,k2,k3,k4,k5,k6,k7⟩
 · exact absurd (Eu hh) ha
 · simp only at ha
   have hk:Av a=some k:=by rw [ha]; rfl
   have k7:=k7 rfl
   refine ⟨(s.killTok k).new (.row T (EU xs) false 0),?_,?_,rfl⟩
   · obtain ⟨fr,ve,pu,ty⟩:=t
     simp only at k4 k5 k6 k7
     subst k4; subst k7; subst k6; subst ha
     simp only [Hc,Mm,k3]
     rw [if_pos ⟨trivial,k5,trivial⟩]
   · have H1:=H.sel f (List.range B.length) hf List.nodup_range
     have htk:∀ j,j≠k→((s.killTok k).new (.row T (EU xs) false 0)).tok? j=s.tok? j:=fun j hj=>by
      simp only [St.tok?,St.killTok,St.new]
      cases hb:j.blt s.nt with
      | true =>
        have hb':j < s.nt:=by rw [Nat.blt_eq] at hb; exact hb
        simp only [cond_true]
        rw [List.getElem?_set_ne (by omega)]
      | false=>rfl
     have hov:Over s0 (s.killTok k):=by
      refine ⟨H.over.nb,H.over.boxes,H.over.nt,?_,H.over.lo⟩
      simp only [St.killTok]
      rw [List.drop_set_of_lt (by omega)]
      exact H.over.toks
     exact {
      wf:=⟨by simp [St.new,St.killTok,H.wf.b],by simp [St.new,St.killTok,H.wf.t]⟩
      over:=hov.new _
      lo:=H.lo
      nb:=Nat.le_succ_of_le H.nb
      nt:=H.nt
      rows:=fun {j x} hj=>by
       obtain ⟨m,i',a1,a2,_⟩:=Dn R f hj
       exact (H.rows a2).mono (Nat.le_refl _) fun q hq=>htk q fun he=>by
        subst he
        exact H.apart (fun he=>hi (by rw [← he]; exact List.mem_of_getElem? a1)) a2 h hq hk
      apart:=H1.apart
      box:=fun {j p} hj=>by
       cases j with
       | zero =>
         simp only [List.getElem?_cons_zero,Option.some.injEq] at hj; subst hj
         exact ⟨AQ (s.killTok k) _,H.over.nb,Nat.lt_succ_self _⟩
       | succ j =>
         obtain ⟨h1,h2,h3⟩:=H.box (i:=j) (by simpa using hj)
         exact ⟨by rw [D3 (s:=s.killTok k) h3]; exact h1,h2,Nat.lt_succ_of_lt h3⟩
      bapart:=(H.new (.row T (EU xs) false 0)).bapart }
theorem Hp.leave {s1:St} {n1:En} {R1:List RA} {B1:List (Nat×Box)} (H:Hp s0 s n R B) (K:Hp s0 s1 ⟨n1.lo,s.nb,s.nt⟩ R1 B1) (v:AV) (hB:∀ {i:Nat} {p:Nat×Box},B1[i]? = some p→p.1 < s.nb) (hl:n1.lo < s.nb∨∀ {i:Nat} {r:RA} {k:Nat},R1[i]? = some r→Av r.a=some k→k < s.nt) :
    Hp s0 (Am.leave s s1 v) n R1 B1:=by
 have hnb:s.nb≤s1.nb:=K.nb
 have hnt:s.nt≤s1.nt:=K.nt
 unfold Am.leave
 split
 · rename_i hc
   simp only [Bool.and_eq_true,Nat.ble_eq] at hc
   have hl:∀ {i:Nat} {r:RA} {k:Nat},R1[i]? = some r→Av r.a=some k→k < s.nt:=by
    rcases hl with hl | hl
    · have:s1.lo≤n1.lo:=K.lo
      omega
    · exact hl
   have h1:=K.over
   have h0:=H.over
   exact {
    wf:=⟨by simp only [List.length_drop]; rw [K.wf.b]; omega,by simp only [List.length_drop]; rw [K.wf.t]; omega⟩
    over:=⟨h0.nb,by
     simp only [List.drop_drop]
     rw [show s1.nb - s.nb+(s.nb - s0.nb)=s1.nb - s0.nb by have:=h0.nb; omega]
     exact h1.boxes,h0.nt,by
     simp only [List.drop_drop]
     rw [show s1.nt - s.nt+(s.nt - s0.nt)=s1.nt - s0.nt by have:=h0.nt; omega]
     exact h1.toks,h0.lo⟩
    lo:=H.lo
    nb:=H.nb
    nt:=H.nt
    rows:=fun {i r} hr=>by
     rcases K.rows hr with hh | ⟨k,w,t,ha,k1,k2,k3,k4⟩
     · exact .inl hh
     · have hk:=hl hr (by rw [ha]; rfl:Av r.a=some k)
       exact .inr ⟨k,w,t,ha,k1,hk,by rw [MI K.wf hnt hk]; exact k3,k4⟩
    apart:=K.apart
    box:=fun {i p} hp=>by
     obtain ⟨h1,h2,h3⟩:=K.box hp
     exact ⟨by rw [MH K.wf hnb (hB hp)]; exact h1,h2,hB hp⟩
    bapart:=K.bapart }
 · refine { wf:=K.wf.lo _,over:=K.over.setLo ?_,lo:=by have:=H.lo; simp only; omega,nb:=by have:=H.nb; simp only; omega,nt:=by have:=H.nt; simp only; omega,rows:=fun hr=>(K.rows hr).mono (Nat.le_refl _) fun _ _=>rfl,apart:=K.apart,box:=K.box,bapart:=K.bapart }
   have:=H.over.lo
   have:=K.over.lo
   omega
theorem Hp.leaveR {s1:St} {n1:En} {R1:List RA} {B1:List (Nat×Box)} (H:Hp s0 s n R B) (K:Hp s0 s1 ⟨n1.lo,s.nb,s.nt⟩ R1 B1) {v:AV} (hv:v.refs=true):Hp s0 (Am.leave s s1 v) n R1 B1:=by
 have hnb:s.nb≤s1.nb:=K.nb
 have hnt:s.nt≤s1.nt:=K.nt
 unfold Am.leave
 rw [hv]
 simp only [Bool.not_true,Bool.and_false,Bool.false_eq_true,if_false]
 refine { wf:=K.wf.lo _,over:=K.over.setLo ?_,lo:=by have:=H.lo; simp only; omega,nb:=by have:=H.nb; simp only; omega,nt:=by have:=H.nt; simp only; omega,rows:=fun hr=>(K.rows hr).mono (Nat.le_refl _) fun _ _=>rfl,apart:=K.apart,box:=K.box,bapart:=K.bapart }
 have:=H.over.lo
 have:=K.over.lo
 omega
theorem Cs.cells {es:Nat} {a:AV} {xs:List AV} (h:Cs es a xs):a.cells=[a]∧ones [a]=true∧Av a=none:=by
 rcases h with ⟨rfl,_⟩ | ⟨rfl,_⟩ | rfl | rfl | rfl | rfl<;>exact ⟨rfl,rfl,rfl⟩
theorem Cs.ones {es:Nat} {a:AV} {xs:List AV} (h:Cs es a xs) (l:List AV):Am.ones (a::l)=Am.ones l:=by
 rcases h with ⟨rfl,_⟩ | ⟨rfl,_⟩ | rfl | rfl | rfl | rfl<;>rfl
theorem RowH.ones {t0:Nat} (h:RowH t0 s r) (l:List AV):Am.ones (r.a::l)=Am.ones l:=by
 rcases h with (⟨h,_⟩ | ⟨h,_⟩ | h | h) | ⟨k',v,t,h,_⟩<;>rw [h]<;>rfl
theorem Hp.rcells (H:Hp s0 s n R B) (i:Nat) {es T:Nat} {a:AV} {xs:List AV} {fr:Bool} (h:R[i]? = some ⟨es,T,a,xs,fr⟩):a.cells=[a]∧Am.ones [a]=true∧∀ l,Am.ones (a::l)=Am.ones l :=
 ⟨(H.rows h).cells.1,(H.rows h).cells.2,fun l=>(H.rows h).ones l⟩
theorem Cs.pub {es:Nat} {a:AV} {xs:List AV} (h:Cs es a xs) (s:St):Am.pub s a=some (a,s):=by
 rcases h with ⟨rfl,_⟩ | ⟨rfl,_⟩ | rfl | rfl | rfl | rfl<;>rfl
theorem Cs.frz {es:Nat} {a:AV} {xs:List AV} (h:Cs es a xs) (s:St):Am.frz s a=some (a,s):=by
 rcases h with ⟨rfl,_⟩ | ⟨rfl,_⟩ | rfl | rfl | rfl | rfl<;>rfl
theorem Cs.pubA {es:Nat} {a:AV} {xs:List AV} (h:Cs es a xs) (s:St):Am.pubA s a=some (a,s):=by
 rcases h with ⟨rfl,_⟩ | ⟨rfl,_⟩ | rfl | rfl | rfl | rfl<;>rfl
theorem Cs.elems {es:Nat} {a:AV} {xs:List AV} (h:Cs es a xs) (s:St):Am.elems s es a=some xs:=by
 rcases h with ⟨rfl,rfl⟩ | ⟨rfl,rfl⟩ | rfl | rfl | rfl | rfl<;>simp [Am.elems,St.ok]
theorem Cs.noTok {es:Nat} {a:AV} {xs:List AV} (h:Cs es a xs):noTok a=true:=by
 rcases h with ⟨rfl,rfl⟩ | ⟨rfl,rfl⟩ | rfl | rfl | rfl | rfl<;>rfl
theorem Cs.refs {es:Nat} {a:AV} {xs:List AV} (h:Cs es a xs) (hx:AV.refs.go xs=false):a.refs=false:=by
 rcases h with ⟨rfl,rfl⟩ | ⟨rfl,rfl⟩ | rfl | rfl | rfl | rfl<;>first | rfl | exact hx
theorem Cs.len {es:Nat} {a:AV} {xs:List AV} (h:Cs es a xs) (s:St):lenA s 1 a=some (.i .i64 (xs.length:Nat)):=by
 rcases h with ⟨rfl,rfl⟩ | ⟨rfl,rfl⟩ | rfl | rfl | rfl | rfl<;>rfl
theorem Cs.ws {f:Bool} {es:Nat} {xs:List AV}:Cs es (.ws f es xs) xs:=by
 cases f
 · exact .inr (.inr (.inr (.inr (.inr rfl))))
 · exact .inr (.inr (.inr (.inr (.inl rfl))))
theorem Cs.wk {es:Nat} {a:AV} {xs:List AV} (h:Cs es a xs) {c:CT} (hc:wkM c xs=xs):wk (.sl es c) a=.ws false es xs:=by
 have hb:Nat.beq es es=true:=by simp
 rcases h with ⟨rfl,rfl⟩ | ⟨rfl,rfl⟩ | rfl | rfl | rfl | rfl<;>simp [Am.wk,hc]
theorem Gb:∀ L:List (List Nat),wkM .id (L.map AV.s)=L.map .s
 | []=>by simp only [List.map_nil,wkM]
 | x::L=>by
   simp only [List.map_cons,wkM,Gb L,List.cons.injEq,and_true]
   rw [Am.wk]
theorem Dp:∀ L:List (List Nat),AV.refs.go (L.map AV.s)=false
 | []=>rfl
 | x::L=>by
   simp only [List.map_cons,AV.refs.go,Dp L]
   rfl
theorem Hp.ldr (H:Hp s0 s n R B) (i:Nat) {id T off rm:Nat} {fz:Bool} {cs:List AV} {v:AV} (h:B[i]? = some (id,.row T cs fz rm)) (hc:cs[off]? = some v):ldA s false 1 (.p id off)=some v:=by
 have:=(H.box h).1
 simp only at this
 have hcut:cut cs off 1=some [v]:=by
  unfold cut
  have:(cs.drop off).take 1=[v]:=by
   rw [List.take_one,List.head?_drop,hc]; rfl
  simp [this]
 simp only [ldA,St.cells?,this,hcut,scal]
theorem Hp.sort (H:Hp s0 s n R B) (i:Nat) {id T rm:Nat} {M:List (List Nat)} (h:B[i]? = some (id,.row T (M.map .s) false rm)) (hM:M.length < 4611686018427387904) (p:Nat×Bool) :
    ∃ s',E6 [.bl id 1 0 M.length p] s=some (.tup [],s')∧Hp s0 s' n R (B.set i (id,.row T ((ED M).map .s) false rm))∧s'.nb=s.nb:=by
 have hb:=(H.box h).1
 simp only at hb
 refine ⟨_,?_,H.setBox h _,rfl⟩
 simp only [E6,hb,Jm]
 rw [if_pos ⟨trivial,hM⟩]
theorem Hp.compact (H:Hp s0 s n R B) (i:Nat) {id T rm:Nat} {M:List (List Nat)} (h:B[i]? = some (id,.row T (M.map .s) false rm)) (hM:M.length < 4611686018427387904) (hle:(ER M).length≤M.length) (p:Nat×Bool) :
    ∃ s',Cn [.bl id 1 0 M.length p] s=some (.bl id 1 0 (ER M).length p,s')∧Hp s0 s' n R (B.set i (id,.row T ((ER M++List.replicate (M.length - (ER M).length) []).map .s) false rm))∧s'.nb=s.nb:=by
 have hb:=(H.box h).1
 simp only at hb
 refine ⟨_,?_,H.setBox h _,rfl⟩
 simp only [Cn,hb,Jm]
 rw [if_pos ⟨trivial,by omega,hle⟩]
def Sm (lo:Nat) (e e':Tr):Prop:=∀ t,t < lo→e'.get t=e.get t
theorem Sm.refl (lo:Nat) (e:Tr):Sm lo e e:=fun _ _=>rfl
theorem Sm.put {lo:Nat} {e e':Tr} (h:Sm lo e e') {d:Nat} {v:AV} (h1:lo≤d) (h2:d < 1000):Sm lo e (e'.set 10 d v):=fun t ht=>by
 rw [IW e' d v t h2,if_neg (by omega),h t ht]
theorem Sm.get {lo:Nat} {e e':Tr} (h:Sm lo e e') {t:Nat} (ht:t < lo):e'.get t=e.get t:=h t ht
end
theorem KZ {α:Type} (f:α→AV) (h:∀ x,NI (f x)=false):∀ l:List α,(l.map f).any NI=false
 | []=>rfl
 | x::l=>by rw [List.map_cons,List.any_cons,h x,KZ f h l]; rfl
theorem Ou {s s':St} {r a:AV} (h:Am.pub s r=some (a,s')) {es:Nat} {xs:List AV} (ht:Cs es a xs) (hx:xs.any NI=false):LN false s r=some (a,s'):=by
 cases r with
 | agg l =>
   have:Am.pub s (.agg l)=some (.agg l,s):=rfl
   rw [this] at h
   cases h
   rcases ht with ⟨h,_⟩ | ⟨h,_⟩ | h | h | h | h<;>cases h
 | sl e ys m =>
   cases m with
   | tok k v =>
     have ha:a=.sl e ys .shut:=by
      simp only [Am.pub] at h
      split at h<;>try (cases h; done)
      split at h<;>cases h
      rfl
     have hy:ys=xs:=by
      subst ha
      rcases ht with ⟨h,_⟩ | ⟨h,_⟩ | h | h | h | h<;>cases h
      rfl
     subst hy
     simp only [LN,h]
     rw [if_neg (by rw [hx]; simp)]
   | full=>exact h
   | shut=>exact h
 | _=>exact h
end Go.Proofs.Ytfpoihibfajhlaa.Am

namespace Go.Proofs.Ytfpoihibfajhlaa.Am
section
variable {σ:Self} {e:Tr} {s:St} {Q:Ex→Tr→St→Prop}
def WE (σ:Self) (l:List Op) (e:Tr) (s:St) (tr:List St) (Q:List St→Tr→St→Prop):Prop:=match BB σ l e s with
 | some r=>match FN r with
   | some (e',s')=>Q (tr++r.map (·.2)) e' s'
   | none=>False
 | none=>False
def KE (σ:Self) (d:Option Nat) (l:List Op) (e:Tr) (tr:List St) (Q:List St→Tr→St→Prop):AV→St→Prop:=fun v s=>WE σ l (put e d v) s tr Q
def RJ (l:List Op) (ts:List Nat):Bool:=l.all fun o=>match o.dst with
 | some d=>!ts.contains d
 | none=>true
def ssaB (ops:List Op) (wins:List (Nat×Nat×Nat)):Bool:=wins.all fun w=>match ops[w.1]? with
 | some o=>RJ (ops.drop w.1) o.reads
 | none=>false
def RK (self:Self) (e:Tr) (op:AOp) (v:AV):Option St→Bool
 | some s=>BF e s op&&(match evOp self e s op with
   | some (v',_)=>beqA v v'
   | none=>false)
 | none=>false
def chkS (self:Self) (ops:List Op) (tr:List St) (e:Tr):List (Nat×Nat×Nat)→Bool
 | []=>true
 | (i,lo,hi)::l=>(match ops[i]?,tr[i]? with
   | some o,some s=>!BE e o.guard||(match evOp self e s o.op with
     | some (v,_)=>(List.range' lo (hi+1 - lo)).all fun k=>RK self e o.op v tr[k]?
     | none=>false)
   | _,_=>false)&&chkS self ops tr e l
theorem WE_nil {Q:List St→Tr→St→Prop} (tr:List St):WE σ [] e s tr Q↔Q (tr++[s]) e s:=Iff.rfl
theorem OA {Q:List St→Tr→St→Prop} (o:Op) (l:List Op) (tr:List St) :
    WE σ (o::l) e s tr Q↔(match evD1 σ o e s with | some (e1,s1)=>WE σ l e1 s1 (tr++[s]) Q | none=>False):=by
 unfold WE
 simp only [BB]
 cases h:evD1 σ o e s with
 | none=>exact Iff.rfl
 | some r =>
   obtain ⟨e1,s1⟩:=r
   simp only
   cases ht:BB σ l e1 s1 with
   | none=>exact Iff.rfl
   | some r =>
     simp only [GD (Gt ht),List.append_assoc,List.cons_append,List.nil_append,List.map_cons]
theorem OB {Q:List St→Tr→St→Prop} (d:Option Nat) (op:AOp) (l:List Op) (tr:List St) :
    WE σ (⟨d,op,none⟩::l) e s tr Q↔(Nat.beq op.cls 2||BF e s op)=true∧WS (evOp σ e s op) (KE σ d l e (tr++[s]) Q):=by
 rw [OA]
 unfold WS KE
 simp only [evD1,BE,if_true]
 by_cases hq:(Nat.beq op.cls 2||BF e s op)=true
 · rw [if_pos hq]
   simp only [hq,true_and]
   cases evOp σ e s op<;>exact Iff.rfl
 · rw [if_neg hq]
   simp [hq]
theorem AO {Q:List St→Tr→St→Prop} (d:Option Nat) (op:AOp) (l:List Op) (tr:List St) (t:Nat) (w:Bool) :
    WE σ (⟨d,op,some (t,w)⟩::l) e s tr Q↔CP (Hf (e.get t) w) ((Nat.beq op.cls 2||BF e s op)=true∧WS (evOp σ e s op) (KE σ d l e (tr++[s]) Q)) (WE σ l (put e d undef) s (tr++[s]) Q):=by
 rw [← Jt,OA]
 unfold WS KE
 simp only [evD1]
 by_cases hw:BE e (some (t,w))=true
 · rw [if_pos hw,if_pos hw]
   by_cases hq:(Nat.beq op.cls 2||BF e s op)=true
   · rw [if_pos hq]
     simp only [hq,true_and]
     cases evOp σ e s op<;>exact Iff.rfl
   · rw [if_neg hq]
     simp [hq]
 · rw [if_neg hw,if_neg hw]
theorem KE_ap (d:Option Nat) (l:List Op) (e0:Tr) (tr:List St) (Q:List St→Tr→St→Prop) (v:AV):KE σ d l e0 tr Q v s↔WE σ l (put e0 d v) s tr Q:=Iff.rfl
@[congr] theorem WE_congr {l:List Op} {e e':Tr} {s s':St} {tr tr':List St} {Q:List St→Tr→St→Prop} (h1:e=e') (h2:s=s') (h3:tr=tr'):WE σ l e s tr Q=WE σ l e' s' tr' Q:=by rw [h1,h2,h3]
@[congr] theorem KE_congr {d:Option Nat} {l:List Op} {e0 e0':Tr} {tr tr':List St} {Q:List St→Tr→St→Prop} {v v':AV} {s s':St} (h0:e0=e0') (h1:v=v') (h2:s=s') (h3:tr=tr'):KE σ d l e0 tr Q v s=KE σ d l e0' tr' Q v' s':=by rw [h0,h1,h2,h3]
def KW (σ:Self) (ops:List Op) (wins:List (Nat×Nat×Nat)) (Q:Ex→Tr→St→Prop):List St→Tr→St→Prop:=fun tr e s=>chkS σ ops tr e wins=true∧Q .n e s
@[congr] theorem KW_congr {ops:List Op} {w:List (Nat×Nat×Nat)} {tr tr':List St} {e e':Tr} {s s':St} (h1:tr=tr') (h2:e=e') (h3:s=s'):KW σ ops w Q tr e s=KW σ ops w Q tr' e' s':=by rw [h1,h2,h3]
theorem RL {e:Tr} {d:Option Nat} {v:AV} {t:Nat} (ht:t < 1000) (hd:∀ x,d=some x→x < 1000∧x≠t):(put e d v).get t=e.get t:=by
 cases d with
 | none=>rfl
 | some x =>
   obtain ⟨h1,h2⟩:=hd x rfl
   rw [BU,IW e x v t h1,if_neg (fun h=>h2 h.symm)]
def Gu (ops:List Op):Bool:=ops.all fun o=>(match o.dst with | some d=>Nat.blt d 1000 | none=>true)&&o.reads.all (Nat.blt · 1000)
theorem JL : ∀ {l:List Op} {e:Tr} {s:St} {r:List (Tr×St)} {e':Tr} {s':St},Gu l=true→BB σ l e s=some r→FN r=some (e',s')→∀ {ts:List Nat},RJ l ts=true→∀ t∈ts,t < 1000→e'.get t=e.get t
 | [],e,s,r,e',s',_,h,hl,ts,hs,t,ht,h1=>by
   simp only [BB,Option.some.injEq] at h; subst h
   simp only [FN,Option.some.injEq,Prod.mk.injEq] at hl
   rw [hl.1]
 | o :: l, e,s,r,e',s',hm,h,hl,ts,hs,t,ht,h1=>by
   simp only [BB] at h
   cases hd:evD1 σ o e s with
   | none=>rw [hd] at h; cases h
   | some x =>
     obtain ⟨e1,s1⟩:=x
     rw [hd] at h
     simp only at h
     cases hr:BB σ l e1 s1 with
     | none=>rw [hr] at h; cases h
     | some r1 =>
       rw [hr] at h
       simp only [Option.some.injEq] at h
       subst h
       rw [GD (Gt hr)] at hl
       simp only [RJ,List.all_cons,Bool.and_eq_true] at hs
       simp only [Gu,List.all_cons,Bool.and_eq_true] at hm
       have h2:=JL (l:=l) hm.2 hr hl (ts:=ts) hs.2 t ht h1
       rw [h2]
       have hput:∀ v,(put e o.dst v).get t=e.get t:=fun v=>RL h1 fun x hx=>by
        have a1:=hs.1
        have a2:=hm.1.1
        rw [hx] at a1 a2
        simp only [Bool.not_eq_true',List.contains_eq_mem,decide_eq_false_iff_not] at a1
        simp only [Nat.blt_eq] at a2
        exact ⟨a2,fun he=>a1 (he ▸ ht)⟩
       unfold evD1 at hd
       split at hd
       · split at hd
         · split at hd
           · cases hd; exact hput _
           · cases hd
         · cases hd
       · cases hd; exact hput _
theorem Kx:∀ {l:List Op} {e:Tr} {s:St} {r:List (Tr×St)} (i:Nat) {ei:Tr} {si:St},BB σ l e s=some r→r[i]? = some (ei,si)→∃ r',BB σ (l.drop i) ei si=some r'∧FN r'=FN r
 | l, e, s,r,0,ei,si,h,hi=>by
   refine ⟨r,?_,rfl⟩
   cases l with
   | nil =>
     simp only [BB,Option.some.injEq] at h; subst h
     simp only [List.getElem?_cons_zero,Option.some.injEq,Prod.mk.injEq] at hi
     rw [← hi.1,← hi.2]; rfl
   | cons o l =>
     have h':=h
     simp only [BB] at h
     cases hd:evD1 σ o e s with
     | none=>rw [hd] at h; cases h
     | some x =>
       rw [hd] at h
       simp only at h
       cases hr:BB σ l x.1 x.2 with
       | none=>rw [hr] at h; cases h
       | some r1 =>
         rw [hr] at h
         simp only [Option.some.injEq] at h
         subst h
         simp only [List.getElem?_cons_zero,Option.some.injEq,Prod.mk.injEq] at hi
         rw [← hi.1,← hi.2]
         exact h'
 | [],e,s,r,i+1,ei,si,h,hi=>by
   simp only [BB,Option.some.injEq] at h; subst h
   simp at hi
 | o :: l,e,s,r,i+1,ei,si,h,hi=>by
   simp only [BB] at h
   cases hd:evD1 σ o e s with
   | none=>rw [hd] at h; cases h
   | some x =>
     rw [hd] at h
     simp only at h
     cases hr:BB σ l x.1 x.2 with
     | none=>rw [hr] at h; cases h
     | some r1 =>
       rw [hr] at h
       simp only [Option.some.injEq] at h
       subst h
       rw [GD (Gt hr),List.drop_succ_cons]
       exact Kx i hr (by simpa using hi)
theorem PZ {ops:List Op} (hm:Gu ops=true) {i:Nat} {o:Op} (h:ops[i]? = some o):∀ t∈o.reads,t < 1000:=by
 simp only [Gu,List.all_eq_true,Bool.and_eq_true,Nat.blt_eq] at hm
 exact (hm o (List.mem_of_getElem? h)).2
theorem Lh {ops:List Op} (hm:Gu ops=true) (i:Nat):Gu (ops.drop i)=true:=by
 simp only [Gu,List.all_eq_true] at hm ⊢
 exact fun o ho=>hm o (List.mem_of_mem_drop ho)
theorem Li {e e2:Tr} {g:Option (Nat×Bool)} (h:∀ t w,g=some (t,w)→e.get t=e2.get t):BE e g=BE e2 g:=by
 cases g with
 | none=>rfl
 | some p=>obtain ⟨t,w⟩:=p; simp only [BE,h t w rfl]
theorem P7 {l:List Op} {r:List (Tr×St)} {e':Tr} {s':St} (hm:Gu l=true) (ht:BB σ l e s=some r) (hl:FN r=some (e',s')) :
    ∀ w:List (Nat×Nat×Nat),ssaB l w=true→chkS σ l (r.map (·.2)) e' w=true→chkD σ l r w=true
 | [],_,_=>rfl
 | (i, lo, hi)::w,hs,hc=>by
   simp only [ssaB,List.all_cons,Bool.and_eq_true] at hs
   simp only [chkS,Bool.and_eq_true] at hc
   simp only [chkD,Bool.and_eq_true]
   refine ⟨?_,P7 hm ht hl w hs.2 hc.2⟩
   have h1:=hs.1
   have h2:=hc.1
   cases ho:l[i]? with
   | none=>rw [ho] at h1; cases h1
   | some o =>
     rw [ho] at h1 h2
     simp only at h1 h2
     cases hr:r[i]? with
     | none=>rw [List.getElem?_map,hr] at h2; cases h2
     | some p =>
       obtain ⟨ei,si⟩:=p
       rw [List.getElem?_map,hr] at h2
       simp only [Option.map_some] at h2
       obtain ⟨r',k1,k2⟩:=Kx i ht hr
       have hst:∀ t∈o.reads,e'.get t=ei.get t:=fun t hh=>JL (Lh hm i) k1 (by rw [k2]; exact hl) h1 t hh (PZ hm ho t hh)
       have hop:∀ t∈o.op.tmps,e'.get t=ei.get t:=fun t hh=>hst t (by
        unfold Op.reads
        split
        · exact hh
        · exact List.mem_cons_of_mem _ hh)
       have hw:BE e' o.guard=BE ei o.guard:=Li fun t w hg=>hst t (by unfold Op.reads; rw [hg]; exact List.mem_cons_self)
       rw [hw,F7 (self:=σ) (s:=si) hop] at h2
       simp only
       cases hwn:BE ei o.guard with
       | false=>rfl
       | true =>
         rw [hwn] at h2
         simp only [Bool.not_true,Bool.false_or] at h2 ⊢
         cases hv:evOp σ ei si o.op with
         | none=>rw [hv] at h2; cases h2
         | some x =>
           rw [hv] at h2
           simp only [List.all_eq_true] at h2 ⊢
           intro k hk
           have:=h2 k hk
           rw [List.getElem?_map] at this
           cases hrk:r[k]? with
           | none=>rw [hrk] at this; cases this
           | some p =>
             rw [hrk] at this
             simp only [Option.map_some,RK] at this
             simp only [sameAt]
             rw [LP hop,F7 hop] at this
             exact this
theorem Ij {l:List Op} {w:List (Nat×Nat×Nat)} (hs:(Gu l&&ssaB l w)=true) (h:WE σ l e s [] (KW σ l w Q)):W σ (.regD l w) e s Q:=by
 rw [Bool.and_eq_true] at hs
 rw [Aa]
 unfold WE KW at h
 unfold WD KC
 cases ht:BB σ l e s with
 | none=>rw [ht] at h; exact h
 | some r =>
   rw [ht] at h
   simp only at h ⊢
   cases hl:FN r with
   | none=>rw [hl] at h; exact h
   | some x =>
     obtain ⟨e',s'⟩:=x
     rw [hl] at h
     simp only [List.nil_append] at h ⊢
     exact ⟨P7 hs.1 ht hl w hs.2 h.1,h.2⟩
def Pa (tr:List St) (agg:Bool) (n:Nat) (a v:AV):List Nat→Prop
 | []=>True
 | k::ks=>(∃ q,tr[k]? = some q∧ldA q agg n a=some v)∧Pa tr agg n a v ks
theorem Ky {tr:List St} {agg:Bool} {n:Nat} {a v:AV}:∀ {ks:List Nat},Pa tr agg n a v ks→∀ k∈ks,∃ q,tr[k]? = some q∧ldA q agg n a=some v
 | k::ks,h,j,hj=>by
   rcases List.mem_cons.1 hj with rfl | hj
   · exact h.1
   · exact Ky h.2 j hj
def still:AV→Bool
 | .agg l=>l.all noTok&&(match pubL noSt l with | some (l',_)=>Et l l' | none=>false)&&Et l l
 | v=>beqA v v
theorem OC:∀ {l:List AV},l.all noTok=true→∀ s,pubL s l=some (l,s)
 | [],_,s=>rfl
 | a::l,h,s=>by
   simp only [List.all_cons,Bool.and_eq_true] at h
   have h1:pub s a=some (a,s):=by
    have:=h.1
    cases a with
    | sl e x m=>cases m<;>first | rfl | cases this
    | ep l o m=>cases m<;>first | rfl | cases this
    | sd=>cases this
    | _=>rfl
   simp only [pubL,h1,OC h.2 s]
theorem P8 {ops:List Op} {tr:List St} {l:List (Nat×Nat×Nat)} {i lo hi:Nat} {d:Option Nat} {agg:Bool} {n:Nat} {x:X} {a v:AV} {g:Option (Nat×Bool)} (ho:ops[i]? = some ⟨d,.ld agg n x,g⟩) (ha:x.ev e=a) (hb:still v=true)
    (h:Pa tr agg n a v (i::List.range' lo (hi+1 - lo))) (h2:KW σ ops l Q tr e s):KW σ ops ((i,lo,hi)::l) Q tr e s:=by
 refine ⟨?_,h2.2⟩
 obtain ⟨⟨q,h3,h4⟩,h5⟩:=h
 subst ha
 simp only [chkS,Bool.and_eq_true,ho,h3]
 refine ⟨?_,h2.1⟩
 have key:∀ q',ldA q' agg n (x.ev e)=some v→BF e q' (.ld agg n x)=true∧∃ w,evOp σ e q' (.ld agg n x)=some (w,q')∧w=v∧beqA v v=true:=fun q' hq=>by
  simp only [BF,evOp,hq]
  cases v with
  | agg cs =>
    simp only [still,Bool.and_eq_true] at hb
    simp only [OC hb.1.1 q']
    refine ⟨hb.1.1,_,rfl,rfl,?_⟩
    simp only [beqA]
    exact hb.2
  | _=>exact ⟨rfl,_,rfl,rfl,hb⟩
 obtain ⟨_,w,k2,rfl,_⟩:=key q h4
 simp only [k2,Bool.or_eq_true,List.all_eq_true]
 refine .inr fun k hk=>?_
 obtain ⟨q',h6,h7⟩:=Ky h5 k hk
 obtain ⟨g1,w',g2,rfl,g4⟩:=key q' h7
 simp only [RK,h6,g1,g2,g4,Bool.and_self]
theorem Kz {ops:List Op} {tr:List St} {l:List (Nat×Nat×Nat)} {i lo hi:Nat} {d:Option Nat} {agg:Bool} {n:Nat} {x:X} {a v:AV} (ho:ops[i]? = some ⟨d,.ld agg n x,none⟩) (ha:x.ev e=a) (hb:still v=true)
    (h:Pa tr agg n a v (i::List.range' lo (hi+1 - lo))) (h2:KW σ ops l Q tr e s):KW σ ops ((i,lo,hi)::l) Q tr e s:=P8 ho ha hb h h2
theorem K0:∀ l:List Nat,beqN l l=true
 | []=>rfl
 | a::l=>by simp only [beqN,K0 l,Nat.beq_eq_true_eq,Bool.and_self]; simp
theorem Lj (k:IntKind) (n:Int):still (.i k n)=true:=by simp [still,beqA]
theorem Ik {ops:List Op} {tr:List St} (h:Q .n e s):KW σ ops [] Q tr e s:=⟨rfl,h⟩
def WQ (σ:Self) (l:List Op) (e:Tr) (s:St) (Q:Tr→St→Prop):Prop:=match BB σ l e s with
 | some r=>match FN r with
   | some (e',s')=>Q e' s'
   | none=>False
 | none=>False
def KQ (σ:Self) (d:Option Nat) (l:List Op) (e:Tr) (Q:Tr→St→Prop):AV→St→Prop:=fun v s=>WQ σ l (put e d v) s Q
theorem WQ_nil {Q:Tr→St→Prop}:WQ σ [] e s Q↔Q e s:=Iff.rfl
theorem RM {Q:Tr→St→Prop} (d:Option Nat) (op:AOp) (l:List Op) :
    WQ σ (⟨d,op,none⟩::l) e s Q↔(Nat.beq op.cls 2||BF e s op)=true∧WS (evOp σ e s op) (KQ σ d l e Q):=OB (Q:=fun _=>Q) d op l []
theorem AP {Q:Tr→St→Prop} (d:Option Nat) (op:AOp) (l:List Op) (t:Nat) (w:Bool) :
    WQ σ (⟨d,op,some (t,w)⟩::l) e s Q↔CP (Hf (e.get t) w) ((Nat.beq op.cls 2||BF e s op)=true∧WS (evOp σ e s op) (KQ σ d l e Q)) (WQ σ l (put e d undef) s Q):=AO (Q:=fun _=>Q) d op l [] t w
theorem KQ_ap (d:Option Nat) (l:List Op) (e0:Tr) (Q:Tr→St→Prop) (v:AV):KQ σ d l e0 Q v s↔WQ σ l (put e0 d v) s Q:=Iff.rfl
@[congr] theorem WQ_congr {l:List Op} {e e':Tr} {s s':St} {Q:Tr→St→Prop} (h1:e=e') (h2:s=s'):WQ σ l e s Q=WQ σ l e' s' Q:=by rw [h1,h2]
@[congr] theorem KQ_congr {d:Option Nat} {l:List Op} {e0 e0':Tr} {Q:Tr→St→Prop} {v v':AV} {s s':St} (h0:e0=e0') (h1:v=v') (h2:s=s'):KQ σ d l e0 Q v s=KQ σ d l e0' Q v' s':=by rw [h0,h1,h2]
theorem W_regQ (l:List Op):W σ (.regD l []) e s Q↔WQ σ l e s (KN Q):=by
 rw [Aa]
 unfold WD WQ KC KN
 cases BB σ l e s with
 | none=>exact Iff.rfl
 | some r =>
   simp only
   cases FN r with
   | none=>exact Iff.rfl
   | some x=>simp [chkD]
end
end Go.Proofs.Ytfpoihibfajhlaa.Am

namespace Go.Proofs.Ytfpoihibfajhlaa.Am
theorem P3 (l:List AV):(AV.agg l).cells=l:=rfl
theorem cl_s (l:List Nat):(AV.s l).cells=[.s l]:=rfl
theorem cl_i (k:IntKind) (n:Int):(AV.i k n).cells=[.i k n]:=rfl
theorem cl_b (b:Bool):(AV.b b).cells=[.b b]:=rfl
theorem cl_p (i o:Nat):(AV.p i o).cells=[.p i o]:=rfl
theorem cl_np:AV.np.cells=[.np]:=rfl
theorem cl_nsl:AV.nsl.cells=[.nsl]:=rfl
theorem cl_ws (f:Bool) (e:Nat) (l:List AV):(AV.ws f e l).cells=[.ws f e l]:=rfl
theorem cl_sl (e:Nat) (l:List AV) (m:Cap):(AV.sl e l m).cells=[.sl e l m]:=rfl
theorem cl_fn (f:Nat) (l:List AV):(AV.fn f l).cells=[.fn f l]:=rfl
theorem ln0:([]:List AV).length=0:=rfl
theorem ln1 (a:AV):[a].length=1:=rfl
theorem ln2 (a b:AV):[a,b].length=2:=rfl
theorem ln3 (a b c:AV):[a,b,c].length=3:=rfl
theorem ln4 (a b c d:AV):[a,b,c,d].length=4:=rfl
theorem ln5 (a b c d e:AV):[a,b,c,d,e].length=5:=rfl
theorem ln6 (a b c d e f:AV):[a,b,c,d,e,f].length=6:=rfl
theorem ov2_0 (a b x:AV):over [a,b] 0 [x]=some [x,b]:=rfl
theorem ov2_1 (a b x:AV):over [a,b] 1 [x]=some [a,x]:=rfl
theorem ov3_0 (a b c x:AV):over [a,b,c] 0 [x]=some [x,b,c]:=rfl
theorem ov3_1 (a b c x:AV):over [a,b,c] 1 [x]=some [a,x,c]:=rfl
theorem ov3_2 (a b c x:AV):over [a,b,c] 2 [x]=some [a,b,x]:=rfl
theorem ov4_0 (a b c d x:AV):over [a,b,c,d] 0 [x]=some [x,b,c,d]:=rfl
theorem ov4_1 (a b c d x:AV):over [a,b,c,d] 1 [x]=some [a,x,c,d]:=rfl
theorem ov4_2 (a b c d x:AV):over [a,b,c,d] 2 [x]=some [a,b,x,d]:=rfl
theorem ov4_3 (a b c d x:AV):over [a,b,c,d] 3 [x]=some [a,b,c,x]:=rfl
theorem nt_i (k:IntKind) (n:Int):noTok (.i k n)=true:=rfl
theorem nt_s (l:List Nat):noTok (.s l)=true:=rfl
theorem nt_b (b:Bool):noTok (.b b)=true:=rfl
theorem nt_p (a b:Nat):noTok (.p a b)=true:=rfl
theorem nt_np:noTok .np=true:=rfl
theorem nt_nsl:noTok .nsl=true:=rfl
theorem nt_wz:noTok .wz=true:=rfl
theorem nt_ws (f:Bool) (n:Nat) (l:List AV):noTok (.ws f n l)=true:=rfl
theorem Qn (n:Nat) (l:List AV):noTok (.sl n l .full)=true:=rfl
theorem Qo (n:Nat) (l:List AV):noTok (.sl n l .shut)=true:=rfl
theorem nt_agg (l:List AV):noTok (.agg l)=true:=rfl
theorem nt_fn (f:Nat) (l:List AV):noTok (.fn f l)=true:=rfl
theorem nt_bl (a b c d:Nat) (x:Nat×Bool):noTok (.bl a b c d x)=true:=rfl
theorem nt_nf:noTok .nf=true:=rfl
theorem nt_ni:noTok .ni=true:=rfl
theorem nt_nm:noTok .nm=true:=rfl
theorem nt_m (i:Nat):noTok (.m i)=true:=rfl
theorem nt_ifc (t:Nat) (v:AV):noTok (.ifc t v)=true:=rfl
theorem Qp (s:St):pub s .wz=some (.wz,s):=rfl
theorem Qq (s:St):pub s .nf=some (.nf,s):=rfl
theorem Qr (s:St):pub s .ni=some (.ni,s):=rfl
theorem Qs (s:St):pub s .nm=some (.nm,s):=rfl
theorem pubC_m (s:St) (i:Nat):pub s (.m i)=some (.m i,s):=rfl
theorem PE (s:St) (t:Nat) (v:AV):pub s (.ifc t v)=some (.ifc t v,s):=rfl
theorem PF (s:St) (l:List AV):pub s (.tup l)=some (.tup l,s):=rfl
theorem Eg:∀ L:List (List Nat),Et (L.map AV.s) (L.map AV.s)=true
 | []=>rfl
 | a::l=>by simp only [List.map_cons,Et,beqA,K0 a,Eg l,Bool.and_self]
theorem Hp.still {s0 s:St} {n:En} {R:List RA} {B:List (Nat×Box)} (H:Hp s0 s n R B) (i:Nat) {es T:Nat} {a:AV} {xs:List AV} {fr:Bool} (h:R[i]? = some ⟨es,T,a,xs,fr⟩) (hx:Et xs xs=true):still a=true:=by
 rcases H.rows h with (⟨h,_⟩ | ⟨h,_⟩ | h | h) | ⟨k',v,t,h,_⟩<;>simp only at h<;>subst h<;>simp [Am.still,beqA,hx]
def ldR (s:St):Option AV→Option (AV×St)
 | some (.agg l)=>match pubL s l with
   | some (l,s)=>some (.agg l,s)
   | none=>none
 | some v=>some (v,s)
 | none=>none
def ldQ:Option AV→Bool
 | some (.agg l)=>l.all noTok
 | _=>true
theorem Qt (σ:Self) (e:Tr) (s:St) (g:Bool) (n:Nat) (x:X):evOp σ e s (.ld g n x)=ldR s (ldA s g n (x.ev e)):=rfl
theorem PG (e:Tr) (s:St) (g:Bool) (n:Nat) (x:X):BF e s (.ld g n x)=ldQ (ldA s g n (x.ev e)):=rfl
theorem Qu (s:St) (l:List AV):ldR s (some (.agg l))=(match pubL s l with
    | some (l,s)=>some (.agg l,s)
    | none=>none):=rfl
theorem Qv (l:List AV):ldQ (some (.agg l))=l.all noTok:=rfl
theorem ldR_i (s:St) (k:IntKind) (n:Int):ldR s (some (.i k n))=some (.i k n,s):=rfl
theorem ldR_s (s:St) (l:List Nat):ldR s (some (.s l))=some (.s l,s):=rfl
theorem ldR_b (s:St) (b:Bool):ldR s (some (.b b))=some (.b b,s):=rfl
theorem ldR_p (s:St) (i o:Nat):ldR s (some (.p i o))=some (.p i o,s):=rfl
theorem ldR_np (s:St):ldR s (some .np)=some (.np,s):=rfl
theorem Qw (s:St):ldR s (some .nsl)=some (.nsl,s):=rfl
theorem ldR_ws (s:St) (f:Bool) (e:Nat) (l:List AV):ldR s (some (.ws f e l))=some (.ws f e l,s):=rfl
theorem ldR_sl (s:St) (e:Nat) (l:List AV) (m:Cap):ldR s (some (.sl e l m))=some (.sl e l m,s):=rfl
theorem ldR_bl (s:St) (a b c d:Nat) (x:Nat×Bool):ldR s (some (.bl a b c d x))=some (.bl a b c d x,s):=rfl
theorem ldR_fn (s:St) (f:Nat) (l:List AV):ldR s (some (.fn f l))=some (.fn f l,s):=rfl
theorem Qx (s:St) (f:Nat):ldR s (some (.yld f))=some (.yld f,s):=rfl
theorem ldR_m (s:St) (i:Nat):ldR s (some (.m i))=some (.m i,s):=rfl
theorem ldR_nm (s:St):ldR s (some .nm)=some (.nm,s):=rfl
theorem ldR_ni (s:St):ldR s (some .ni)=some (.ni,s):=rfl
theorem ldR_nf (s:St):ldR s (some .nf)=some (.nf,s):=rfl
theorem Qy (s:St) (t:Nat) (v:AV):ldR s (some (.ifc t v))=some (.ifc t v,s):=rfl
theorem ldQ_i (k:IntKind) (n:Int):ldQ (some (.i k n))=true:=rfl
theorem ldQ_s (l:List Nat):ldQ (some (.s l))=true:=rfl
theorem ldQ_b (b:Bool):ldQ (some (.b b))=true:=rfl
theorem ldQ_p (i o:Nat):ldQ (some (.p i o))=true:=rfl
theorem ldQ_np:ldQ (some .np)=true:=rfl
theorem Qz:ldQ (some .nsl)=true:=rfl
theorem ldQ_ws (f:Bool) (e:Nat) (l:List AV):ldQ (some (.ws f e l))=true:=rfl
theorem ldQ_sl (e:Nat) (l:List AV) (m:Cap):ldQ (some (.sl e l m))=true:=rfl
theorem ldQ_bl (a b c d:Nat) (x:Nat×Bool):ldQ (some (.bl a b c d x))=true:=rfl
theorem ldQ_fn (f:Nat) (l:List AV):ldQ (some (.fn f l))=true:=rfl
theorem Q0 (f:Nat):ldQ (some (.yld f))=true:=rfl
theorem ldQ_m (i:Nat):ldQ (some (.m i))=true:=rfl
theorem ldQ_nm:ldQ (some .nm)=true:=rfl
theorem ldQ_ni:ldQ (some .ni)=true:=rfl
theorem ldQ_nf:ldQ (some .nf)=true:=rfl
theorem Q1 (t:Nat) (v:AV):ldQ (some (.ifc t v))=true:=rfl
theorem PH:ldQ none=true:=rfl
theorem RowH.ld {t0:Nat} {s:St} {r:RA} (h:RowH t0 s r):(∀ q,ldR q (some r.a)=some (r.a,q))∧ldQ (some r.a)=true:=by
 rcases h with (⟨h,_⟩ | ⟨h,_⟩ | h | h) | ⟨k',v,t,h,_⟩<;>rw [h]<;>exact ⟨fun _=>rfl,rfl⟩
theorem Hp.rld {s0 s:St} {n:En} {R:List RA} {B:List (Nat×Box)} (H:Hp s0 s n R B) (i:Nat) {es T:Nat} {a:AV} {xs:List AV} {fr:Bool} (h:R[i]? = some ⟨es,T,a,xs,fr⟩):(∀ q,ldR q (some a)=some (a,q))∧ldQ (some a)=true:=(H.rows h).ld
theorem Cs.ld {es:Nat} {a:AV} {xs:List AV} (h:Cs es a xs):(∀ q,ldR q (some a)=some (a,q))∧ldQ (some a)=true:=by
 rcases h with ⟨rfl,_⟩ | ⟨rfl,_⟩ | rfl | rfl | rfl | rfl<;>exact ⟨fun _=>rfl,rfl⟩
theorem PI (s:St):([]:List St)++[s]=[s]:=rfl
theorem Ny (a:St) (l:List St) (s:St):(a::l)++[s]=a::(l++[s]):=rfl
theorem pubA_i (s:St) (k:IntKind) (n:Int):pubA s (.i k n)=some (.i k n,s):=rfl
theorem frz_i (s:St) (k:IntKind) (n:Int):frz s (.i k n)=some (.i k n,s):=rfl
theorem pubA_s (s:St) (l:List Nat):pubA s (.s l)=some (.s l,s):=rfl
theorem frz_s (s:St) (l:List Nat):frz s (.s l)=some (.s l,s):=rfl
theorem pubA_b (s:St) (b:Bool):pubA s (.b b)=some (.b b,s):=rfl
theorem frz_b (s:St) (b:Bool):frz s (.b b)=some (.b b,s):=rfl
theorem pubA_p (s:St) (i o:Nat):pubA s (.p i o)=some (.p i o,s):=rfl
theorem frz_p (s:St) (i o:Nat):frz s (.p i o)=some (.p i o,s):=rfl
theorem Q2 (s:St) :pubA s (.np)=some (.np,s):=rfl
theorem frz_np (s:St) :frz s (.np)=some (.np,s):=rfl
theorem PJ (s:St) :pubA s (.nsl)=some (.nsl,s):=rfl
theorem Q3 (s:St) :frz s (.nsl)=some (.nsl,s):=rfl
theorem Q4 (s:St) :pubA s (.wz)=some (.wz,s):=rfl
theorem frz_wz (s:St) :frz s (.wz)=some (.wz,s):=rfl
theorem Q5 (s:St) (f:Bool) (e:Nat) (l:List AV):pubA s (.ws f e l)=some (.ws f e l,s):=rfl
theorem frz_ws (s:St) (f:Bool) (e:Nat) (l:List AV):frz s (.ws f e l)=some (.ws f e l,s):=rfl
theorem Nz (s:St) (e:Nat) (l:List AV):pubA s (.sl e l .full)=some (.sl e l .full,s):=rfl
theorem PK (s:St) (e:Nat) (l:List AV):frz s (.sl e l .full)=some (.sl e l .full,s):=rfl
theorem N0 (s:St) (e:Nat) (l:List AV):pubA s (.sl e l .shut)=some (.sl e l .shut,s):=rfl
theorem PL (s:St) (e:Nat) (l:List AV):frz s (.sl e l .shut)=some (.sl e l .shut,s):=rfl
theorem Q6 (s:St) (f:Nat) (l:List AV):pubA s (.fn f l)=some (.fn f l,s):=rfl
theorem frz_fn (s:St) (f:Nat) (l:List AV):frz s (.fn f l)=some (.fn f l,s):=rfl
theorem PM (s:St) (t:Nat) (v:AV):pubA s (.ifc t v)=some (.ifc t v,s):=rfl
theorem Q7 (s:St) (t:Nat) (v:AV):frz s (.ifc t v)=some (.ifc t v,s):=rfl
theorem Q8 (s:St) :pubA s (.ni)=some (.ni,s):=rfl
theorem frz_ni (s:St) :frz s (.ni)=some (.ni,s):=rfl
theorem Q9 (s:St) :pubA s (.nf)=some (.nf,s):=rfl
theorem frz_nf (s:St) :frz s (.nf)=some (.nf,s):=rfl
theorem RC (s:St) :pubA s (.nm)=some (.nm,s):=rfl
theorem frz_nm (s:St) :frz s (.nm)=some (.nm,s):=rfl
theorem pubA_m (s:St) (i:Nat):pubA s (.m i)=some (.m i,s):=rfl
theorem frz_m (s:St) (i:Nat):frz s (.m i)=some (.m i,s):=rfl
theorem RD (s:St) (l:List AV):frz s (.agg l)=some (.agg l,s):=rfl
theorem PN (s:St) (l:List AV):pubA s (.agg l)=(match frzL s l with
    | some (l,s)=>some (.agg l,s)
    | none=>none):=rfl
theorem wv_u0:Hf undef false=.b false:=rfl
theorem wv_u1:Hf undef true=.b false:=rfl
def CC (v:AV) (σ:Self) (a b:C) (e:Tr) (s:St) (Q:Ex→Tr→St→Prop):Prop:=CP v (W σ a e s Q) (W σ b e s Q)
@[congr] theorem CC_congr {v v':AV} {σ:Self} {a b:C} {e:Tr} {s:St} {Q:Ex→Tr→St→Prop} (h:v=v'):CC v σ a b e s Q=CC v' σ a b e s Q:=by rw [h]
theorem AI {σ:Self} {e:Tr} {s:St} {Q:Ex→Tr→St→Prop} (c:X) (a b:C):W σ (.cond c a b) e s Q↔CC (c.ev e) σ a b e s Q:=Ab c a b
theorem CC_t (σ:Self) (a b:C) (e:Tr) (s:St) (Q:Ex→Tr→St→Prop):CC (.b true) σ a b e s Q↔W σ a e s Q:=Iff.rfl
theorem CC_f (σ:Self) (a b:C) (e:Tr) (s:St) (Q:Ex→Tr→St→Prop):CC (.b false) σ a b e s Q↔W σ b e s Q:=Iff.rfl
def CG (v:AV) (w:Bool) (σ:Self) (d:Option Nat) (op:AOp) (l:List Op) (e:Tr) (s:St) (R:Tr→St→Prop):Prop:=CP (Hf v w) (WS (evOp σ e s op) (KO σ d l e R)) (WO σ l (put e d undef) s R)
@[congr] theorem CG_congr {v v':AV} {w:Bool} {σ:Self} {d:Option Nat} {op:AOp} {l:List Op} {e:Tr} {s:St} {R:Tr→St→Prop} (h:v=v'):CG v w σ d op l e s R=CG v' w σ d op l e s R:=by rw [h]
theorem AB {σ:Self} {e:Tr} {s:St} {R:Tr→St→Prop} (d:Option Nat) (op:AOp) (l:List Op) (t:Nat) (w:Bool):WO σ (⟨d,op,some (t,w)⟩::l) e s R↔CG (e.get t) w σ d op l e s R:=AK d op l t w
section
variable (σ:Self) (d:Option Nat) (op:AOp) (l:List Op) (e:Tr) (s:St)
theorem CG_tt (R:Tr→St→Prop):CG (.b true) true σ d op l e s R↔WS (evOp σ e s op) (KO σ d l e R):=Iff.rfl
theorem CG_ff (R:Tr→St→Prop):CG (.b false) false σ d op l e s R↔WS (evOp σ e s op) (KO σ d l e R):=Iff.rfl
theorem CG_tf (R:Tr→St→Prop):CG (.b true) false σ d op l e s R↔WO σ l (put e d undef) s R:=Iff.rfl
theorem CG_ft (R:Tr→St→Prop):CG (.b false) true σ d op l e s R↔WO σ l (put e d undef) s R:=Iff.rfl
theorem CG_u (w:Bool) (R:Tr→St→Prop):CG undef w σ d op l e s R↔WO σ l (put e d undef) s R:=Iff.rfl
end
def CQ (v:AV) (w:Bool) (σ:Self) (d:Option Nat) (op:AOp) (l:List Op) (e:Tr) (s:St) (Q:Tr→St→Prop):Prop:=CP (Hf v w) ((Nat.beq op.cls 2||BF e s op)=true∧WS (evOp σ e s op) (KQ σ d l e Q)) (WQ σ l (put e d undef) s Q)
@[congr] theorem CQ_congr {v v':AV} {w:Bool} {σ:Self} {d:Option Nat} {op:AOp} {l:List Op} {e:Tr} {s:St} {R:Tr→St→Prop} (h:v=v'):CQ v w σ d op l e s R=CQ v' w σ d op l e s R:=by rw [h]
theorem AC {σ:Self} {e:Tr} {s:St} {R:Tr→St→Prop} (d:Option Nat) (op:AOp) (l:List Op) (t:Nat) (w:Bool):WQ σ (⟨d,op,some (t,w)⟩::l) e s R↔CQ (e.get t) w σ d op l e s R:=AP d op l t w
def CE (v:AV) (w:Bool) (σ:Self) (d:Option Nat) (op:AOp) (l:List Op) (e:Tr) (s:St) (tr:List St) (Q:List St→Tr→St→Prop):Prop:=CP (Hf v w) ((Nat.beq op.cls 2||BF e s op)=true∧WS (evOp σ e s op) (KE σ d l e (tr++[s]) Q)) (WE σ l (put e d undef) s (tr++[s]) Q)
@[congr] theorem CE_congr {v v':AV} {w:Bool} {σ:Self} {d:Option Nat} {op:AOp} {l:List Op} {e:Tr} {s:St} {tr:List St} {R:List St→Tr→St→Prop} (h:v=v'):CE v w σ d op l e s tr R=CE v' w σ d op l e s tr R:=by rw [h]
theorem AD {σ:Self} {e:Tr} {s:St} {tr:List St} {R:List St→Tr→St→Prop} (d:Option Nat) (op:AOp) (l:List Op) (t:Nat) (w:Bool):WE σ (⟨d,op,some (t,w)⟩::l) e s tr R↔CE (e.get t) w σ d op l e s tr R:=AO d op l tr t w
section
variable (σ:Self) (d:Option Nat) (op:AOp) (l:List Op) (e:Tr) (s:St) (tr:List St)
theorem CQ_tt (R:Tr→St→Prop):CQ (.b true) true σ d op l e s R↔(Nat.beq op.cls 2||BF e s op)=true∧WS (evOp σ e s op) (KQ σ d l e R):=Iff.rfl
theorem CQ_ff (R:Tr→St→Prop):CQ (.b false) false σ d op l e s R↔(Nat.beq op.cls 2||BF e s op)=true∧WS (evOp σ e s op) (KQ σ d l e R):=Iff.rfl
theorem CQ_tf (R:Tr→St→Prop):CQ (.b true) false σ d op l e s R↔WQ σ l (put e d undef) s R:=Iff.rfl
theorem CQ_ft (R:Tr→St→Prop):CQ (.b false) true σ d op l e s R↔WQ σ l (put e d undef) s R:=Iff.rfl
theorem CQ_u (w:Bool) (R:Tr→St→Prop):CQ undef w σ d op l e s R↔WQ σ l (put e d undef) s R:=Iff.rfl
theorem CE_tt (R:List St→Tr→St→Prop):CE (.b true) true σ d op l e s tr R↔(Nat.beq op.cls 2||BF e s op)=true∧WS (evOp σ e s op) (KE σ d l e (tr++[s]) R):=Iff.rfl
theorem CE_ff (R:List St→Tr→St→Prop):CE (.b false) false σ d op l e s tr R↔(Nat.beq op.cls 2||BF e s op)=true∧WS (evOp σ e s op) (KE σ d l e (tr++[s]) R):=Iff.rfl
theorem CE_tf (R:List St→Tr→St→Prop):CE (.b true) false σ d op l e s tr R↔WE σ l (put e d undef) s (tr++[s]) R:=Iff.rfl
theorem CE_ft (R:List St→Tr→St→Prop):CE (.b false) true σ d op l e s tr R↔WE σ l (put e d undef) s (tr++[s]) R:=Iff.rfl
theorem CE_u (w:Bool) (R:List St→Tr→St→Prop):CE undef w σ d op l e s tr R↔WE σ l (put e d undef) s (tr++[s]) R:=Iff.rfl
end
theorem lnA_s (s:St) (l:List Nat):lenA s 0 (.s l)=some (.i .i64 (Int.ofNat l.length)):=rfl
theorem RE (s:St):lenA s 1 .nsl=some (.i .i64 0):=rfl
theorem lnA_wz (s:St):lenA s 1 .wz=some (.i .i64 0):=rfl
theorem lnA_sl (s:St) (e:Nat) (l:List AV) (m:Cap):lenA s 1 (.sl e l m)=some (.i .i64 (Int.ofNat l.length)):=rfl
theorem lnA_ws (s:St) (f:Bool) (e:Nat) (l:List AV):lenA s 1 (.ws f e l)=some (.i .i64 (Int.ofNat l.length)):=rfl
theorem lnA_bl (s:St) (a b c n:Nat) (x:Nat×Bool):lenA s 1 (.bl a b c n x)=some (.i .i64 (Int.ofNat n)):=rfl
theorem lnA_nm (s:St):lenA s 2 .nm=some (.i .i64 0):=rfl
theorem ov5_0 (a0 a1 a2 a3 a4 x:AV):over [a0,a1,a2,a3,a4] 0 [x]=some [x,a1,a2,a3,a4]:=rfl
theorem ov5_1 (a0 a1 a2 a3 a4 x:AV):over [a0,a1,a2,a3,a4] 1 [x]=some [a0,x,a2,a3,a4]:=rfl
theorem ov5_2 (a0 a1 a2 a3 a4 x:AV):over [a0,a1,a2,a3,a4] 2 [x]=some [a0,a1,x,a3,a4]:=rfl
theorem ov5_3 (a0 a1 a2 a3 a4 x:AV):over [a0,a1,a2,a3,a4] 3 [x]=some [a0,a1,a2,x,a4]:=rfl
theorem ov5_4 (a0 a1 a2 a3 a4 x:AV):over [a0,a1,a2,a3,a4] 4 [x]=some [a0,a1,a2,a3,x]:=rfl
theorem ov6_0 (a0 a1 a2 a3 a4 a5 x:AV):over [a0,a1,a2,a3,a4,a5] 0 [x]=some [x,a1,a2,a3,a4,a5]:=rfl
theorem ov6_1 (a0 a1 a2 a3 a4 a5 x:AV):over [a0,a1,a2,a3,a4,a5] 1 [x]=some [a0,x,a2,a3,a4,a5]:=rfl
theorem ov6_2 (a0 a1 a2 a3 a4 a5 x:AV):over [a0,a1,a2,a3,a4,a5] 2 [x]=some [a0,a1,x,a3,a4,a5]:=rfl
theorem ov6_3 (a0 a1 a2 a3 a4 a5 x:AV):over [a0,a1,a2,a3,a4,a5] 3 [x]=some [a0,a1,a2,x,a4,a5]:=rfl
theorem ov6_4 (a0 a1 a2 a3 a4 a5 x:AV):over [a0,a1,a2,a3,a4,a5] 4 [x]=some [a0,a1,a2,a3,x,a5]:=rfl
theorem ov6_5 (a0 a1 a2 a3 a4 a5 x:AV):over [a0,a1,a2,a3,a4,a5] 5 [x]=some [a0,a1,a2,a3,a4,x]:=rfl
theorem ov7_0 (a0 a1 a2 a3 a4 a5 a6 x:AV):over [a0,a1,a2,a3,a4,a5,a6] 0 [x]=some [x,a1,a2,a3,a4,a5,a6]:=rfl
theorem ov7_1 (a0 a1 a2 a3 a4 a5 a6 x:AV):over [a0,a1,a2,a3,a4,a5,a6] 1 [x]=some [a0,x,a2,a3,a4,a5,a6]:=rfl
theorem ov7_2 (a0 a1 a2 a3 a4 a5 a6 x:AV):over [a0,a1,a2,a3,a4,a5,a6] 2 [x]=some [a0,a1,x,a3,a4,a5,a6]:=rfl
theorem ov7_3 (a0 a1 a2 a3 a4 a5 a6 x:AV):over [a0,a1,a2,a3,a4,a5,a6] 3 [x]=some [a0,a1,a2,x,a4,a5,a6]:=rfl
theorem ov7_4 (a0 a1 a2 a3 a4 a5 a6 x:AV):over [a0,a1,a2,a3,a4,a5,a6] 4 [x]=some [a0,a1,a2,a3,x,a5,a6]:=rfl
theorem ov7_5 (a0 a1 a2 a3 a4 a5 a6 x:AV):over [a0,a1,a2,a3,a4,a5,a6] 5 [x]=some [a0,a1,a2,a3,a4,x,a6]:=rfl
theorem ov7_6 (a0 a1 a2 a3 a4 a5 a6 x:AV):over [a0,a1,a2,a3,a4,a5,a6] 6 [x]=some [a0,a1,a2,a3,a4,a5,x]:=rfl
theorem cl_ifc (t:Nat) (v:AV):(AV.ifc t v).cells=[.ifc t v]:=rfl
theorem cl_wz:AV.wz.cells=[.wz]:=rfl
theorem cl_ni:AV.ni.cells=[.ni]:=rfl
theorem cl_nf:AV.nf.cells=[.nf]:=rfl
theorem cl_nm:AV.nm.cells=[.nm]:=rfl
theorem cl_m (i:Nat):(AV.m i).cells=[.m i]:=rfl
theorem eqI_fn (t:Nat) (v:AV):eqI (.ifc t v) .ni=some false:=rfl
theorem eqI_nn:eqI .ni .ni=some true:=rfl
theorem RF (n:Nat):Int.ofNat n=(n:Int):=rfl
attribute [go_sem] BR FV FU FW DM DN FT DP CA CI Fa Fb Fc Fd Bool.not_true Bool.not_false DR CH BG CB CD KS_n KS_x KS_r KB_r FR FS FX DQ KF_n KF_r KG_n KG_r KL_n KL_x KL_r CF Bj evX X.ev optX BU Bi Bk FY FZ if_true if_false C8 C9 DA DB DC DD DE DF DG DH DI DJ Am.unOp ret1 pubL B7 wkZ wk BE Cc Af AOp.cls Nat.beq_eq Bool.or_eq_true decide_true decide_false beq_self_eq_true Bool.true_or Bool.or_true true_and and_true eqv eqB eqP scal AQ List.getElem?_cons_zero List.getElem?_cons_succ DK DL Dm updM FO FP FQ Ch B9 Bool.xor_true Bool.xor_false Bool.false_eq_true List.all_cons List.all_nil Bool.and_self Bool.and_true Bool.true_and PB pubC_s P0 pubC_b pubC_p Qi PC Nr Ns Nt Qj or_true false_or CC_t CC_f CG_tt CG_ff CG_tf CG_ft CG_u CQ_tt CQ_ff CQ_tf CQ_ft CQ_u CE_tt CE_ff CE_tf CE_ft CE_u wv_u0 wv_u1 PN RD frzL pubA_i pubA_s pubA_b pubA_p Q2 PJ Q4 Q5 Nz N0 Q6 PM Q8 Q9 RC pubA_m frz_i frz_s frz_b frz_p frz_np Q3 frz_wz frz_ws PK PL frz_fn Q7 frz_ni frz_nf frz_nm frz_m PI Ny Qt PG PH Qu ldR_i ldR_s ldR_b ldR_p ldR_np Qw ldR_ws ldR_sl ldR_bl ldR_fn Qx ldR_m ldR_nm ldR_ni ldR_nf Qy Qv ldQ_i ldQ_s ldQ_b ldQ_p ldQ_np Qz ldQ_ws ldQ_sl ldQ_bl ldQ_fn Q0 ldQ_m ldQ_nm ldQ_ni ldQ_nf Q1 evOp.eq_1 evOp.eq_2 evOp.eq_3 evOp.eq_4 evOp.eq_5 evOp.eq_6 evOp.eq_7 evOp.eq_9 evOp.eq_10 evOp.eq_11 evOp.eq_12 evOp.eq_13 evOp.eq_14 evOp.eq_15 evOp.eq_16 evOp.eq_17 evOp.eq_18 evOp.eq_19 evOp.eq_20 evOp.eq_21 evOp.eq_22 evOp.eq_23 evOp.eq_24 evOp.eq_25 evOp.eq_26 evOp.eq_27 evOp.eq_28 evOp.eq_29 evOp.eq_30 evOp.eq_31 evOp.eq_32 evOp.eq_33 evOp.eq_34 evOp.eq_35 evOp.eq_36 evOp.eq_37 evOp.eq_38 evOp.eq_39 evOp.eq_40 evOp.eq_41 evOp.eq_42 evOp.eq_43 evOp.eq_44 evOp.eq_45 evOp.eq_46 evOp.eq_47 evOp.eq_48 evOp.eq_49 evOp.eq_50 evOp.eq_51 evOp.eq_52 evOp.eq_53 evOp.eq_54 evOp.eq_55 evOp.eq_56 evOp.eq_57 evOp.eq_58 evOp.eq_59 evOp.eq_60 evOp.eq_61 evOp.eq_62 BF.eq_2 BF.eq_3 BF.eq_4 BF.eq_5 BF.eq_6 BF.eq_7 nt_i nt_s nt_b nt_p nt_np nt_nsl nt_wz nt_ws Qn Qo nt_agg nt_fn nt_bl nt_nf nt_ni nt_nm nt_m nt_ifc Qd Qp Qq Qr Qs pubC_m PE PF WE_nil OB KE_ap WQ_nil RM KQ_ap W_regQ ov2_0 ov2_1 ov3_0 ov3_1 ov3_2 ov4_0 ov4_1 ov4_2 ov4_3 Cj P3 cl_s cl_i cl_b cl_p cl_np cl_nsl cl_ws cl_sl cl_fn ln0 ln1 ln2 ln3 ln4 ln5 ln6 lnA_s RE lnA_wz lnA_sl lnA_ws lnA_bl lnA_nm ov5_0 ov5_1 ov5_2 ov5_3 ov5_4 ov6_0 ov6_1 ov6_2 ov6_3 ov6_4 ov6_5 ov7_0 ov7_1 ov7_2 ov7_3 ov7_4 ov7_5 ov7_6 cl_ifc cl_wz cl_ni cl_nf cl_nm cl_m eqI_fn eqI_nn W_thw RF KK_n KK_r BR Oe
end Go.Proofs.Ytfpoihibfajhlaa.Am

namespace Go.Proofs.Ytfpoihibfajhlaa.Am
open Go.ChangeShapes Go.WideShapes
section
variable {P:Program} {W:World} {H:Type} {enc:TypeId×Value→H}
def lsOf (s:ByteArray):List Nat:=s.data.toList.map UInt8.toNat
theorem PA (s:ByteArray):(lsOf s).length=s.size:=by rw [lsOf,List.length_map]; rfl
theorem Nl (s:ByteArray):∀ n∈lsOf s,n < 256:=by
 intro n hn
 simp only [lsOf,List.mem_map] at hn
 obtain ⟨a,_,rfl⟩:=hn
 exact UInt8.toNat_lt a
theorem Mv (s:ByteArray):AL (lsOf s)=s:=by
 cases s with
 | mk d=>simp [AL,lsOf,Function.comp_def]
theorem V_str (g:G) (s:St) (w:World) (x:ByteArray):V g s w (.s (lsOf x)) (.string x):=by
 simp only [V]
 exact ⟨by rw [Mv],Nl x⟩
structure Txt (l:List Nat):Prop where
 lt:∀ n∈l,n < 256
 len:l.length < 2^63
theorem txt_of {x:ByteArray} (h:x.size≤maxLen):Txt (lsOf x):=⟨Nl x,by rw [PA]; simp only [maxLen] at h; omega⟩
end
end Go.Proofs.Ytfpoihibfajhlaa.Am

namespace Go.Proofs.Ytfpoihibfajhlaa.Am
open Go.ChangeShapes Go.WideShapes
def mkV (P:Program) (t:Nat) (l:List AV):AV:=match P.underlying t with
 | some (.struct _)=>.agg l
 | _=>l.headD undef
mutual
inductive Typed (P:Program):Nat→List AV→Prop
 | bool {t:Nat} {x:Bool}:P.underlying t=some .bool→Typed P t [.b x]
 | int {t:Nat} {k:IntKind} {n:Int}:P.underlying t=some (.int k)→(Lit.int k n).wf=true→Typed P t [.i k n]
 | str {t:Nat} {l:List Nat}:P.underlying t=some .string→Txt l→Typed P t [.s l]
 | slice {t e:Nat} {ls:List (List AV)}:P.underlying t=some (.slice e)→ls.length < 2^63→(∀ l∈ls,Typed P e l)→Typed P t [.ws false (P.cellsOf e) (ls.map (mkV P e))]
 | struct {t:Nat} {fs:Array Field} {l:List AV}:P.underlying t=some (.struct fs)→TypedF P fs.toList l→Typed P t l
inductive TypedF (P:Program):List Field→List AV→Prop
 | nil:TypedF P [] []
 | cons {f:Field} {r:List Field} {a b:List AV}:Typed P f.type a→TypedF P r b→TypedF P (f::r) (a++b)
end
def PU (P:Program) (tot:Nat):Nat→List Field→Bool
 | off,[]=>Nat.beq off tot
 | off,f::r=>Nat.beq f.offset off&&PU P tot (off+P.cellsOf f.type) r
def Ks (P:Program) (ts:List Nat) (t:Nat):Bool:=match P.underlying t with
 | some .bool=>true
 | some (.int _)=>true
 | some .string=>true
 | some (.slice e)=>ts.contains e&&Nat.ble 1 (P.cellsOf e)
 | some (.struct fs)=>PU P (P.cellsOf t) 0 fs.toList&&fs.toList.all fun f=>ts.contains f.type
 | _=>false
def Lf (P:Program) (ts:List Nat):Bool:=ts.all (Ks P ts)
section
variable {P:Program} {W:World} {H:Type} {enc:TypeId×Value→H}
theorem Ib:∀ {a b:List AV},ones a=true→ones b=true→ones (a++b)=true
 | [],_,_,h=>h
 | x::a,b,h,k=>by
   cases x<;>first | (simp [ones] at h; done) | exact Ib (a:=a) (by simpa only [ones] using h) k
theorem Ic {t:Nat} {l:List AV} (h:Typed P t l):(∃ fs,P.underlying t=some (.struct fs))∨((∀ fs,P.underlying t≠some (.struct fs))∧∃ a,l=[a]∧a.cells=[a]):=by
 cases h with
 | bool h=>exact .inr ⟨(fun fs hh=>by rw [h] at hh; cases hh),_,rfl,rfl⟩
 | int h=>exact .inr ⟨(fun fs hh=>by rw [h] at hh; cases hh),_,rfl,rfl⟩
 | str h=>exact .inr ⟨(fun fs hh=>by rw [h] at hh; cases hh),_,rfl,rfl⟩
 | slice h=>exact .inr ⟨(fun fs hh=>by rw [h] at hh; cases hh),_,rfl,rfl⟩
 | struct h=>exact .inl ⟨_,h⟩
theorem Eh {t:Nat} {fs:Array Field} (h:P.underlying t=some (.struct fs)) (l:List AV):mkV P t l=.agg l:=by unfold mkV; rw [h]
theorem Ie {t:Nat} (h:∀ fs,P.underlying t≠some (.struct fs)) (a:AV):mkV P t [a]=a:=by
 unfold mkV
 split
 · rename_i fs hh; exact absurd hh (h fs)
 · rfl
theorem N6 {t:Nat} {l:List AV} (h:Typed P t l):(mkV P t l).cells=l:=by
 rcases Ic h with ⟨fs,hf⟩ | ⟨hn,a,rfl,hc⟩
 · rw [Eh hf]; rfl
 · rw [Ie hn]; exact hc
/- How many values and letters a value holds. -/
mutual
def szV:AV→Nat
 | .s l=>l.length+1
 | .ws _ _ xs=>szL xs+1
 | .agg l=>szL l+1
 | _=>1
def szL:List AV→Nat
 | []=>0
 | a::l=>szV a+szL l
end
theorem HN:∀ (a b:List AV),szL (a++b)=szL a+szL b
 | [],b=>by simp [szL]
 | x::a,b=>by simp only [List.cons_append,szL,HN a b]; omega
/- .. and what is read. -/
mutual
def blk {H:Type}:DataW H→Nat
 | .lit (.string bytes)=>bytes.length+1
 | .lit _=>1
 | .nil=>1
 | .ptr d=>blk d+1
 | .slice elems spare=>blkL elems+blkL spare+1
 | .agg parts=>blkL parts+1
 | .iface _ d=>blk d+1
 | .map entries=>blkM entries+1
 | .held _=>1
def blkL {H:Type}:List (DataW H)→Nat
 | []=>0
 | d::r=>blk d+blkL r
def blkM {H:Type}:List (Lit×DataW H)→Nat
 | []=>0
 | x::r=>blkE x+blkM r
def blkE {H:Type}:Lit×DataW H→Nat
 | (.string bytes,d)=>bytes.length+blk d+1
 | (_,d)=>blk d+1
end
theorem MT (l:List (DataW H)):blkL l=(l.map blk).sum:=by
 induction l with
 | nil=>simp [blkL]
 | cons d l ih=>simp only [blkL,ih,List.map_cons,List.sum_cons]
theorem Ig {α:Type} (f:α→Nat):∀ l:List α,((List.range l.length).map fun i=>(l[i]?.map f).getD 0).sum=(l.map f).sum
 | []=>rfl
 | a::l=>by
   rw [List.length_cons,List.range_succ_eq_map,List.map_cons,List.map_map,List.sum_cons,List.map_cons,List.sum_cons,← Ig f l]
   simp [Function.comp_def]
def PV (P:Program) (W:World) (t:Nat) (cs:List Value) (B:Nat):Prop:=∃ l,VL (g0 W) s0 W l cs∧Typed P t l∧ones l=true∧szV (mkV P t l)≤B
theorem RI {t:Nat} {l:List AV} (h:Typed P t l):szL l≤szV (mkV P t l):=by
 unfold mkV
 cases h with
 | bool h=>rw [h]; simp [szL]
 | int h=>rw [h]; simp [szL]
 | str h=>rw [h]; simp [szL]
 | slice h=>rw [h]; simp [szL]
 | struct h=>rw [h]; simp only [szV]; omega
theorem mkV_ok {g:G} {s:St} {w:World} {t:Nat} {l:List AV} {cs:List Value} (h:Typed P t l) (hV:VL g s w l cs) (h1:ones l=true):∃ v:Value,V g s w (mkV P t l) v∧v.cells.toList=cs:=by
 rcases Ic h with ⟨fs,hf⟩ | ⟨hn,a,rfl,hc⟩
 · rw [Eh hf]
   exact ⟨.agg cs.toArray,by simp only [V]; exact ⟨cs,hV,rfl⟩,by simp [Value.cells]⟩
 · rw [Ie hn]
   have hV':=hV
   simp only [VL] at hV
   obtain ⟨v,r,rfl,hv,rfl⟩:=hV
   have h2:=B8 hv
   rw [hc] at h2
   simp only [VL] at h2
   obtain ⟨u,r2,h3,h4,rfl⟩:=h2
   have hone:=Ec h1 hV' v (by simp)
   have:v.cells.toList=[v]:=by
    cases v<;>first | rfl | (simp [Value.oneCell'] at hone; done)
   exact ⟨v,hv,this⟩
theorem cells?_get {a:Addr} {n:Nat} {cs:List Value} (h:W.cells? 0 a n=some cs):cs.length=n∧∀ i v,cs[i]? = some v→W.cell? (a.add i)=some v:=by
 unfold World.cells? at h
 rw [if_pos (Nat.zero_le _)] at h
 have hl:cs.length=n:=by simpa using Lib.mapM_length h
 refine ⟨hl,fun i v hi=>?_⟩
 have hlt:i < n:=by have:=(List.getElem?_eq_some_iff.1 hi).1; omega
 obtain ⟨b,hb,hf⟩:=Lib.mapM_at h i i (by simp [hlt])
 rw [hi] at hb; cases hb
 exact hf
theorem Ih {ts:List Nat} {tot:Nat} {cs:List Value} (hcs:cs.length=tot):∀ (fl:List Field) (off:Nat),PU P tot off fl=true →
    ∀ b:Nat→Nat,(∀ i f,fl[i]? = some f→PV P W f.type ((cs.drop f.offset).take (P.cellsOf f.type)) (b i))→∃ l,VL (g0 W) s0 W l (cs.drop off)∧TypedF P fl l∧ones l=true∧szL l≤((List.range fl.length).map b).sum
 | [],off,h,_,_=>by
   have:=Nat.eq_of_beq_eq_true h
   subst this
   refine ⟨[],?_,.nil,rfl,by simp [szL]⟩
   simp only [VL]
   exact List.drop_of_length_le (by omega)
 | f :: r,off,h,b',hr=>by
   simp only [PU,Bool.and_eq_true] at h
   obtain ⟨h1,h2⟩:=h
   have h1:=Nat.eq_of_beq_eq_true h1
   obtain ⟨a,a1,a2,a3,a4⟩:=hr 0 f (by simp)
   obtain ⟨b,b1,b2,b3,b4⟩:=Ih (ts:=ts) hcs r _ h2 (fun i=>b' (i+1)) fun i f' hf'=>hr (i+1) f' (by simpa using hf')
   rw [h1] at a1
   refine ⟨a++b,?_,.cons a2 b2,Ib a3 b3,?_⟩
   rotate_left
   · rw [HN,List.length_cons,List.range_succ_eq_map,List.map_cons,List.map_map,List.sum_cons]
     have:=RI a2
     simp only [Function.comp_def]
     simp only [Nat.succ_eq_add_one] at *
     omega
   have:=Bf a1 b1
   rwa [← List.drop_drop,List.take_append_drop] at this
theorem Kt (a:Addr) (n m:Nat):(a.add n).add m=a.add (n+m):=by
 unfold Addr.add
 by_cases hn:n=0
 · subst hn; simp
 · by_cases hm:m=0
   · subst hm; simp [hn]
   · simp [hn,hm,Nat.add_assoc]
theorem JJ {e:Nat} {a:Addr} (hes:1≤P.cellsOf e) (b:Nat→Nat):∀ len:Nat,(∀ i,i < len→∃ cs,W.cells? 0 (a.add (i*P.cellsOf e)) (P.cellsOf e)=some cs∧PV P W e cs (b i)) →
    ∃ (ls:List (List AV)) (vs:List Value),ls.length=len∧(∀ l∈ls,Typed P e l)∧VL (g0 W) s0 W (ls.map (mkV P e)) vs∧AY (P.cellsOf e) (ls.map (mkV P e))=true ∧
     (flat vs).length=len*P.cellsOf e∧(∀ j v,(flat vs)[j]? = some v→W.cell? (a.add j)=some v)∧szL (ls.map (mkV P e))≤((List.range len).map b).sum
 | 0,_=>⟨[],[],rfl,by simp,by simp [VL],rfl,by simp [flat],by simp [flat],by simp [szL]⟩
 | len + 1,h=>by
   obtain ⟨ls,vs,h1,h2,h3,h4,h5,h6,h7⟩:=JJ hes b len fun i hi=>h i (by omega)
   obtain ⟨cs,c1,l,l1,l2,l3,l4⟩:=h len (by omega)
   obtain ⟨k1,k2⟩:=cells?_get c1
   obtain ⟨v,v1,v2⟩:=mkV_ok l2 l1 l3
   have hll:l.length=P.cellsOf e:=by have:=l1.length; omega
   refine ⟨ls++[l],vs++[v],by simp [h1],?_,?_,?_,?_,?_,by rw [List.map_append,HN,List.range_succ,List.map_append,List.sum_append]; simp only [List.map_cons,List.map_nil,szL,List.sum_cons,List.sum_nil]; omega⟩
   · intro x hx
     rcases List.mem_append.1 hx with hx | hx
     · exact h2 x hx
     · simp only [List.mem_singleton] at hx; subst hx; exact l2
   · rw [List.map_append]
     exact Bf h3 (by simp only [List.map_cons,List.map_nil,VL]; exact ⟨v,[],rfl,v1,rfl⟩)
   · rw [List.map_append]
     refine Cd h4 ?_
     simp only [List.map_cons,List.map_nil,AY,Bool.and_true,Bool.and_eq_true,N6 l2]
     exact ⟨by rw [hll]; exact Nat.beq_refl _,l3⟩
   · rw [EA,List.length_append,h5]
     simp only [flat,List.flatMap_cons,List.flatMap_nil,List.append_nil,v2,k1]
     rw [Nat.add_mul]; omega
   · intro j u hj
     rw [EA] at hj
     by_cases hlt:j < (flat vs).length
     · rw [List.getElem?_append_left hlt] at hj
       exact h6 j u hj
     · rw [List.getElem?_append_right (by omega)] at hj
       simp only [flat,List.flatMap_cons,List.flatMap_nil,List.append_nil,v2] at hj
       have h7:(List.flatMap (fun v:Value=>v.cells.toList) vs).length=len*P.cellsOf e:=h5
       rw [h7] at hj
       have h8:len*P.cellsOf e≤j:=by omega
       have:=k2 _ u hj
       rw [Kt,show len*P.cellsOf e+(j - len*P.cellsOf e)=j by omega] at this
       exact this
theorem HO {ts:List Nat} (hts:Lf P ts=true):∀ (fuel:Nat) (t:Nat) (cs:List Value) (x:DataW H×List MemPlace),ts.contains t=true→DataW.trod enc P W 0 (fun _=>true) true fuel t cs=some x→PV P W t cs (blk x.1)
 | 0,t,cs,x,_,h=>by simp [DataW.trod] at h
 | fuel + 1,t,cs,x,ht,h=>by
   have hrd:Ks P ts t=true:=List.all_eq_true.1 hts t (by simpa using ht)
   unfold Ks at hrd
   split at hrd
   · rename_i hu
     obtain ⟨b,rfl,hx⟩:=DataW.trod_bool hu h
     exact ⟨[.b b],by simp only [VL]; exact ⟨_,_,rfl,by simp only [V],rfl⟩,.bool hu,rfl,by rw [hx]; simp [mkV,hu,szV,blk]⟩
   · rename_i k hu
     obtain ⟨n,rfl,hx,hw⟩:=DataW.trod_int hu h
     exact ⟨[.i k n],by simp only [VL]; exact ⟨_,_,rfl,by simp only [V],rfl⟩,.int hu hw,rfl,by rw [hx]; simp [mkV,hu,szV,blk]⟩
   · rename_i hu
     obtain ⟨s,rfl,hx,hw⟩:=DataW.trod_string hu h
     exact ⟨[.s (lsOf s)],by simp only [VL]; exact ⟨_,_,rfl,V_str _ _ _ s,rfl⟩,.str hu (txt_of hw),rfl,by rw [hx]; simp [mkV,hu,szV,blk,lsOf]⟩
   · rename_i e hu
     simp only [Bool.and_eq_true] at hrd
     have hes:1≤P.cellsOf e:=by simpa using hrd.2
     rcases DataW.trod_slice hu h with ⟨rfl,hx⟩ | ⟨a,len,cap,els,rest,n,hf,rfl,hx,_,hlc,hcm,hel,he,hr,_⟩
     · exact ⟨[.ws false (P.cellsOf e) []],by simp only [VL]; exact ⟨_,_,rfl,IS (by simp only [V]),rfl⟩,Typed.slice (ls:=[]) hu (by simp) (by simp),rfl,by rw [hx]; simp [mkV,hu,szV,szL,blk]⟩
     · obtain rfl:n=fuel:=by omega
       have hread:∀ i,i < len→∃ cs,W.cells? 0 (a.add (i*P.cellsOf e)) (P.cellsOf e)=some cs∧PV P W e cs ((els[i]?.map fun p=>blk p.1).getD 0):=by
        intro i hi
        have:=he i hi
        have hsome:els[i]? = some els[i]:=List.getElem?_eq_getElem (by omega)
        rw [hsome,Option.bind_eq_some_iff] at this
        obtain ⟨cs,c1,c2⟩:=this
        rw [hsome]
        exact ⟨cs,c1,HO hts n e cs _ hrd.1 c2⟩
       obtain ⟨ls,vs,h1,h2,h3,h4,h5,h6,h7⟩:=JJ hes _ len hread
       have hbulk:szV (mkV P t [.ws false (P.cellsOf e) (ls.map (mkV P e))])≤blk x.1:=by
        rw [hx,← hel,Ig (fun p:DataW H×List MemPlace=>blk p.1) els] at *
        simp only [mkV,hu,List.headD_cons,szV,blk,MT,List.map_map,Function.comp_def]
        omega
       have hlen63:len < 2^63:=by simp only [maxLen] at hcm; omega
       refine ⟨[.ws false (P.cellsOf e) (ls.map (mkV P e))],?_,Typed.slice hu (by omega) h2,rfl,hbulk⟩
       simp only [VL]
       refine ⟨_,_,rfl,?_,rfl⟩
       by_cases hc0:cap=0
       · obtain rfl:len=0:=by omega
         have:ls=[]:=List.length_eq_zero_iff.1 h1
         subst this
         subst hc0
         exact MG (by simp only [V]; exact ⟨a,rfl⟩)
       · -- there is a first place
         have hfirst:∃ cs,W.cells? 0 a (P.cellsOf e)=some cs:=by
          by_cases hl0:0 < len
          · obtain ⟨cs,c1,_⟩:=hread 0 hl0
            rw [Nat.zero_mul] at c1
            exact ⟨cs,by simpa [Addr.add] using c1⟩
          · obtain ⟨hr1,hr2⟩:=hr rfl
            have:=hr2 0 (by omega)
            have hsome:rest[0]? = some rest[0]:=List.getElem?_eq_getElem (by omega)
            rw [hsome,Option.bind_eq_some_iff] at this
            obtain ⟨cs,c1,_⟩:=this
            have hl00:len=0:=by omega
            subst hl00
            rw [Nat.add_zero,Nat.zero_mul] at c1
            exact ⟨cs,by simpa [Addr.add] using c1⟩
         obtain ⟨cs,c1⟩:=hfirst
         obtain ⟨k1,k2⟩:=cells?_get c1
         have hcell:W.cell? a=some cs[0]:=by
          have:=k2 0 cs[0] (List.getElem?_eq_getElem (by omega))
          simpa [Addr.add] using this
         obtain ⟨b,o,sp⟩:=a
         have hb:b < W.heap.size∧sp=none:=by
          simp only [World.cell?] at hcell
          split at hcell
          · rename_i hh
            refine ⟨(Array.getElem?_eq_some_iff.1 hh).1,?_⟩
            cases sp with
            | none=>rfl
            | some _=>simp at hcell
          · cases hcell
         obtain ⟨hb,rfl⟩:=hb
         rw [V_ws]
         right; right
         simp only [V]
         refine ⟨b,o,cap,vs,by simp [h1],⟨hes,by simp [h1]; omega⟩,h4,E4.2,fun _=>⟨h3,?_,.inl hb,by simp only [capM,Fv]; simp [h1]; omega⟩⟩
         intro j v hj
         have:=h6 j v hj
         simp only [Addr.add] at this
         by_cases hj0:j=0
         · subst hj0; simpa using this
         · rw [if_neg hj0] at this; exact this
   · rename_i fs hu
     simp only [Bool.and_eq_true] at hrd
     obtain ⟨xs,n,hf,hx0,hlen,hxl,hx⟩:=DataW.trod_struct hu h
     obtain rfl:n=fuel:=by omega
     obtain ⟨l,l1,l2,l3,l4⟩:=Ih (P:=P) (W:=W) (ts:=ts) hlen fs.toList 0 hrd.1 (fun i=>(xs[i]?.map fun p=>blk p.1).getD 0) (fun i f hfi=>by
      have hget:fs[i]? = some f:=by simpa using hfi
      have hi':i < fs.size:=(Array.getElem?_eq_some_iff.1 hget).1
      have:=hx i f hget
      have hsome:xs[i]? = some xs[i]:=List.getElem?_eq_getElem (by omega)
      rw [hsome] at this ⊢
      exact HO hts n f.type _ _ (List.all_eq_true.1 hrd.2 f (List.mem_of_getElem? hfi)) this)
     rw [List.drop_zero] at l1
     refine ⟨l,l1,.struct hu l2,l3,?_⟩
     rw [show fs.toList.length=xs.length by simp [hxl],Ig (fun p:DataW H×List MemPlace=>blk p.1) xs] at l4
     rw [hx0,Eh hu]
     simp only [szV,blk,MT,List.map_map,Function.comp_def]
     omega
   · cases hrd
theorem Ii {ts:List Nat} (hts:Lf P ts=true) {t:TypeId} {v:Value} {d:DataW H} {ps:List MemPlace} {base:Nat} (ht:ts.contains t=true) (hv:Value.okWide P W .any base t v)
    (h:DataW.Trod enc P W 0 (fun _=>true) true t v d ps):∃ l,V (g0 W) s0 W (mkV P t l) v∧Typed P t l∧szV (mkV P t l)≤blk d:=by
 obtain ⟨fuel,hf⟩:=h
 obtain ⟨l,h1,h2,h3,h4⟩:=HO hts fuel t _ _ ht hf
 refine ⟨l,?_,h2,h4⟩
 rcases Ic h2 with ⟨fs,hu⟩ | ⟨hn,a,rfl,hc⟩
 · rw [Eh hu]
   simp only [Value.okWide,hu] at hv
   obtain ⟨cs,rfl,_⟩:=hv
   simp only [V]
   exact ⟨cs.toList,by simpa [Value.cells] using h1,rfl⟩
 · rw [Ie hn]
   simp only [VL] at h1
   obtain ⟨u,r,hcs,hu,rfl⟩:=h1
   have hna:∀ cs,v≠.agg cs:=by
    rintro cs rfl
    have hrd:Ks P ts t=true:=List.all_eq_true.1 hts t (by simpa using ht)
    unfold Ks at hrd
    split at hrd
    · rename_i h0; simp [Value.okWide,Cell.okWide,Cell.ok,h0] at hv
    · rename_i h0; simp [Value.okWide,Cell.okWide,Cell.ok,h0] at hv
    · rename_i h0; simp [Value.okWide,Cell.okWide,Cell.ok,h0] at hv
    · rename_i h0; simp [Value.okWide,Cell.okWide,Cell.ok,h0] at hv
    · rename_i fs h0; exact hn fs h0
    · cases hrd
   have:v.cells.toList=[v]:=by
    cases v<;>first | rfl | (exact absurd rfl (hna _))
   rw [this] at hcs
   cases hcs
   exact hu
end
section inv
variable {P:Program} {t e:Nat} {l:List AV}
theorem N7 {k:IntKind} (hu:P.underlying t=some (.int k)) (h:Typed P t l):∃ n,l=[.i k n]∧(Lit.int k n).wf=true:=by
 cases h with
 | bool h=>rw [hu] at h; cases h
 | int h hw=>rw [hu] at h; cases h; exact ⟨_,rfl,hw⟩
 | str h=>rw [hu] at h; cases h
 | slice h=>rw [hu] at h; cases h
 | struct h=>rw [hu] at h; cases h
theorem Ku (hu:P.underlying t=some .string) (h:Typed P t l):∃ x,l=[.s x]∧Txt x:=by
 cases h with
 | bool h=>rw [hu] at h; cases h
 | int h=>rw [hu] at h; cases h
 | str h ht=>exact ⟨_,rfl,ht⟩
 | slice h=>rw [hu] at h; cases h
 | struct h=>rw [hu] at h; cases h
theorem Lg (hu:P.underlying t=some (.slice e)) (h:Typed P t l):∃ ls:List (List AV),l=[.ws false (P.cellsOf e) (ls.map (mkV P e))]∧ls.length < 2^63∧∀ l∈ls,Typed P e l:=by
 cases h with
 | bool h=>rw [hu] at h; cases h
 | int h=>rw [hu] at h; cases h
 | str h=>rw [hu] at h; cases h
 | slice h h1 h2=>rw [hu] at h; cases h; exact ⟨_,rfl,h1,h2⟩
 | struct h=>rw [hu] at h; cases h
theorem Kv {fs:Array Field} (hu:P.underlying t=some (.struct fs)) (h:Typed P t l):TypedF P fs.toList l:=by
 cases h with
 | bool h=>rw [hu] at h; cases h
 | int h=>rw [hu] at h; cases h
 | str h=>rw [hu] at h; cases h
 | slice h=>rw [hu] at h; cases h
 | struct h h1=>rw [hu] at h; cases h; exact h1
theorem E8 {f:Field} {r:List Field} (h:TypedF P (f::r) l):∃ a b,l=a++b∧Typed P f.type a∧TypedF P r b:=by
 cases h with
 | cons h1 h2=>exact ⟨_,_,rfl,h1,h2⟩
theorem Mz (h:TypedF P [] l):l=[]:=by cases h; rfl
theorem Kw {α:Type} {f:α→AV} {Q:α→Prop} (h:∀ l,Typed P e l→∃ a,mkV P e l=f a∧Q a):∀ ls:List (List AV),(∀ l∈ls,Typed P e l)→∃ L:List α,ls.map (mkV P e)=L.map f∧L.length=ls.length∧∀ a∈L,Q a
 | [],_=>⟨[],rfl,rfl,by simp⟩
 | x::ls,hl=>by
   obtain ⟨a,h1,h2⟩:=h x (hl x (by simp))
   obtain ⟨L,k1,k2,k3⟩:=Kw h ls fun l hm=>hl l (by simp [hm])
   refine ⟨a::L,by simp [h1,k1],by simp [k2],fun b hb=>?_⟩
   rcases List.mem_cons.1 hb with rfl | hb
   · exact h2
   · exact k3 b hb
theorem HQ (hu:P.underlying t=some (.slice e)) (he:P.underlying e=some .string) (hc:P.cellsOf e=1) (h:Typed P t l):∃ L:List (List Nat),l=[.ws false 1 (L.map .s)]∧L.length < 2^63∧∀ x∈L,Txt x:=by
 obtain ⟨ls,rfl,h1,h2⟩:=Lg hu h
 obtain ⟨L,k1,k2,k3⟩:=Kw (f:=AV.s) (Q:=Txt) (fun l h=>by
  obtain ⟨x,rfl,hx⟩:=Ku he h
  exact ⟨x,Ie (fun fs hh=>by rw [he] at hh; cases hh) _,hx⟩) ls h2
 exact ⟨L,by rw [k1,hc],by omega,k3⟩
end inv
end Go.Proofs.Ytfpoihibfajhlaa.Am

namespace Go.Proofs.Ytfpoihibfajhlaa.Am
open Go.Sort Go.Lib
def setN (L:List (List Nat)):List (List Nat):=ER (ED L)
theorem IZ (L:List (List Nat)):(ER L).length≤L.length:=by
 have:=compact_length_le (L.map u8s)
 simpa [ER] using this
theorem n8_u8 {l:List Nat} (h:∀ n∈l,n < 256):n8s (u8s l)=l:=by
 induction l with
 | nil=>rfl
 | cons a l ih =>
   have ha:=h a (by simp)
   have hl:=ih fun n hn=>h n (by simp [hn])
   simp only [n8s,u8s,List.map_cons,List.cons.injEq] at hl ⊢
   exact ⟨by simp [UInt8.toNat_ofNat']; omega,hl⟩
section
variable {α:Type} [Inhabited α] [DecidableEq α]
theorem Jr (d:Array α):∀ m,m≤d.size→∀ x∈compactUpTo d m,∃ j,j < m∧d[j]! = x
 | 0,_,x,h=>by simp [compactUpTo] at h
 | m + 1,hm,x,h=>by
   rw [compactUpTo_succ,List.mem_append] at h
   rcases h with h | h
   · obtain ⟨j,h1,h2⟩:=Jr d m (by omega) x h
     exact ⟨j,by omega,h2⟩
   · split at h
     · exact ⟨m,by omega,(List.mem_singleton.1 h).symm⟩
     · cases h
theorem Js (d:Array α):∀ m j,j < m→d[j]! ∈ compactUpTo d m
 | 0,j,h=>by omega
 | m + 1,j,h=>by
   rw [compactUpTo_succ,List.mem_append]
   by_cases hj:j=m
   · subst hj
     by_cases hk:keeps d j=true
     · right; simp [hk]
     · left
       have:¬ (j=0∨d[j]! ≠ d[j - 1]!):=fun hh=>hk (decide_eq_true hh)
       have h0:j≠0:=fun hh=>this (.inl hh)
       have he:d[j]! = d[j - 1]! := Decidable.byContradiction fun hh=>this (.inr hh)
       rw [he]
       exact Js d j (j - 1) (by omega)
   · left; exact Js d m j (by omega)
theorem MQ (d:Array α) (lt:α→α→Prop) (htr:∀ a b c,lt a b→lt b c→lt a c) (hd:∀ j,j+1 < d.size→d[j+1]! ≠ d[j]! → lt d[j]! d[j+1]!) :
    ∀ m,m≤d.size→(compactUpTo d m).Pairwise lt∧∀ x∈compactUpTo d m,∀ k,m=k+1→x=d[k]! ∨ lt x d[k]!
 | 0,_=>⟨by simp [compactUpTo],fun x h=>by simp [compactUpTo] at h⟩
 | m + 1,hm=>by
   obtain ⟨h1,h2⟩:=MQ d lt htr hd m (by omega)
   rw [compactUpTo_succ]
   by_cases hk:keeps d m=true
   · rw [if_pos hk]
     have hlt:∀ x∈compactUpTo d m,lt x d[m]! := fun x hx=>by
      obtain ⟨j,hj,_⟩:=Jr d m (by omega) x hx
      have hk':m=0∨d[m]! ≠ d[m - 1]! := of_decide_eq_true hk
      have hne:d[m]! ≠ d[m - 1]! := by rcases hk' with h | h<;>first | omega | exact h
      have hs:=hd (m - 1) (by omega)
      rw [show m - 1+1=m by omega] at hs
      rcases h2 x hx (m - 1) (by omega) with h | h
      · rw [h]; exact hs hne
      · exact htr _ _ _ h (hs hne)
     refine ⟨List.pairwise_append.2 ⟨h1,by simp,fun x hx y hy=>?_⟩,fun x hx k hk2=>?_⟩
     · rw [List.mem_singleton.1 hy]; exact hlt x hx
     · obtain rfl:k=m:=by omega
       rcases List.mem_append.1 hx with hx | hx
       · exact .inr (hlt x hx)
       · exact .inl (List.mem_singleton.1 hx)
   · rw [if_neg hk,List.append_nil]
     refine ⟨h1,fun x hx k hk2=>?_⟩
     obtain rfl:k=m:=by omega
     have:¬ (k=0∨d[k]! ≠ d[k - 1]!):=fun hh=>hk (decide_eq_true hh)
     have h0:k≠0:=fun hh=>this (.inl hh)
     have he:d[k]! = d[k - 1]! := Decidable.byContradiction fun hh=>this (.inr hh)
     rw [he]
     exact h2 x hx (k - 1) (by omega)
end
theorem u8_lt {a b:List UInt8}:a < b↔ltN (n8s a) (n8s b)=true:=by
 induction a generalizing b with
 | nil=>cases b with
   | nil=>simp [n8s,ltN]
   | cons y b=>simp [n8s,ltN]
 | cons x a ih=>cases b with
   | nil=>simp [n8s,ltN]
   | cons y b =>
     rw [List.cons_lt_cons_iff,ih]
     simp only [n8s,List.map_cons,ltN,Bool.or_eq_true,Bool.and_eq_true,Nat.blt_eq,Nat.beq_eq,UInt8.lt_iff_toNat_lt,UInt8.toNat_inj]
theorem Ld (Z:List (List UInt8)):(Z.mergeSort fun x y=>decide (x≤y)).Pairwise fun x y=>x≤y:=by
 have:=List.pairwise_mergeSort (le:=fun x y:List UInt8=>decide (x≤y)) (fun a b c h1 h2=>decide_eq_true (List.le_trans (of_decide_eq_true h1) (of_decide_eq_true h2))) (fun a b=>by
  rcases List.le_total a b with h | h
  · simp [h]
  · simp [h]) Z
 exact this.imp fun h=>of_decide_eq_true h
theorem MR {L:List (List Nat)} (hL:∀ l∈L,∀ n∈l,n < 256) (x:List Nat):x∈setN L↔x∈L:=by
 have hs:(ED L).map u8s=(L.map u8s).mergeSort fun x y=>decide (x≤y):=IX L
 constructor
 · intro h
   obtain ⟨z,hz,rfl⟩:=List.mem_map.1 (show x∈(compact ((ED L).map u8s)).map n8s from h)
   unfold compact at hz
   obtain ⟨j,hj,hz⟩:=Jr _ _ (Nat.le_refl _) z hz
   have hj':j < ((ED L).map u8s).toArray.size:=hj
   rw [getElem!_pos _ j hj'] at hz
   have hm:z∈(ED L).map u8s:=by rw [← hz]; exact List.mem_toArray.1 (Array.getElem_mem hj')
   rw [hs] at hm
   obtain ⟨l,hl,rfl⟩:=List.mem_map.1 (List.mem_mergeSort.1 hm)
   rw [n8_u8 (hL l hl)]
   exact hl
 · intro h
   have hm:u8s x∈(ED L).map u8s:=by rw [hs]; exact List.mem_mergeSort.2 (List.mem_map.2 ⟨x,h,rfl⟩)
   obtain ⟨j,hj,hz⟩:=List.mem_iff_getElem.1 hm
   have:=Js ((ED L).map u8s).toArray ((ED L).map u8s).length j hj
   rw [getElem!_pos _ j (by simpa using hj)] at this
   simp only [List.getElem_toArray,hz] at this
   have h2:n8s (u8s x)∈(compact ((ED L).map u8s)).map n8s:=List.mem_map.2 ⟨_,this,rfl⟩
   rw [n8_u8 (hL x h)] at h2
   exact h2
theorem PO (L:List (List Nat)):(setN L).Pairwise fun x y=>ltN x y=true:=by
 have hs:(ED L).map u8s=(L.map u8s).mergeSort fun x y=>decide (x≤y):=IX L
 have hp:=Ld (L.map u8s)
 rw [← hs] at hp
 obtain ⟨h1,_⟩:=MQ ((ED L).map u8s).toArray (fun a b=>a < b) (fun a b c=>List.lt_trans) (fun j hj hne=>by
  have hj1:j+1 < ((ED L).map u8s).length:=by simpa using hj
  rw [getElem!_pos _ j (by simp only [List.size_toArray]; omega),getElem!_pos _ (j+1) hj] at hne ⊢
  simp only [List.getElem_toArray] at hne ⊢
  have hle:=List.pairwise_iff_getElem.1 hp j (j+1) (by omega) hj1 (by omega)
  exact Decidable.byContradiction fun hh=>hne (List.le_antisymm (List.not_lt.1 hh) hle)) _ (Nat.le_refl _)
 exact List.pairwise_map.2 (h1.imp fun h=>u8_lt.1 h)
end Go.Proofs.Ytfpoihibfajhlaa.Am

namespace Go.Proofs.Ytfpoihibfajhlaa.Am
structure Fq (O:Nat→Prop) (h:Nat) (q q':St):Prop where
 nb:h≤q'.nb
 box:∀ j,j < h→¬ O j→q'.box? j=q.box? j
 lo:q'.lo≤q.lo
 tok:q.nt≤q'.nt∧∀ k,k < q.nt→q'.tok? k=q.tok? k
structure TokSafe (h:Nat) (C:Nat→St→Prop):Prop where
 low:∀ k q,q.lo < h→C k q
 mono:∀ k q q',C k q→q'.lo≤q.lo→C k q'
def Cin (h:Nat) (C:Nat→St→Prop) (s:St):Nat→St→Prop:=fun k q=>(C k s∧k < s.nt)∨q.lo < h
def C0 (h t:Nat):Nat→St→Prop:=fun k q=>k < t∨q.lo < h
theorem C0.safe (h t:Nat):TokSafe h (C0 h t):=⟨fun _ _ h=>.inr h,fun _ _ _ h hl=>h.imp_right fun h=>Nat.lt_of_le_of_lt hl h⟩
theorem Cin.safe {h:Nat} {C:Nat→St→Prop} (s:St):TokSafe h (Cin h C s):=⟨fun _ _ h=>.inr h,fun _ _ _ h hl=>h.imp_right fun h=>Nat.lt_of_le_of_lt hl h⟩
section
variable {O O1:Nat→Prop} {h h1:Nat} {q q' q2 s s0:St}
theorem Fq.refl (hq:h≤q.nb):Fq O h q q:=⟨hq,fun _ _ _=>rfl,Nat.le_refl _,Nat.le_refl _,fun _ _=>rfl⟩
theorem Fq.trans (f:Fq O h q q') (g:Fq O h q' q2):Fq O h q q2 :=
 ⟨g.nb,fun j hj hn=>(g.box j hj hn).trans (f.box j hj hn),Nat.le_trans g.lo f.lo,Nat.le_trans f.tok.1 g.tok.1,fun k hk=>(g.tok.2 k (by have:=f.tok.1; omega)).trans (f.tok.2 k hk)⟩
theorem Fq.new (hq:h≤q.nb) (B:Box):Fq O h q (q.new B) :=
 ⟨by simp [St.new]; omega,fun j hj _=>D3 (by omega),Nat.le_refl _,Nat.le_refl _,fun _ _=>rfl⟩
theorem Fq.lo' (hq:h≤q.nb) {n:Nat} (hn:n≤q.lo):Fq O h q { q with lo:=n }:=⟨hq,fun _ _ _=>rfl,hn,Nat.le_refl _,fun _ _=>rfl⟩
theorem Fq.setBox (hw:Wf q) (hq:h≤q.nb) {id:Nat} (hid:h≤id∨O id) (h2:id < q.nb) (B:Box):Fq O h q (q.setBox id B) :=
 ⟨hq,fun j hj hn=>by
  rw [setBox_box? hw.b h2,if_neg]
  rintro rfl
  rcases hid with hid | hid
  · omega
  · exact hn hid,Nat.le_refl _,Nat.le_refl _,fun _ _=>rfl⟩
end
structure BodyG (prog:Nat→Option Fun) (O:Nat→Prop) (s0:St) (hc h:Nat) (y:AV) (L:List (List AV)) (I:(Nat→St→Prop)→Nat→St→Prop) (R:St→Prop):Prop where
 stab:∀ C j q q',TokSafe hc C→I C j q→Fq O h q q'→I C j q'
 enter:∀ C j q,TokSafe hc C→I C j q→h≤q.nb→I (Cin hc C q) j q.enter
 leave:∀ C j s q v,TokSafe hc C→I (Cin hc C s) j q→h≤s.nb→s.nb≤q.nb→s.nt≤q.nt→Wf q→v.refs=false→I C j (Am.leave s q v)
 stabR:∀ q q',R q→Fq O h q q'→R q'
 leaveR:∀ s q v,R q→h≤s.nb→s.nb≤q.nb→s.nt≤q.nt→Wf q→v.refs=false→R (Am.leave s q v)
 step:∀ C (j:Nat) (hj:j < L.length) q,TokSafe hc C→I C j q→Over s0 q→Wf q→h≤q.nb→∃ b q',G8 (lim prog) y L[j] q=some (.b b,q')∧(b=true→I C (j+1) q')∧(b=false→R q') ∧
  Over s0 q'∧Wf q'∧q.nb≤q'.nb∧q.nt≤q'.nt∧∀ i,(O i∨h≤i)→i < q.nb→q'.box? i=q.box? i
section
variable {h:Nat} {q s:St}
theorem Nm (hw:Wf q) (hn:s.nb≤q.nb) {j:Nat} (hj:j < s.nb) (v:AV):(leave s q v).box? j=q.box? j:=by
 unfold Am.leave
 split
 · exact MH hw hn hj
 · rfl
theorem Ko {C:Nat→St→Prop} (hC:TokSafe h C) (hw:Wf q) (hs:h≤s.nb) (hn:s.nb≤q.nb) (ht:s.nt≤q.nt) {v:AV} (hv:v.refs=false) {k:Nat} (hk:k < q.nt) (hc:Cin h C s k q) :
    C k (leave s q v)∧k < (leave s q v).nt∧(leave s q v).tok? k=q.tok? k:=by
 unfold Am.leave
 rw [hv]
 by_cases hl:s.nb≤q.lo
 · have:Nat.ble s.nb q.lo=true:=by rw [Nat.ble_eq]; exact hl
   rw [this]
   simp only [Bool.not_false,Bool.and_self,if_true]
   rcases hc with ⟨h1,h2⟩ | h1
   · exact ⟨hC.mono k s _ h1 (Nat.le_refl _),h2,MI hw ht h2⟩
   · omega
 · have:Nat.ble s.nb q.lo=false:=by
    cases hc:Nat.ble s.nb q.lo with
    | false=>rfl
    | true=>rw [Nat.ble_eq] at hc; exact absurd hc hl
   rw [this]
   simp only [Bool.false_and,Bool.false_eq_true,if_false]
   refine ⟨?_,hk,rfl⟩
   rcases hc with ⟨h1,h2⟩ | h1
   · exact hC.mono k s _ h1 (Nat.min_le_left _ _)
   · exact hC.low k _ (Nat.lt_of_le_of_lt (Nat.min_le_right _ _) h1)
end
def RG (es t0 T Tb id:Nat) (xs:List AV) (fr:Bool) (C:Nat→St→Prop) (q:St):Prop:=∃ a,q.box? id=some (.cells Tb [a])∧RowH t0 q ⟨es,T,a,xs,fr⟩∧∀ k,Av a=some k→C k q
section
variable {es t0 T Tb id h:Nat} {xs:List AV} {fr:Bool} {C:Nat→St→Prop} {q q' s:St} {O:Nat→Prop}
theorem RG.stab (hC:TokSafe h C) (r:RG es t0 T Tb id xs fr C q) (hid:id < h) (hO:¬ O id) {hh:Nat} (hh1:h≤hh) (f:Fq O hh q q'):RG es t0 T Tb id xs fr C q':=by
 obtain ⟨a,h1,h2,h3⟩:=r
 refine ⟨a,by rw [f.box id (by omega) hO]; exact h1,?_,fun k hk=>hC.mono k q _ (h3 k hk) f.lo⟩
 exact h2.mono f.tok.1 fun k hk=>f.tok.2 k (h2.tok_lt hk)
theorem RG.enter (r:RG es t0 T Tb id xs fr C q):RG es t0 T Tb id xs fr (Cin h C q) q.enter:=by
 obtain ⟨a,h1,h2,h3⟩:=r
 exact ⟨a,h1,h2.mono (Nat.le_refl _) fun _ _=>rfl,fun k hk=>.inl ⟨h3 k hk,h2.tok_lt hk⟩⟩
theorem RG.leave (hC:TokSafe h C) (r:RG es t0 T Tb id xs fr (Cin h C s) q) (hid:id < s.nb) (hs:h≤s.nb) (hn:s.nb≤q.nb) (ht:s.nt≤q.nt) (hw:Wf q) {v:AV} (hv:v.refs=false):RG es t0 T Tb id xs fr C (Am.leave s q v):=by
 obtain ⟨a,h1,h2,h3⟩:=r
 refine ⟨a,by rw [Nm hw hn (by omega)]; exact h1,?_,fun k hk=>(Ko hC hw hs hn ht hv (h2.tok_lt hk) (h3 k hk)).1⟩
 rcases h2 with h2 | ⟨k,v',t,h,k1,k2,k3,k4⟩
 · exact .inl h2
 · simp only at h; subst h
   obtain ⟨_,z2,z3⟩:=Ko hC hw hs hn ht hv k2 (h3 k rfl)
   exact .inr ⟨k,v',t,rfl,k1,z2,by rw [z3]; exact k3,k4⟩
def CLow (h:Nat):Nat→St→Prop:=fun _ q=>q.lo < h
theorem CLow.safe (h:Nat):TokSafe h (CLow h):=⟨fun _ _ h=>h,fun _ _ _ h hl=>Nat.lt_of_le_of_lt hl h⟩
theorem RG.mono {C':Nat→St→Prop} (r:RG es t0 T Tb id xs fr C q) (h:∀ k,C k q→C' k q):RG es t0 T Tb id xs fr C' q:=by
 obtain ⟨a,h1,h2,h3⟩:=r
 exact ⟨a,h1,h2,fun k hk=>h k (h3 k hk)⟩
end
theorem Hp.keep {s0 q q':St} {n':En} {R':List RA} {M rest:List (Nat×Box)} {mine:List (Nat×Box)} (hr:∀ {i:Nat} {X:Box},s0.nb≤i→q.box? i=some X→(∀ p∈mine,p.1≠i)→(i,X)∈rest) (hw:Wf q) (H:Hp s0 q' n' R' (M++rest)) {i:Nat} (h0:s0.nb≤i) (hi:i < q.nb) (hne:∀ p∈mine,p.1≠i):q'.box? i=q.box? i:=by
 obtain ⟨X,hX⟩:∃ X,q.box? i=some X:=by
  unfold St.box?
  have h1:Nat.blt i q.nb=true:=by rw [Nat.blt_eq]; exact hi
  rw [h1,cond_true]
  exact ⟨_,List.getElem?_eq_getElem (by rw [hw.b]; omega)⟩
 have:=hr h0 hX hne
 obtain ⟨j,hj⟩:=List.mem_iff_getElem?.1 (List.mem_append_right M this)
 rw [hX]
 exact (H.box hj).1
end Go.Proofs.Ytfpoihibfajhlaa.Am
