/-
  A heap as it is reckoned with: rows of which nobody else knows, boxes, and what operations do to them.
-/
import Derived.Test.YtgloinighjdhlaaAmKeep
import Derived.Test.YtgloinighjdhlaaAmDraw3
import Derived.Attr
import Derived.SliceStrings
import Derived.WideShapes
import Derived.ProofKit
import Derived.ChangeArms
import Derived.Lib.LaidTab
set_option linter.all false
set_option linter.unusedVariables false
set_option linter.unusedSimpArgs false
set_option linter.unusedSectionVars false
namespace Go.Proofs.Ytgloinighjdhlaa.Am
structure RA where
 es:Nat
 T:Nat
 a:AV
 xs:List AV
 fr:Bool
def I9 (es:Nat) (a:AV) (xs:List AV):Prop:=(a=.nsl∧xs=[])∨(a=.wz∧xs=[])∨a=.sl es xs .full∨a=.ws true es xs
def TokA (t0:Nat) (s:St) (r:RA):Prop:=∃ k v t,r.a=.sl r.es r.xs (.tok k v)∧t0≤k∧k < s.nt∧s.tok? k=some t∧t.ver=v∧t.front=r.xs.length∧t.ty=some r.T∧(r.fr=true→t.pub=0)
def RowH (t0:Nat) (s:St) (r:RA):Prop:=I9 r.es r.a r.xs∨TokA t0 s r
structure En where
 lo:Nat
 nb:Nat
 nt:Nat
def St.en (s:St):En:=⟨s.nb,s.nb,s.nt⟩
structure Hp (s0 s:St) (n:En) (R:List RA) (B:List (Nat×Box)):Prop where
 wf:Wf s
 over:Over s0 s
 lo:s.lo≤n.lo
 nb:n.nb≤s.nb
 nt:n.nt≤s.nt
 rows:∀ {i:Nat} {r:RA},R[i]? = some r→RowH s0.nt s r
 apart:∀ {i j:Nat} {r r':RA} {k:Nat},i≠j→R[i]? = some r→R[j]? = some r'→Av r.a=some k→Av r'.a≠some k
 box:∀ {i:Nat} {p:Nat×Box},B[i]? = some p→s.box? p.1=some p.2∧s0.nb≤p.1∧p.1 < s.nb
 bapart:∀ {i j:Nat} {p q:Nat×Box},i≠j→B[i]? = some p→B[j]? = some q→p.1≠q.1
section
variable {s0 s s':St} {n:En} {R:List RA} {B:List (Nat×Box)} {r:RA}
theorem EI {es:Nat} {a:AV} {xs:List AV} (h:I9 es a xs):Av a=none:=by
 rcases h with ⟨rfl,_⟩ | ⟨rfl,_⟩ | rfl | rfl<;>rfl
theorem Ro {es:Nat} {a:AV} {xs:List AV} (h:I9 es a xs):a.cells=[a]∧ones [a]=true:=by
 rcases h with ⟨rfl,_⟩ | ⟨rfl,_⟩ | rfl | rfl<;>exact ⟨rfl,rfl⟩
theorem RowH.tok_lt {t0:Nat} (h:RowH t0 s r) {k:Nat} (hk:Av r.a=some k):k < s.nt:=by
 rcases h with h | ⟨k',v,t,h,_,h2,_⟩
 · rw [EI h] at hk; cases hk
 · rw [h] at hk; simp only [Av,Option.some.injEq] at hk; omega
theorem RowH.cells {t0:Nat} (h:RowH t0 s r):r.a.cells=[r.a]∧ones [r.a]=true:=by
 rcases h with h | ⟨k',v,t,h,_⟩
 · exact Ro h
 · rw [h]; exact ⟨rfl,rfl⟩
theorem RowH.mono {t0:Nat} (h:RowH t0 s r) (hn:s.nt≤s'.nt) (ht:∀ k,Av r.a=some k→s'.tok? k=s.tok? k):RowH t0 s' r:=by
 rcases h with h | ⟨k,v,t,h,h1,h2,h3,h4⟩
 · exact .inl h
 · exact .inr ⟨k,v,t,h,h1,by omega,by rw [ht k (by rw [h]; rfl)]; exact h3,h4⟩
theorem I9.nil {es:Nat}:I9 es .nsl []:=.inl ⟨rfl,rfl⟩
theorem I9.full {es:Nat} {xs:List AV}:I9 es (.sl es xs .full) xs:=.inr (.inr (.inl rfl))
theorem I9.ws {es:Nat} {xs:List AV}:I9 es (.ws true es xs) xs:=.inr (.inr (.inr rfl))
theorem Hp.begin (hw:Wf s):Hp s s.enter s.en [] [] where
 wf:=hw.enter
 over:=Over.enter s
 lo:=Nat.le_refl _
 nb:=Nat.le_refl _
 nt:=Nat.le_refl _
 rows:=fun h=>by simp at h
 apart:=fun _ h=>by simp at h
 box:=fun h=>by simp at h
 bapart:=fun _ h=>by simp at h
theorem Hp.enter (H:Hp s0 s n R B):Hp s0 s.enter s.en R B where
 wf:=H.wf.enter
 over:=H.over.toEnter
 lo:=Nat.le_refl _
 nb:=Nat.le_refl _
 nt:=Nat.le_refl _
 rows:=fun h=>(H.rows h).mono (Nat.le_refl _) fun _ _=>rfl
 apart:=H.apart
 box:=H.box
 bapart:=H.bapart
theorem Hp.setLo (H:Hp s0 s n R B) {m:Nat} (h1:m≤n.lo) (h2:s0.nb≤m):Hp s0 { s with lo:=m } n R B where
 wf:=H.wf.lo m
 over:=H.over.setLo h2
 lo:=h1
 nb:=H.nb
 nt:=H.nt
 rows:=fun h=>(H.rows h).mono (Nat.le_refl _) fun _ _=>rfl
 apart:=H.apart
 box:=H.box
 bapart:=H.bapart
def pick {α:Type} (l:List α):List Nat→List α
 | []=>[]
 | i::is=>match l[i]? with
   | some a=>a::pick l is
   | none=>pick l is
theorem E9 {α:Type} (l:List α):∀ (is:List Nat) {j:Nat} {a:α},(pick l is)[j]? = some a→∃ m i,is[m]? = some i∧l[i]? = some a∧(pick l (is.take m)).length=j
 | [],j,a,h=>by simp [pick] at h
 | i :: is,j,a,h=>by
   simp only [pick] at h
   cases hi:l[i]? with
   | none =>
     rw [hi] at h
     obtain ⟨m,i',h1,h2,h3⟩:=E9 l is h
     exact ⟨m+1,i',by simpa using h1,h2,by simp [pick,hi,h3]⟩
   | some b =>
     rw [hi] at h
     cases j with
     | zero=>exact ⟨0,i,rfl,by simp only [List.getElem?_cons_zero,Option.some.injEq] at h; rw [← h]; exact hi,rfl⟩
     | succ j =>
       obtain ⟨m,i',h1,h2,h3⟩:=E9 l is (by simpa using h)
       exact ⟨m+1,i',by simpa using h1,h2,by simp [pick,hi,h3]⟩
theorem OW {is:List Nat} (h:is.Nodup) {a b x:Nat} (ha:is[a]? = some x) (hb:is[b]? = some x):a=b:=by
 rw [List.getElem?_eq_some_iff] at ha hb
 obtain ⟨ha,ea⟩:=ha
 obtain ⟨hb,eb⟩:=hb
 rcases Nat.lt_trichotomy a b with hh | hh | hh
 · exact absurd (ea.trans eb.symm) ((List.pairwise_iff_getElem.1 h) a b ha hb hh)
 · exact hh
 · exact absurd (eb.trans ea.symm) ((List.pairwise_iff_getElem.1 h) b a hb ha hh)
theorem Hp.sel (H:Hp s0 s n R B) (f g:List Nat) (hf:f.Nodup) (hg:g.Nodup):Hp s0 s n (pick R f) (pick B g) where
 wf:=H.wf
 over:=H.over
 lo:=H.lo
 nb:=H.nb
 nt:=H.nt
 rows:=fun h=>by obtain ⟨_,_,_,h2,_⟩:=E9 R f h; exact H.rows h2
 apart:=fun {i j r r' k} hne h1 h2=>by
  obtain ⟨m1,i1,a1,a2,a3⟩:=E9 R f h1
  obtain ⟨m2,i2,b1,b2,b3⟩:=E9 R f h2
  refine H.apart (fun he=>hne ?_) a2 b2
  subst he
  have:=OW hf a1 b1
  rw [← a3,← b3,this]
 box:=fun h=>by obtain ⟨_,_,_,h2,_⟩:=E9 B g h; exact H.box h2
 bapart:=fun {i j p q} hne h1 h2=>by
  obtain ⟨m1,i1,a1,a2,a3⟩:=E9 B g h1
  obtain ⟨m2,i2,b1,b2,b3⟩:=E9 B g h2
  refine H.bapart (fun he=>hne ?_) a2 b2
  subst he
  have:=OW hg a1 b1
  rw [← a3,← b3,this]
theorem LB {α:Type} (b:α) (l:List α):∀ is:List Nat,pick (b::l) (is.map (·+1))=pick l is
 | []=>rfl
 | i::is=>by simp only [List.map_cons,pick,List.getElem?_cons_succ,LB b l is]
theorem IB {α:Type}:∀ l:List α,pick l (List.range l.length)=l
 | []=>rfl
 | a::l=>by
   rw [List.length_cons,List.range_succ_eq_map]
   simp only [pick,List.getElem?_cons_zero]
   exact congrArg (a::·) ((LB a l (List.range l.length)).trans (IB l))
theorem LC {α:Type} (b:α) (l:List α):pick (b::l) (List.range' 1 l.length)=l:=by
 have:List.range' 1 l.length=(List.range l.length).map (·+1):=by
  apply List.ext_getElem<;>simp [Nat.add_comm]
 rw [this,LB,IB]
theorem Hp.dropR (H:Hp s0 s n (r::R) B):Hp s0 s n R B:=by
 have:=H.sel (List.range' 1 R.length) (List.range B.length) List.nodup_range' List.nodup_range
 rw [IB,LC] at this
 exact this
theorem Hp.dropB {p:Nat×Box} (H:Hp s0 s n R (p::B)):Hp s0 s n R B:=by
 have:=H.sel (List.range R.length) (List.range' 1 B.length) List.nodup_range List.nodup_range'
 rw [IB,LC] at this
 exact this
theorem Hp.addFull (H:Hp s0 s n R B) (es T:Nat) {a:AV} {xs:List AV} (fr:Bool) (h:I9 es a xs):Hp s0 s n (⟨es,T,a,xs,fr⟩::R) B where
 wf:=H.wf
 over:=H.over
 lo:=H.lo
 nb:=H.nb
 nt:=H.nt
 rows:=fun {i r} hr=>by
  cases i with
  | zero=>simp only [List.getElem?_cons_zero,Option.some.injEq] at hr; subst hr; exact .inl h
  | succ i=>exact H.rows (by simpa using hr)
 apart:=fun {i j r r' k} hne h1 h2 hk=>by
  cases i with
  | zero =>
    simp only [List.getElem?_cons_zero,Option.some.injEq] at h1; subst h1
    simp only [EI h] at hk; cases hk
  | succ i=>cases j with
    | zero =>
      simp only [List.getElem?_cons_zero,Option.some.injEq] at h2; subst h2
      simp only [EI h]; simp
    | succ j=>exact H.apart (i:=i) (j:=j) (by omega) (by simpa using h1) (by simpa using h2) hk
 box:=H.box
 bapart:=H.bapart
theorem Hp.new (H:Hp s0 s n R B) (X:Box):Hp s0 (s.new X) n R ((s.nb,X)::B) where
 wf:=H.wf.new X
 over:=H.over.new X
 lo:=H.lo
 nb:=Nat.le_succ_of_le H.nb
 nt:=H.nt
 rows:=fun h=>(H.rows h).mono (Nat.le_refl _) fun _ _=>rfl
 apart:=H.apart
 box:=fun {i p} h=>by
  cases i with
  | zero=>
    simp only [List.getElem?_cons_zero,Option.some.injEq] at h; subst h
    exact ⟨BR s X,H.over.nb,Nat.lt_succ_self _⟩
  | succ i =>
    obtain ⟨h1,h2,h3⟩:=H.box (i:=i) (by simpa using h)
    exact ⟨by rw [El h3]; exact h1,h2,Nat.lt_succ_of_lt h3⟩
 bapart:=fun {i j p q} hne h1 h2=>by
  cases i with
  | zero=>cases j with
    | zero=>exact absurd rfl hne
    | succ j =>
      have:=(H.box (i:=j) (by simpa using h2)).2.2
      simp only [List.getElem?_cons_zero,Option.some.injEq] at h1; subst h1
      simp only; omega
  | succ i=>cases j with
    | zero =>
      have:=(H.box (i:=i) (by simpa using h1)).2.2
      simp only [List.getElem?_cons_zero,Option.some.injEq] at h2; subst h2
      simp only; omega
    | succ j=>exact H.bapart (i:=i) (j:=j) (by omega) (by simpa using h1) (by simpa using h2)
theorem D4 {α:Type} {l:List α} {i j:Nat} {a b x:α} (hi:l[i]? = some b) (h:(l.set i a)[j]? = some x):(j=i∧x=a)∨(j≠i∧l[j]? = some x):=by
 rw [List.getElem?_set] at h
 by_cases hj:i=j
 · subst hj
   rw [if_pos rfl,if_pos (by rw [List.getElem?_eq_some_iff] at hi; exact hi.1)] at h
   exact .inl ⟨rfl,by simpa using h.symm⟩
 · rw [if_neg hj] at h
   exact .inr ⟨fun hh=>hj hh.symm,h⟩
theorem Hp.setBox (H:Hp s0 s n R B) {i id:Nat} {X:Box} (h:B[i]? = some (id,X)) (Y:Box):Hp s0 (s.setBox id Y) n R (B.set i (id,Y)) where
 wf:=H.wf.setBox _ _
 over:=Over.setBox H.over (H.box h).2.1 (H.box h).2.2 _
 lo:=H.lo
 nb:=H.nb
 nt:=H.nt
 rows:=fun h=>(H.rows h).mono (Nat.le_refl _) fun _ _=>rfl
 apart:=H.apart
 box:=fun {j p} hj=>by
  rcases D4 h hj with ⟨rfl,rfl⟩ | ⟨hne,hj⟩
  · exact ⟨by rw [setBox_box? H.wf.b (H.box h).2.2,if_pos rfl],(H.box h).2.1,(H.box h).2.2⟩
  · obtain ⟨h1,h2,h3⟩:=H.box hj
    exact ⟨by rw [setBox_box? H.wf.b (H.box h).2.2,if_neg (H.bapart hne hj h)]; exact h1,h2,h3⟩
 bapart:=fun {a b p q} hne h1 h2=>by
  rcases D4 h h1 with ⟨e1,e2⟩ | ⟨hn1,h3⟩
  · rcases D4 h h2 with ⟨e3,e4⟩ | ⟨hn2,h4⟩
    · exact absurd (e1.trans e3.symm) hne
    · rw [e2]
      exact H.bapart (p:=(id,X)) (fun he=>hn2 he.symm) h h4
  · rcases D4 h h2 with ⟨e3,e4⟩ | ⟨hn2,h4⟩
    · rw [e4]
      exact H.bapart (q:=(id,X)) hn1 h3 h
    · exact H.bapart hne h3 h4
theorem Hp.esc (H:Hp s0 s n R B) {i id:Nat} {X:Box} (h:B[i]? = some (id,X)) (v:AV):Hp s0 (Am.esc s id v) n R B∧(Am.esc s id v).nb=s.nb∧(v.refs=true→(Am.esc s id v).lo≤id):=by
 unfold Am.esc
 split
 · rename_i hv
   exact ⟨H.setLo (by have:=H.lo; omega) (by have:=H.over.lo; have:=(H.box h).2.1; simp only at *; omega),rfl,fun _=>by simp only; omega⟩
 · rename_i hv
   exact ⟨H,rfl,fun h=>absurd h hv⟩
theorem Hp.cells (H:Hp s0 s n R B) {i id T:Nat} {cs:List AV} (h:B[i]? = some (id,.cells T cs)):s.cells? id=some cs:=by
 have:=(H.box h).1
 simp only [St.cells?]
 simp only at this
 rw [this]
theorem Hp.ld (H:Hp s0 s n R B) (i:Nat) {id T off:Nat} {cs:List AV} {v:AV} (h:B[i]? = some (id,.cells T cs)) (hc:cs[off]? = some v):ldA s false 1 (.p id off)=some v:=JM (H.box h).1 hc
theorem Hp.ldw (H:Hp s0 s n R B) (i:Nat) {id T m:Nat} {cs:List AV} (h:B[i]? = some (id,.cells T cs)) (hc:cs.length=m):ldA s true m (.p id 0)=some (.agg cs):=by
 simp only [ldA,H.cells h,cut,List.drop_zero]
 rw [List.take_of_length_le (by omega),if_pos hc]; rfl
theorem Hp.st (H:Hp s0 s n R B) (i:Nat) {id T off:Nat} {cs:List AV} {v:AV} (h:B[i]? = some (id,.cells T cs)) (hoff:off < cs.length) (hv:v.cells=[v]∧ones [v]=true) :
    ∃ s',stA s 1 (.p id off) v=some s'∧Hp s0 s' n R (B.set i (id,.cells T (cs.set off v)))∧s'.nb=s.nb∧(v.refs=true→s'.lo≤id):=by
 have hb:(B.set i (id,Box.cells T (cs.set off v)))[i]? = some (id,.cells T (cs.set off v)):=by
  rw [List.getElem?_set,if_pos rfl,if_pos (by rw [List.getElem?_eq_some_iff] at h; exact h.1)]
 obtain ⟨h1,h2,h3⟩:=(H.setBox h (.cells T (cs.set off v))).esc hb v
 exact ⟨_,TX (H.box h).1 hv.1 hv.2 hoff,h1,h2,h3⟩
theorem Hp.stw (H:Hp s0 s n R B) (i:Nat) {id T m:Nat} {cs:List AV} {v:AV} (h:B[i]? = some (id,.cells T cs)) (hm:cs.length=m) (hv:v.cells.length=m∧ones v.cells=true) :
    ∃ s',stA s m (.p id 0) v=some s'∧Hp s0 s' n R (B.set i (id,.cells T v.cells))∧s'.nb=s.nb∧(v.refs=true→s'.lo≤id):=by
 have hb:(B.set i (id,Box.cells T v.cells))[i]? = some (id,.cells T v.cells):=by
  rw [List.getElem?_set,if_pos rfl,if_pos (by rw [List.getElem?_eq_some_iff] at h; exact h.1)]
 obtain ⟨h1,h2,h3⟩:=(H.setBox h (.cells T v.cells)).esc hb v
 refine ⟨_,?_,h1,h2,h3⟩
 have hbx:=(H.box h).1
 simp only at hbx
 have:Am.over cs 0 v.cells=some v.cells:=by
  unfold Am.over
  rw [if_pos (by omega),List.take_zero,List.nil_append,Nat.zero_add,List.drop_of_length_le (by omega),List.append_nil]
 simp only [stA,hbx,hv,and_self,if_true,this]
theorem Hp.adp (H:Hp s0 s n R B) {T m:Nat} {z:List AV} {v:AV} (hz:z.length=m) (hv:v.cells.length=m∧ones v.cells=true) :
    ∃ s',stA (s.new (.cells T z)) m (.p s.nb 0) v=some s'∧Hp s0 s' n R ((s.nb,.cells T v.cells)::B)∧s'.nb=s.nb+1:=by
 obtain ⟨s',h1,h2,h3,_⟩:=(H.new (.cells T z)).stw 0 (v:=v) rfl hz hv
 exact ⟨s',h1,h2,h3⟩
theorem Hp.newTok (H:Hp s0 s n R B) (es T:Nat) (xs:List AV):Hp s0 (s.newTok xs.length (some T)) n (⟨es,T,.sl es xs (.tok s.nt 0),xs,true⟩::R) B where
 wf:=H.wf.newTok _ _
 over:=H.over.withTok _
 lo:=H.lo
 nb:=H.nb
 nt:=Nat.le_succ_of_le H.nt
 rows:=fun {i r} h=>by
  cases i with
  | zero =>
    simp only [List.getElem?_cons_zero,Option.some.injEq] at h; subst h
    exact .inr ⟨s.nt,0,⟨xs.length,0,0,some T⟩,rfl,H.over.nt,by simp [St.newTok],by rw [newTok_tok?,if_pos rfl],rfl,rfl,rfl,fun _=>rfl⟩
  | succ i =>
    have hr:=H.rows (i:=i) (r:=r) (by simpa using h)
    exact hr.mono (by simp [St.newTok]) fun k hk=>by rw [newTok_tok?,if_neg (by have:=hr.tok_lt hk; omega)]
 apart:=fun {i j r r' k} hne h1 h2 hk hk2=>by
  cases i with
  | zero=>cases j with
    | zero=>exact hne rfl
    | succ j =>
      have:=(H.rows (i:=j) (by simpa using h2)).tok_lt hk2
      simp only [List.getElem?_cons_zero,Option.some.injEq] at h1; subst h1
      simp only [Av,Option.some.injEq] at hk; omega
  | succ i=>cases j with
    | zero =>
      have:=(H.rows (i:=i) (by simpa using h1)).tok_lt hk
      simp only [List.getElem?_cons_zero,Option.some.injEq] at h2; subst h2
      simp only [Av,Option.some.injEq] at hk2; omega
    | succ j=>exact H.apart (i:=i) (j:=j) (by omega) (by simpa using h1) (by simpa using h2) hk hk2
 box:=H.box
 bapart:=H.bapart
theorem Hp.setTok (H:Hp s0 s n R B) {i k v:Nat} {t:Tok} (h:R[i]? = some r) (ha:r.a=.sl r.es r.xs (.tok k v)) (ht:s.tok? k=some t) (xs:List AV) (t':Tok) (v':Nat) (fr:Bool)
    (h1:t'.ver=v') (h2:t'.front=xs.length) (h3:t'.ty=t.ty) (h4:fr=true→t'.pub=0):Hp s0 (s.setTok k t') n (R.set i ⟨r.es,r.T,.sl r.es xs (.tok k v'),xs,fr⟩) B:=by
 have hk:Av r.a=some k:=by rw [ha]; rfl
 have hlt:=(H.rows h).tok_lt hk
 have hrow:s0.nt≤k∧t.ty=some r.T:=by
  rcases H.rows h with hh | ⟨k',w,t2,hh,q1,q2,q3,q4,q5,q6,q7⟩
  · rw [EI hh] at hk; cases hk
  · rw [ha] at hh; cases hh; rw [ht] at q3; cases q3; exact ⟨q1,q6⟩
 exact {
  wf:=H.wf.setTok _ _
  over:=H.over.setTok hrow.1 hlt _
  lo:=H.lo
  nb:=H.nb
  nt:=H.nt
  rows:=fun {j x} hj=>by
   rcases D4 h hj with ⟨rfl,rfl⟩ | ⟨hne,hj⟩
   · exact .inr ⟨k,v',t',rfl,hrow.1,hlt,by rw [setTok_tok? H.wf.t hlt,if_pos rfl],h1,h2,by rw [h3]; exact hrow.2,h4⟩
   · exact (H.rows hj).mono (Nat.le_refl _) fun m hm=>by
      rw [setTok_tok? H.wf.t hlt,if_neg]
      intro he
      exact H.apart hne hj h hm (by rw [he]; exact hk)
  apart:=fun {a b x y m} hne g1 g2 gk gk2=>by
   rcases D4 h g1 with ⟨e1,e2⟩ | ⟨hn1,g3⟩
   · rcases D4 h g2 with ⟨e3,e4⟩ | ⟨hn2,g4⟩
     · exact hne (e1.trans e3.symm)
     · rw [e2] at gk
       simp only [Av] at gk
       exact H.apart (fun he=>hn2 he.symm) h g4 (by rw [hk]; exact gk) gk2
   · rcases D4 h g2 with ⟨e3,e4⟩ | ⟨hn2,g4⟩
     · rw [e4] at gk2
       simp only [Av] at gk2
       exact H.apart hn1 g3 h gk (by rw [hk]; exact gk2)
     · exact H.apart hne g3 g4 gk gk2
  box:=H.box
  bapart:=H.bapart }
theorem Nc {α:Type} {l:List α} {i:Nat} {a:α} (h:l[i]? = some a):l.set i a=l:=by
 apply List.ext_getElem?
 intro j
 rw [List.getElem?_set]
 by_cases hj:i=j
 · subst hj; rw [if_pos rfl,if_pos (by rw [List.getElem?_eq_some_iff] at h; exact h.1),h]
 · rw [if_neg hj]
theorem U8 {es T:Nat} {a y:AV} {xs ys:List AV} (h:I9 es a xs) (hy:elems s es y=some ys) (h1:ys≠[]) (hsz:(xs.length+ys.length)*es < 2^38) :
    appA s es T a y=some (.sl es (xs++ys) (.tok s.nt 0),s.newTok (xs++ys).length (some T)):=by
 cases ys with
 | nil=>exact absurd rfl h1
 | cons y0 ys =>
 unfold appA
 rw [hy]
 rcases h with ⟨rfl,rfl⟩ | ⟨rfl,rfl⟩ | rfl | rfl
 · simp only [List.length_nil,Nat.zero_add,List.nil_append] at hsz ⊢
   rw [if_pos hsz]
 · simp only [List.length_nil,Nat.zero_add,List.nil_append] at hsz ⊢
   rw [if_pos hsz]
 · simp only [List.length_append]
   rw [if_pos ⟨trivial,hsz⟩]
 · simp only [List.length_append]
   rw [if_pos ⟨trivial,hsz⟩]
theorem U9 {es T:Nat} {a y:AV} {t0:Nat} (h:RowH t0 s r) (ha:r.a=a) (hy:elems s es y=some []):appA s es T a y=some (a,s):=by
 subst ha
 unfold appA
 rw [hy]
 rcases h with (⟨h,_⟩ | ⟨h,_⟩ | h | h) | ⟨k,v,t,h,_⟩<;>rw [h]
theorem Hp.app (H:Hp s0 s n R B) (i:Nat) {es T:Nat} {a y:AV} {xs ys:List AV} {fr:Bool} (h:R[i]? = some ⟨es,T,a,xs,fr⟩) (hy:elems s es y=some ys) (hsz:(xs.length+ys.length)*es < 2^38) :
    ∃ a' s',appA s es T a y=some (a',s')∧Hp s0 s' n (R.set i ⟨es,T,a',xs++ys,fr⟩) B∧s'.nb=s.nb∧(ys≠[]→Av a'≠none∧a'.refs=true):=by
 by_cases hys:ys=[]
 · subst hys
   refine ⟨a,s,U9 (H.rows h) rfl hy,?_,rfl,fun h=>absurd rfl h⟩
   rw [List.append_nil,Nc h]
   exact H
 · rcases H.rows h with hf | ⟨k,v,t,ha,k1,k2,k3,k4,k5,k6,k7⟩
   · refine ⟨_,_,U8 hf hy hys hsz,?_,rfl,fun _=>⟨by simp [Av],rfl⟩⟩
     have h0:=H.newTok es T (xs++ys)
     refine { wf:=h0.wf,over:=h0.over,lo:=h0.lo,nb:=h0.nb,nt:=h0.nt,rows:=fun {j x} hj=>?_,apart:=fun {p q x y m} hne g1 g2 gk=>?_,box:=h0.box,bapart:=h0.bapart }
     · rcases D4 h hj with ⟨rfl,rfl⟩ | ⟨_,hj⟩
       · rcases h0.rows (i:=0) rfl with hh | ⟨k,v,t,q1,q2,q3,q4,q5,q6,q7,q8⟩
         · exact .inl hh
         · exact .inr ⟨k,v,t,q1,q2,q3,q4,q5,q6,q7,fun _=>q8 rfl⟩
       · exact h0.rows (i:=j+1) (by simpa using hj)
     · rcases D4 h g1 with ⟨e1,e2⟩ | ⟨hn1,g3⟩
       · rcases D4 h g2 with ⟨e3,e4⟩ | ⟨hn2,g4⟩
         · exact absurd (e1.trans e3.symm) hne
         · rw [e2] at gk
           exact h0.apart (i:=0) (j:=q+1) (by omega) rfl (by simpa using g4) gk
       · rcases D4 h g2 with ⟨e3,e4⟩ | ⟨hn2,g4⟩
         · rw [e4]
           exact h0.apart (i:=p+1) (j:=0) (r':=⟨es,T,.sl es (xs++ys) (.tok s.nt 0),xs++ys,true⟩) (by omega) (by simpa using g3) rfl gk
         · exact H.apart hne g3 g4 gk
   · simp only at ha
     refine ⟨.sl es (xs++ys) (.tok k v),s.setTok k { t with front:=xs.length+ys.length },?_,H.setTok h ha k3 (xs++ys) { t with front:=xs.length+ys.length } v fr k4 (by simp) rfl k7,rfl,fun _=>⟨by simp [Av],rfl⟩⟩
     subst ha
     cases ys with
     | nil=>exact absurd rfl hys
     | cons y0 ys =>
     unfold appA
     rw [hy]
     simp only [k3]
     rw [if_pos ⟨trivial,k4,k5,by rw [k6]; simp [tyOk],hsz⟩]
theorem Hp.appN (H:Hp s0 s n R B) {es:Nat} (T:Nat) {a y:AV} {xs ys:List AV} (hf:I9 es a xs) (hy:elems s es y=some ys) (hsz:(xs.length+ys.length)*es < 2^38) :
    ∃ a' s',appA s es T a y=some (a',s')∧Hp s0 s' n (⟨es,T,a',xs++ys,true⟩::R) B∧s'.nb=s.nb∧(ys≠[]→Av a'≠none∧a'.refs=true):=(H.addFull es T true hf).app 0 rfl hy hsz
def DD (es:Nat) (a:AV) (xs:List AV):Prop:=(a=.nsl∧xs=[])∨(a=.wz∧xs=[])∨a=.sl es xs .full∨a=.sl es xs .shut∨a=.ws true es xs∨a=.ws false es xs
theorem I9.told {es:Nat} {a:AV} {xs:List AV} (h:I9 es a xs):DD es a xs:=by
 rcases h with h | h | h | h
 · exact .inl h
 · exact .inr (.inl h)
 · exact .inr (.inr (.inl h))
 · exact .inr (.inr (.inr (.inr (.inl h))))
theorem Hp.pub (H:Hp s0 s n R B) (i:Nat) (h:R[i]? = some r) :
    ∃ a' s',Am.pub s r.a=some (a',s')∧DD r.es a' r.xs∧Hp s0 s' n (R.set i { r with fr:=false }) B∧s'.nb=s.nb:=by
 rcases H.rows h with hf | ⟨k,v,t,ha,k1,k2,k3,k4,k5,k6,k7⟩
 · refine ⟨r.a,s,?_,hf.told,?_,rfl⟩
   · rcases hf with ⟨h,_⟩ | ⟨h,_⟩ | h | h<;>rw [h]<;>rfl
   · refine { wf:=H.wf,over:=H.over,lo:=H.lo,nb:=H.nb,nt:=H.nt,rows:=fun {j x} hj=>?_,apart:=fun {p q x y m} hne g1 g2 gk=>?_,box:=H.box,bapart:=H.bapart }
     · rcases D4 h hj with ⟨rfl,rfl⟩ | ⟨_,hj⟩
       · exact .inl hf
       · exact H.rows hj
     · rcases D4 h g1 with ⟨e1,e2⟩ | ⟨hn1,g3⟩
       · rw [e2] at gk
         simp only [EI hf] at gk; cases gk
       · rcases D4 h g2 with ⟨e3,e4⟩ | ⟨hn2,g4⟩
         · rw [e4]; simp only [EI hf]; simp
         · exact H.apart hne g3 g4 gk
 · refine ⟨.sl r.es r.xs .shut,s.setTok k { t with pub:=max t.pub r.xs.length },?_,.inr (.inr (.inr (.inl rfl))),?_,rfl⟩
   · rw [ha]; simp only [Am.pub,k3,k4,if_true]
   · have:=H.setTok h ha k3 r.xs { t with pub:=max t.pub r.xs.length } v false k4 k5 rfl (fun hh=>by cases hh)
     rw [← ha] at this
     exact this
theorem GV {t0:Nat} (h:RowH t0 s r):pubA s r.a=Am.pub s r.a:=by
 rcases h with (⟨h,_⟩ | ⟨h,_⟩ | h | h) | ⟨k,v,t,h,_⟩<;>rw [h]<;>rfl
theorem Hp.pop (H:Hp s0 s n R B) (i:Nat) {es T m:Nat} {a:AV} {xs:List AV} (h:R[i]? = some ⟨es,T,a,xs,true⟩) (hm:m≤xs.length) :
    ∃ a' s',Bv s true es a none (some (.i .i64 (m:Int))) none=some (a',s')∧((∃ fr,Hp s0 s' n (R.set i ⟨es,T,a',xs.take m,fr⟩) B∧(Av a≠none→fr=true))∨(Av a=none∧DD es a' (xs.take m)∧s'=s))∧s'.nb=s.nb:=by
 have hb:CS xs.length none (some (.i .i64 (m:Int)))=some (0,m):=by
  unfold CS
  simp [Cq,hm]
 rcases H.rows h with (⟨h1,h2⟩ | ⟨h1,h2⟩ | h1 | h1) | ⟨k,v,t,ha,k1,k2,k3,k4,k5,k6,k7⟩
 · simp only at h1 h2; subst h1; subst h2
   obtain rfl:m=0:=by simpa using hm
   exact ⟨.nsl,s,rfl,.inr ⟨rfl,.inl ⟨rfl,rfl⟩,rfl⟩,rfl⟩
 · simp only at h1 h2; subst h1; subst h2
   obtain rfl:m=0:=by simpa using hm
   exact ⟨.wz,s,rfl,.inr ⟨rfl,.inr (.inl ⟨rfl,rfl⟩),rfl⟩,rfl⟩
 · simp only at h1; subst h1
   unfold Bv
   simp only [if_true,hb,List.drop_zero,Nat.sub_zero]
   by_cases hx:m=xs.length
   · rw [if_pos ⟨trivial,hx⟩]
     exact ⟨_,_,rfl,.inr ⟨rfl,.inr (.inr (.inl (by rw [hx,List.take_length]))),rfl⟩,rfl⟩
   · rw [if_neg (fun hh=>hx hh.2),if_neg hx]
     exact ⟨_,_,rfl,.inr ⟨rfl,.inr (.inr (.inr (.inl rfl))),rfl⟩,rfl⟩
 · simp only at h1; subst h1
   unfold Bv
   simp only [if_true,hb,List.drop_zero,Nat.sub_zero]
   by_cases hx:m=xs.length
   · rw [if_pos ⟨trivial,hx⟩]
     exact ⟨_,_,rfl,.inr ⟨rfl,.inr (.inr (.inr (.inr (.inl (by rw [hx,List.take_length]))))),rfl⟩,rfl⟩
   · rw [if_neg (fun hh=>hx hh.2)]
     exact ⟨_,_,rfl,.inr ⟨rfl,.inr (.inr (.inr (.inr (.inr rfl)))),rfl⟩,rfl⟩
 · simp only at ha
   have k7:=k7 rfl
   by_cases hx:m=xs.length
   · refine ⟨a,s,?_,.inl ⟨true,by rw [hx,List.take_length,Nc h]; exact H,fun _=>rfl⟩,rfl⟩
     rw [ha]
     unfold Bv
     simp only [if_true,hb]
     rw [if_pos ⟨trivial,hx⟩]
   · refine ⟨.sl es (xs.take m) (.tok k (v+1)),s.setTok k ⟨m,v+1,t.pub,t.ty⟩,?_,.inl ⟨true,H.setTok h ha k3 (xs.take m) ⟨m,v+1,t.pub,t.ty⟩ (v+1) true rfl (by simp only; rw [List.length_take]; omega) rfl (fun _=>k7),fun _=>rfl⟩,rfl⟩
     rw [ha]
     unfold Bv
     have hc:(true&&Nat.beq 0 0&&Nat.beq t.front xs.length&&Nat.ble t.pub m)=true:=by rw [k5,k7]; simp
     simp only [if_true,hb,k3,k4,hc,List.drop_zero,Nat.sub_zero]
     rw [if_neg (fun hh=>hx hh.2)]
theorem Hp.thaw (H:Hp s0 s n R B) (i:Nat) {es T:Nat} {a:AV} {xs:List AV} (h:R[i]? = some ⟨es,T,a,xs,true⟩) (ha:Av a≠none) (f:List Nat) (hf:f.Nodup) (hi:i∉f) :
    ∃ s',FO s a=some (.bl s.nb es 0 xs.length (xs.length*es,false),s')∧Hp s0 s' n (pick R f) ((s.nb,.row T (CU xs) false 0)::B)∧s'.nb=s.nb+1:=by
 rcases H.rows h with hh | ⟨k,v,t,ha,k1,k2,k3,k4,k5,k6,k7⟩
 · exact absurd (EI hh) ha
 · simp only at ha
   have hk:Av a=some k:=by rw [ha]; rfl
   have k7:=k7 rfl
   refine ⟨(s.killTok k).new (.row T (CU xs) false 0),?_,?_,rfl⟩
   · obtain ⟨fr,ve,pu,ty⟩:=t
     simp only at k4 k5 k6 k7
     subst k4; subst k7; subst k6; subst ha
     simp only [FO,Rj,k3]
     rw [if_pos ⟨trivial,k5,trivial⟩]
   · have H1:=H.sel f (List.range B.length) hf List.nodup_range
     have htk:∀ j,j≠k→((s.killTok k).new (.row T (CU xs) false 0)).tok? j=s.tok? j:=fun j hj=>by
      simp only [St.tok?,St.killTok,St.new]
      cases hb:j.blt s.nt with
      | true =>
        have hb':j < s.nt:=by rw [Nat.blt_eq] at hb; exact hb
        simp only [cond_true]
        rw [List.getElem?_set_ne (by omega)]
      | false=>rfl
     have hov:Over s0 (s.killTok k):=by
      refine ⟨H.over.nb,H.over.boxes,H.over.nt,?_,H.over.lo⟩
      simp only [St.killTok]
      rw [List.drop_set_of_lt (by omega)]
      exact H.over.toks
     exact {
      wf:=⟨by simp [St.new,St.killTok,H.wf.b],by simp [St.new,St.killTok,H.wf.t]⟩
      over:=hov.new _
      lo:=H.lo
      nb:=Nat.le_succ_of_le H.nb
      nt:=H.nt
      rows:=fun {j x} hj=>by
       obtain ⟨m,i',a1,a2,_⟩:=E9 R f hj
       exact (H.rows a2).mono (Nat.le_refl _) fun q hq=>htk q fun he=>by
        subst he
        exact H.apart (fun he=>hi (by rw [← he]; exact List.mem_of_getElem? a1)) a2 h hq hk
      apart:=H1.apart
      box:=fun {j p} hj=>by
       cases j with
       | zero =>
         simp only [List.getElem?_cons_zero,Option.some.injEq] at hj; subst hj
         exact ⟨BR (s.killTok k) _,H.over.nb,Nat.lt_succ_self _⟩
       | succ j =>
         obtain ⟨h1,h2,h3⟩:=H.box (i:=j) (by simpa using hj)
         exact ⟨by rw [El (s:=s.killTok k) h3]; exact h1,h2,Nat.lt_succ_of_lt h3⟩
      bapart:=(H.new (.row T (CU xs) false 0)).bapart }
theorem Hp.leave {s1:St} {n1:En} {R1:List RA} {B1:List (Nat×Box)} (H:Hp s0 s n R B) (K:Hp s0 s1 ⟨n1.lo,s.nb,s.nt⟩ R1 B1) (v:AV) (hB:∀ {i:Nat} {p:Nat×Box},B1[i]? = some p→p.1 < s.nb) (hl:n1.lo < s.nb∨∀ {i:Nat} {r:RA} {k:Nat},R1[i]? = some r→Av r.a=some k→k < s.nt) :
    Hp s0 (Am.leave s s1 v) n R1 B1:=by
 have hnb:s.nb≤s1.nb:=K.nb
 have hnt:s.nt≤s1.nt:=K.nt
 unfold Am.leave
 split
 · rename_i hc
   simp only [Bool.and_eq_true,Nat.ble_eq] at hc
   have hl:∀ {i:Nat} {r:RA} {k:Nat},R1[i]? = some r→Av r.a=some k→k < s.nt:=by
    rcases hl with hl | hl
    · have:s1.lo≤n1.lo:=K.lo
      omega
    · exact hl
   have h1:=K.over
   have h0:=H.over
   exact {
    wf:=⟨by simp only [List.length_drop]; rw [K.wf.b]; omega,by simp only [List.length_drop]; rw [K.wf.t]; omega⟩
    over:=⟨h0.nb,by
     simp only [List.drop_drop]
     rw [show s1.nb - s.nb+(s.nb - s0.nb)=s1.nb - s0.nb by have:=h0.nb; omega]
     exact h1.boxes,h0.nt,by
     simp only [List.drop_drop]
     rw [show s1.nt - s.nt+(s.nt - s0.nt)=s1.nt - s0.nt by have:=h0.nt; omega]
     exact h1.toks,h0.lo⟩
    lo:=H.lo
    nb:=H.nb
    nt:=H.nt
    rows:=fun {i r} hr=>by
     rcases K.rows hr with hh | ⟨k,w,t,ha,k1,k2,k3,k4⟩
     · exact .inl hh
     · have hk:=hl hr (by rw [ha]; rfl:Av r.a=some k)
       exact .inr ⟨k,w,t,ha,k1,hk,by rw [Ns K.wf hnt hk]; exact k3,k4⟩
    apart:=K.apart
    box:=fun {i p} hp=>by
     obtain ⟨h1,h2,h3⟩:=K.box hp
     exact ⟨by rw [Nr K.wf hnb (hB hp)]; exact h1,h2,hB hp⟩
    bapart:=K.bapart }
 · refine { wf:=K.wf.lo _,over:=K.over.setLo ?_,lo:=by have:=H.lo; simp only; omega,nb:=by have:=H.nb; simp only; omega,nt:=by have:=H.nt; simp only; omega,rows:=fun hr=>(K.rows hr).mono (Nat.le_refl _) fun _ _=>rfl,apart:=K.apart,box:=K.box,bapart:=K.bapart }
   have:=H.over.lo
   have:=K.over.lo
   omega
theorem Hp.leaveR {s1:St} {n1:En} {R1:List RA} {B1:List (Nat×Box)} (H:Hp s0 s n R B) (K:Hp s0 s1 ⟨n1.lo,s.nb,s.nt⟩ R1 B1) {v:AV} (hv:v.refs=true):Hp s0 (Am.leave s s1 v) n R1 B1:=by
 have hnb:s.nb≤s1.nb:=K.nb
 have hnt:s.nt≤s1.nt:=K.nt
 unfold Am.leave
 rw [hv]
 simp only [Bool.not_true,Bool.and_false,Bool.false_eq_true,if_false]
 refine { wf:=K.wf.lo _,over:=K.over.setLo ?_,lo:=by have:=H.lo; simp only; omega,nb:=by have:=H.nb; simp only; omega,nt:=by have:=H.nt; simp only; omega,rows:=fun hr=>(K.rows hr).mono (Nat.le_refl _) fun _ _=>rfl,apart:=K.apart,box:=K.box,bapart:=K.bapart }
 have:=H.over.lo
 have:=K.over.lo
 omega
theorem DD.cells {es:Nat} {a:AV} {xs:List AV} (h:DD es a xs):a.cells=[a]∧ones [a]=true∧Av a=none:=by
 rcases h with ⟨rfl,_⟩ | ⟨rfl,_⟩ | rfl | rfl | rfl | rfl<;>exact ⟨rfl,rfl,rfl⟩
theorem DD.ones {es:Nat} {a:AV} {xs:List AV} (h:DD es a xs) (l:List AV):Am.ones (a::l)=Am.ones l:=by
 rcases h with ⟨rfl,_⟩ | ⟨rfl,_⟩ | rfl | rfl | rfl | rfl<;>rfl
theorem RowH.ones {t0:Nat} (h:RowH t0 s r) (l:List AV):Am.ones (r.a::l)=Am.ones l:=by
 rcases h with (⟨h,_⟩ | ⟨h,_⟩ | h | h) | ⟨k',v,t,h,_⟩<;>rw [h]<;>rfl
theorem Hp.rcells (H:Hp s0 s n R B) (i:Nat) {es T:Nat} {a:AV} {xs:List AV} {fr:Bool} (h:R[i]? = some ⟨es,T,a,xs,fr⟩):a.cells=[a]∧Am.ones [a]=true∧∀ l,Am.ones (a::l)=Am.ones l :=
 ⟨(H.rows h).cells.1,(H.rows h).cells.2,fun l=>(H.rows h).ones l⟩
theorem DD.pub {es:Nat} {a:AV} {xs:List AV} (h:DD es a xs) (s:St):Am.pub s a=some (a,s):=by
 rcases h with ⟨rfl,_⟩ | ⟨rfl,_⟩ | rfl | rfl | rfl | rfl<;>rfl
theorem DD.frz {es:Nat} {a:AV} {xs:List AV} (h:DD es a xs) (s:St):Am.frz s a=some (a,s):=by
 rcases h with ⟨rfl,_⟩ | ⟨rfl,_⟩ | rfl | rfl | rfl | rfl<;>rfl
theorem DD.pubA {es:Nat} {a:AV} {xs:List AV} (h:DD es a xs) (s:St):Am.pubA s a=some (a,s):=by
 rcases h with ⟨rfl,_⟩ | ⟨rfl,_⟩ | rfl | rfl | rfl | rfl<;>rfl
theorem DD.elems {es:Nat} {a:AV} {xs:List AV} (h:DD es a xs) (s:St):Am.elems s es a=some xs:=by
 rcases h with ⟨rfl,rfl⟩ | ⟨rfl,rfl⟩ | rfl | rfl | rfl | rfl<;>simp [Am.elems,St.ok]
theorem DD.noTok {es:Nat} {a:AV} {xs:List AV} (h:DD es a xs):noTok a=true:=by
 rcases h with ⟨rfl,rfl⟩ | ⟨rfl,rfl⟩ | rfl | rfl | rfl | rfl<;>rfl
theorem DD.refs {es:Nat} {a:AV} {xs:List AV} (h:DD es a xs) (hx:AV.refs.go xs=false):a.refs=false:=by
 rcases h with ⟨rfl,rfl⟩ | ⟨rfl,rfl⟩ | rfl | rfl | rfl | rfl<;>first | rfl | exact hx
theorem DD.len {es:Nat} {a:AV} {xs:List AV} (h:DD es a xs) (s:St):lenA s 1 a=some (.i .i64 (xs.length:Nat)):=by
 rcases h with ⟨rfl,rfl⟩ | ⟨rfl,rfl⟩ | rfl | rfl | rfl | rfl<;>rfl
theorem DD.ws {f:Bool} {es:Nat} {xs:List AV}:DD es (.ws f es xs) xs:=by
 cases f
 · exact .inr (.inr (.inr (.inr (.inr rfl))))
 · exact .inr (.inr (.inr (.inr (.inl rfl))))
theorem DD.wk {es:Nat} {a:AV} {xs:List AV} (h:DD es a xs) {c:CT} (hc:wkM c xs=xs):wk (.sl es c) a=.ws false es xs:=by
 have hb:Nat.beq es es=true:=by simp
 rcases h with ⟨rfl,rfl⟩ | ⟨rfl,rfl⟩ | rfl | rfl | rfl | rfl<;>simp [Am.wk,hc]
theorem Y1:∀ L:List (List Nat),wkM .id (L.map AV.s)=L.map .s
 | []=>by simp only [List.map_nil,wkM]
 | x::L=>by
   simp only [List.map_cons,wkM,Y1 L,List.cons.injEq,and_true]
   rw [Am.wk]
theorem Nd:∀ L:List (List Nat),AV.refs.go (L.map AV.s)=false
 | []=>rfl
 | x::L=>by
   simp only [List.map_cons,AV.refs.go,Nd L]
   rfl
def Sm (lo:Nat) (e e':Tr):Prop:=∀ t,t < lo→e'.get t=e.get t
theorem Sm.refl (lo:Nat) (e:Tr):Sm lo e e:=fun _ _=>rfl
theorem Sm.put {lo:Nat} {e e':Tr} (h:Sm lo e e') {d:Nat} {v:AV} (h1:lo≤d) (h2:d < 1000):Sm lo e (e'.set 10 d v):=fun t ht=>by
 rw [LZ e' d v t h2,if_neg (by omega),h t ht]
theorem Sm.get {lo:Nat} {e e':Tr} (h:Sm lo e e') {t:Nat} (ht:t < lo):e'.get t=e.get t:=h t ht
end
end Go.Proofs.Ytgloinighjdhlaa.Am

namespace Go.Proofs.Ytgloinighjdhlaa.Am
section
variable {σ:Self} {e:Tr} {s:St} {Q:Ex→Tr→St→Prop}
def WE (σ:Self) (l:List Op) (e:Tr) (s:St) (tr:List St) (Q:List St→Tr→St→Prop):Prop:=match B4 σ l e s with
 | some r=>match G6 r with
   | some (e',s')=>Q (tr++r.map (·.2)) e' s'
   | none=>False
 | none=>False
def KE (σ:Self) (d:Option Nat) (l:List Op) (e:Tr) (tr:List St) (Q:List St→Tr→St→Prop):AV→St→Prop:=fun v s=>WE σ l (put e d v) s tr Q
def YB (l:List Op) (ts:List Nat):Bool:=l.all fun o=>match o.dst with
 | some d=>!ts.contains d
 | none=>true
def ssaB (ops:List Op) (wins:List (Nat×Nat×Nat)):Bool:=wins.all fun w=>match ops[w.1]? with
 | some o=>YB (ops.drop w.1) o.reads
 | none=>false
def YC (self:Self) (e:Tr) (op:AOp) (v:AV):Option St→Bool
 | some s=>Cs e s op&&(match evOp self e s op with
   | some (v',_)=>beqA v v'
   | none=>false)
 | none=>false
def chkS (self:Self) (ops:List Op) (tr:List St) (e:Tr):List (Nat×Nat×Nat)→Bool
 | []=>true
 | (i,lo,hi)::l=>(match ops[i]?,tr[i]? with
   | some o,some s=>!Cr e o.guard||(match evOp self e s o.op with
     | some (v,_)=>(List.range' lo (hi+1 - lo)).all fun k=>YC self e o.op v tr[k]?
     | none=>false)
   | _,_=>false)&&chkS self ops tr e l
theorem WE_nil {Q:List St→Tr→St→Prop} (tr:List St):WE σ [] e s tr Q↔Q (tr++[s]) e s:=Iff.rfl
theorem Tv {Q:List St→Tr→St→Prop} (o:Op) (l:List Op) (tr:List St) :
    WE σ (o::l) e s tr Q↔(match evD1 σ o e s with | some (e1,s1)=>WE σ l e1 s1 (tr++[s]) Q | none=>False):=by
 unfold WE
 simp only [B4]
 cases h:evD1 σ o e s with
 | none=>exact Iff.rfl
 | some r =>
   obtain ⟨e1,s1⟩:=r
   simp only
   cases ht:B4 σ l e1 s1 with
   | none=>exact Iff.rfl
   | some r =>
     simp only [IE (JQ ht),List.append_assoc,List.cons_append,List.nil_append,List.map_cons]
theorem Tw {Q:List St→Tr→St→Prop} (d:Option Nat) (op:AOp) (l:List Op) (tr:List St) :
    WE σ (⟨d,op,none⟩::l) e s tr Q↔(Nat.beq op.cls 2||Cs e s op)=true∧WS (evOp σ e s op) (KE σ d l e (tr++[s]) Q):=by
 rw [Tv]
 unfold WS KE
 simp only [evD1,Cr,if_true]
 by_cases hq:(Nat.beq op.cls 2||Cs e s op)=true
 · rw [if_pos hq]
   simp only [hq,true_and]
   cases evOp σ e s op<;>exact Iff.rfl
 · rw [if_neg hq]
   simp [hq]
theorem AJ {Q:List St→Tr→St→Prop} (d:Option Nat) (op:AOp) (l:List Op) (tr:List St) (t:Nat) (w:Bool) :
    WE σ (⟨d,op,some (t,w)⟩::l) e s tr Q↔CP (Ke (e.get t) w) ((Nat.beq op.cls 2||Cs e s op)=true∧WS (evOp σ e s op) (KE σ d l e (tr++[s]) Q)) (WE σ l (put e d undef) s (tr++[s]) Q):=by
 rw [← Nu,Tv]
 unfold WS KE
 simp only [evD1]
 by_cases hw:Cr e (some (t,w))=true
 · rw [if_pos hw,if_pos hw]
   by_cases hq:(Nat.beq op.cls 2||Cs e s op)=true
   · rw [if_pos hq]
     simp only [hq,true_and]
     cases evOp σ e s op<;>exact Iff.rfl
   · rw [if_neg hq]
     simp [hq]
 · rw [if_neg hw,if_neg hw]
theorem KE_ap (d:Option Nat) (l:List Op) (e0:Tr) (tr:List St) (Q:List St→Tr→St→Prop) (v:AV):KE σ d l e0 tr Q v s↔WE σ l (put e0 d v) s tr Q:=Iff.rfl
@[congr] theorem WE_congr {l:List Op} {e e':Tr} {s s':St} {tr tr':List St} {Q:List St→Tr→St→Prop} (h1:e=e') (h2:s=s') (h3:tr=tr'):WE σ l e s tr Q=WE σ l e' s' tr' Q:=by rw [h1,h2,h3]
@[congr] theorem KE_congr {d:Option Nat} {l:List Op} {e0 e0':Tr} {tr tr':List St} {Q:List St→Tr→St→Prop} {v v':AV} {s s':St} (h0:e0=e0') (h1:v=v') (h2:s=s') (h3:tr=tr'):KE σ d l e0 tr Q v s=KE σ d l e0' tr' Q v' s':=by rw [h0,h1,h2,h3]
def KW (σ:Self) (ops:List Op) (wins:List (Nat×Nat×Nat)) (Q:Ex→Tr→St→Prop):List St→Tr→St→Prop:=fun tr e s=>chkS σ ops tr e wins=true∧Q .n e s
@[congr] theorem KW_congr {ops:List Op} {w:List (Nat×Nat×Nat)} {tr tr':List St} {e e':Tr} {s s':St} (h1:tr=tr') (h2:e=e') (h3:s=s'):KW σ ops w Q tr e s=KW σ ops w Q tr' e' s':=by rw [h1,h2,h3]
theorem YD {e:Tr} {d:Option Nat} {v:AV} {t:Nat} (ht:t < 1000) (hd:∀ x,d=some x→x < 1000∧x≠t):(put e d v).get t=e.get t:=by
 cases d with
 | none=>rfl
 | some x =>
   obtain ⟨h1,h2⟩:=hd x rfl
   rw [Ft,LZ e x v t h1,if_neg (fun h=>h2 h.symm)]
def JR (ops:List Op):Bool:=ops.all fun o=>(match o.dst with | some d=>Nat.blt d 1000 | none=>true)&&o.reads.all (Nat.blt · 1000)
theorem NE : ∀ {l:List Op} {e:Tr} {s:St} {r:List (Tr×St)} {e':Tr} {s':St},JR l=true→B4 σ l e s=some r→G6 r=some (e',s')→∀ {ts:List Nat},YB l ts=true→∀ t∈ts,t < 1000→e'.get t=e.get t
 | [],e,s,r,e',s',_,h,hl,ts,hs,t,ht,h1=>by
   simp only [B4,Option.some.injEq] at h; subst h
   simp only [G6,Option.some.injEq,Prod.mk.injEq] at hl
   rw [hl.1]
 | o :: l, e,s,r,e',s',hm,h,hl,ts,hs,t,ht,h1=>by
   simp only [B4] at h
   cases hd:evD1 σ o e s with
   | none=>rw [hd] at h; cases h
   | some x =>
     obtain ⟨e1,s1⟩:=x
     rw [hd] at h
     simp only at h
     cases hr:B4 σ l e1 s1 with
     | none=>rw [hr] at h; cases h
     | some r1 =>
       rw [hr] at h
       simp only [Option.some.injEq] at h
       subst h
       rw [IE (JQ hr)] at hl
       simp only [YB,List.all_cons,Bool.and_eq_true] at hs
       simp only [JR,List.all_cons,Bool.and_eq_true] at hm
       have h2:=NE (l:=l) hm.2 hr hl (ts:=ts) hs.2 t ht h1
       rw [h2]
       have hput:∀ v,(put e o.dst v).get t=e.get t:=fun v=>YD h1 fun x hx=>by
        have a1:=hs.1
        have a2:=hm.1.1
        rw [hx] at a1 a2
        simp only [Bool.not_eq_true',List.contains_eq_mem,decide_eq_false_iff_not] at a1
        simp only [Nat.blt_eq] at a2
        exact ⟨a2,fun he=>a1 (he ▸ ht)⟩
       unfold evD1 at hd
       split at hd
       · split at hd
         · split at hd
           · cases hd; exact hput _
           · cases hd
         · cases hd
       · cases hd; exact hput _
theorem Oy:∀ {l:List Op} {e:Tr} {s:St} {r:List (Tr×St)} (i:Nat) {ei:Tr} {si:St},B4 σ l e s=some r→r[i]? = some (ei,si)→∃ r',B4 σ (l.drop i) ei si=some r'∧G6 r'=G6 r
 | l, e, s,r,0,ei,si,h,hi=>by
   refine ⟨r,?_,rfl⟩
   cases l with
   | nil =>
     simp only [B4,Option.some.injEq] at h; subst h
     simp only [List.getElem?_cons_zero,Option.some.injEq,Prod.mk.injEq] at hi
     rw [← hi.1,← hi.2]; rfl
   | cons o l =>
     have h':=h
     simp only [B4] at h
     cases hd:evD1 σ o e s with
     | none=>rw [hd] at h; cases h
     | some x =>
       rw [hd] at h
       simp only at h
       cases hr:B4 σ l x.1 x.2 with
       | none=>rw [hr] at h; cases h
       | some r1 =>
         rw [hr] at h
         simp only [Option.some.injEq] at h
         subst h
         simp only [List.getElem?_cons_zero,Option.some.injEq,Prod.mk.injEq] at hi
         rw [← hi.1,← hi.2]
         exact h'
 | [],e,s,r,i+1,ei,si,h,hi=>by
   simp only [B4,Option.some.injEq] at h; subst h
   simp at hi
 | o :: l,e,s,r,i+1,ei,si,h,hi=>by
   simp only [B4] at h
   cases hd:evD1 σ o e s with
   | none=>rw [hd] at h; cases h
   | some x =>
     rw [hd] at h
     simp only at h
     cases hr:B4 σ l x.1 x.2 with
     | none=>rw [hr] at h; cases h
     | some r1 =>
       rw [hr] at h
       simp only [Option.some.injEq] at h
       subst h
       rw [IE (JQ hr),List.drop_succ_cons]
       exact Oy i hr (by simpa using hi)
theorem Vo {ops:List Op} (hm:JR ops=true) {i:Nat} {o:Op} (h:ops[i]? = some o):∀ t∈o.reads,t < 1000:=by
 simp only [JR,List.all_eq_true,Bool.and_eq_true,Nat.blt_eq] at hm
 exact (hm o (List.mem_of_getElem? h)).2
theorem QB {ops:List Op} (hm:JR ops=true) (i:Nat):JR (ops.drop i)=true:=by
 simp only [JR,List.all_eq_true] at hm ⊢
 exact fun o ho=>hm o (List.mem_of_mem_drop ho)
theorem QC {e e2:Tr} {g:Option (Nat×Bool)} (h:∀ t w,g=some (t,w)→e.get t=e2.get t):Cr e g=Cr e2 g:=by
 cases g with
 | none=>rfl
 | some p=>obtain ⟨t,w⟩:=p; simp only [Cr,h t w rfl]
theorem Wk {l:List Op} {r:List (Tr×St)} {e':Tr} {s':St} (hm:JR l=true) (ht:B4 σ l e s=some r) (hl:G6 r=some (e',s')) :
    ∀ w:List (Nat×Nat×Nat),ssaB l w=true→chkS σ l (r.map (·.2)) e' w=true→chkD σ l r w=true
 | [],_,_=>rfl
 | (i, lo, hi)::w,hs,hc=>by
   simp only [ssaB,List.all_cons,Bool.and_eq_true] at hs
   simp only [chkS,Bool.and_eq_true] at hc
   simp only [chkD,Bool.and_eq_true]
   refine ⟨?_,Wk hm ht hl w hs.2 hc.2⟩
   have h1:=hs.1
   have h2:=hc.1
   cases ho:l[i]? with
   | none=>rw [ho] at h1; cases h1
   | some o =>
     rw [ho] at h1 h2
     simp only at h1 h2
     cases hr:r[i]? with
     | none=>rw [List.getElem?_map,hr] at h2; cases h2
     | some p =>
       obtain ⟨ei,si⟩:=p
       rw [List.getElem?_map,hr] at h2
       simp only [Option.map_some] at h2
       obtain ⟨r',k1,k2⟩:=Oy i ht hr
       have hst:∀ t∈o.reads,e'.get t=ei.get t:=fun t hh=>NE (QB hm i) k1 (by rw [k2]; exact hl) h1 t hh (Vo hm ho t hh)
       have hop:∀ t∈o.op.tmps,e'.get t=ei.get t:=fun t hh=>hst t (by
        unfold Op.reads
        split
        · exact hh
        · exact List.mem_cons_of_mem _ hh)
       have hw:Cr e' o.guard=Cr ei o.guard:=QC fun t w hg=>hst t (by unfold Op.reads; rw [hg]; exact List.mem_cons_self)
       rw [hw,Hy (self:=σ) (s:=si) hop] at h2
       simp only
       cases hwn:Cr ei o.guard with
       | false=>rfl
       | true =>
         rw [hwn] at h2
         simp only [Bool.not_true,Bool.false_or] at h2 ⊢
         cases hv:evOp σ ei si o.op with
         | none=>rw [hv] at h2; cases h2
         | some x =>
           rw [hv] at h2
           simp only [List.all_eq_true] at h2 ⊢
           intro k hk
           have:=h2 k hk
           rw [List.getElem?_map] at this
           cases hrk:r[k]? with
           | none=>rw [hrk] at this; cases this
           | some p =>
             rw [hrk] at this
             simp only [Option.map_some,YC] at this
             simp only [sameAt]
             rw [Pf hop,Hy hop] at this
             exact this
theorem Tx {l:List Op} {w:List (Nat×Nat×Nat)} (hs:(JR l&&ssaB l w)=true) (h:WE σ l e s [] (KW σ l w Q)):W σ (.regD l w) e s Q:=by
 rw [Bool.and_eq_true] at hs
 rw [Ae]
 unfold WE KW at h
 unfold WD KC
 cases ht:B4 σ l e s with
 | none=>rw [ht] at h; exact h
 | some r =>
   rw [ht] at h
   simp only at h ⊢
   cases hl:G6 r with
   | none=>rw [hl] at h; exact h
   | some x =>
     obtain ⟨e',s'⟩:=x
     rw [hl] at h
     simp only [List.nil_append] at h ⊢
     exact ⟨Wk hs.1 ht hl w hs.2 h.1,h.2⟩
def Vp (tr:List St) (agg:Bool) (n:Nat) (a v:AV):List Nat→Prop
 | []=>True
 | k::ks=>(∃ q,tr[k]? = some q∧ldA q agg n a=some v)∧Vp tr agg n a v ks
theorem Oz {tr:List St} {agg:Bool} {n:Nat} {a v:AV}:∀ {ks:List Nat},Vp tr agg n a v ks→∀ k∈ks,∃ q,tr[k]? = some q∧ldA q agg n a=some v
 | k::ks,h,j,hj=>by
   rcases List.mem_cons.1 hj with rfl | hj
   · exact h.1
   · exact Oz h.2 j hj
def still:AV→Bool
 | .agg l=>l.all noTok&&(match pubL noSt l with | some (l',_)=>E8 l l' | none=>false)&&E8 l l
 | v=>beqA v v
theorem Ty:∀ {l:List AV},l.all noTok=true→∀ s,pubL s l=some (l,s)
 | [],_,s=>rfl
 | a::l,h,s=>by
   simp only [List.all_cons,Bool.and_eq_true] at h
   have h1:pub s a=some (a,s):=by
    have:=h.1
    cases a with
    | sl e x m=>cases m<;>first | rfl | cases this
    | ep l o m=>cases m<;>first | rfl | cases this
    | sd=>cases this
    | _=>rfl
   simp only [pubL,h1,Ty h.2 s]
theorem KW_ldG {ops:List Op} {tr:List St} {l:List (Nat×Nat×Nat)} {i lo hi:Nat} {d:Option Nat} {agg:Bool} {n:Nat} {x:X} {a v:AV} {g:Option (Nat×Bool)} (ho:ops[i]? = some ⟨d,.ld agg n x,g⟩) (ha:x.ev e=a) (hb:still v=true)
    (h:Vp tr agg n a v (i::List.range' lo (hi+1 - lo))) (h2:KW σ ops l Q tr e s):KW σ ops ((i,lo,hi)::l) Q tr e s:=by
 refine ⟨?_,h2.2⟩
 obtain ⟨⟨q,h3,h4⟩,h5⟩:=h
 subst ha
 simp only [chkS,Bool.and_eq_true,ho,h3]
 refine ⟨?_,h2.1⟩
 have key:∀ q',ldA q' agg n (x.ev e)=some v→Cs e q' (.ld agg n x)=true∧∃ w,evOp σ e q' (.ld agg n x)=some (w,q')∧w=v∧beqA v v=true:=fun q' hq=>by
  simp only [Cs,evOp,hq]
  cases v with
  | agg cs =>
    simp only [still,Bool.and_eq_true] at hb
    simp only [Ty hb.1.1 q']
    refine ⟨hb.1.1,_,rfl,rfl,?_⟩
    simp only [beqA]
    exact hb.2
  | _=>exact ⟨rfl,_,rfl,rfl,hb⟩
 obtain ⟨_,w,k2,rfl,_⟩:=key q h4
 simp only [k2,Bool.or_eq_true,List.all_eq_true]
 refine .inr fun k hk=>?_
 obtain ⟨q',h6,h7⟩:=Oz h5 k hk
 obtain ⟨g1,w',g2,rfl,g4⟩:=key q' h7
 simp only [YC,h6,g1,g2,g4,Bool.and_self]
theorem Vq {ops:List Op} {tr:List St} {l:List (Nat×Nat×Nat)} {i lo hi:Nat} {d:Option Nat} {agg:Bool} {n:Nat} {x:X} {a v:AV} (ho:ops[i]? = some ⟨d,.ld agg n x,none⟩) (ha:x.ev e=a) (hb:still v=true)
    (h:Vp tr agg n a v (i::List.range' lo (hi+1 - lo))) (h2:KW σ ops l Q tr e s):KW σ ops ((i,lo,hi)::l) Q tr e s:=KW_ldG ho ha hb h h2
theorem O0:∀ l:List Nat,beqN l l=true
 | []=>rfl
 | a::l=>by simp only [beqN,O0 l,Nat.beq_eq_true_eq,Bool.and_self]; simp
theorem YE (k:IntKind) (n:Int):still (.i k n)=true:=by simp [still,beqA]
theorem Tz {ops:List Op} {tr:List St} (h:Q .n e s):KW σ ops [] Q tr e s:=⟨rfl,h⟩
def WQ (σ:Self) (l:List Op) (e:Tr) (s:St) (Q:Tr→St→Prop):Prop:=match B4 σ l e s with
 | some r=>match G6 r with
   | some (e',s')=>Q e' s'
   | none=>False
 | none=>False
def KQ (σ:Self) (d:Option Nat) (l:List Op) (e:Tr) (Q:Tr→St→Prop):AV→St→Prop:=fun v s=>WQ σ l (put e d v) s Q
theorem WQ_nil {Q:Tr→St→Prop}:WQ σ [] e s Q↔Q e s:=Iff.rfl
theorem YF {Q:Tr→St→Prop} (d:Option Nat) (op:AOp) (l:List Op) :
    WQ σ (⟨d,op,none⟩::l) e s Q↔(Nat.beq op.cls 2||Cs e s op)=true∧WS (evOp σ e s op) (KQ σ d l e Q):=Tw (Q:=fun _=>Q) d op l []
theorem AK {Q:Tr→St→Prop} (d:Option Nat) (op:AOp) (l:List Op) (t:Nat) (w:Bool) :
    WQ σ (⟨d,op,some (t,w)⟩::l) e s Q↔CP (Ke (e.get t) w) ((Nat.beq op.cls 2||Cs e s op)=true∧WS (evOp σ e s op) (KQ σ d l e Q)) (WQ σ l (put e d undef) s Q):=AJ (Q:=fun _=>Q) d op l [] t w
theorem KQ_ap (d:Option Nat) (l:List Op) (e0:Tr) (Q:Tr→St→Prop) (v:AV):KQ σ d l e0 Q v s↔WQ σ l (put e0 d v) s Q:=Iff.rfl
@[congr] theorem WQ_congr {l:List Op} {e e':Tr} {s s':St} {Q:Tr→St→Prop} (h1:e=e') (h2:s=s'):WQ σ l e s Q=WQ σ l e' s' Q:=by rw [h1,h2]
@[congr] theorem KQ_congr {d:Option Nat} {l:List Op} {e0 e0':Tr} {Q:Tr→St→Prop} {v v':AV} {s s':St} (h0:e0=e0') (h1:v=v') (h2:s=s'):KQ σ d l e0 Q v s=KQ σ d l e0' Q v' s':=by rw [h0,h1,h2]
theorem W_regQ (l:List Op):W σ (.regD l []) e s Q↔WQ σ l e s (KN Q):=by
 rw [Ae]
 unfold WD WQ KC KN
 cases B4 σ l e s with
 | none=>exact Iff.rfl
 | some r =>
   simp only
   cases G6 r with
   | none=>exact Iff.rfl
   | some x=>simp [chkD]
end
end Go.Proofs.Ytgloinighjdhlaa.Am

namespace Go.Proofs.Ytgloinighjdhlaa.Am
theorem Bx (l:List AV):(AV.agg l).cells=l:=rfl
theorem cl_s (l:List Nat):(AV.s l).cells=[.s l]:=rfl
theorem cl_i (k:IntKind) (n:Int):(AV.i k n).cells=[.i k n]:=rfl
theorem cl_b (b:Bool):(AV.b b).cells=[.b b]:=rfl
theorem cl_p (i o:Nat):(AV.p i o).cells=[.p i o]:=rfl
theorem cl_np:AV.np.cells=[.np]:=rfl
theorem cl_nsl:AV.nsl.cells=[.nsl]:=rfl
theorem cl_ws (f:Bool) (e:Nat) (l:List AV):(AV.ws f e l).cells=[.ws f e l]:=rfl
theorem cl_sl (e:Nat) (l:List AV) (m:Cap):(AV.sl e l m).cells=[.sl e l m]:=rfl
theorem cl_fn (f:Nat) (l:List AV):(AV.fn f l).cells=[.fn f l]:=rfl
theorem ln0:([]:List AV).length=0:=rfl
theorem ln1 (a:AV):[a].length=1:=rfl
theorem ln2 (a b:AV):[a,b].length=2:=rfl
theorem ln3 (a b c:AV):[a,b,c].length=3:=rfl
theorem ln4 (a b c d:AV):[a,b,c,d].length=4:=rfl
theorem ln5 (a b c d e:AV):[a,b,c,d,e].length=5:=rfl
theorem ln6 (a b c d e f:AV):[a,b,c,d,e,f].length=6:=rfl
theorem ov2_0 (a b x:AV):over [a,b] 0 [x]=some [x,b]:=rfl
theorem ov2_1 (a b x:AV):over [a,b] 1 [x]=some [a,x]:=rfl
theorem ov3_0 (a b c x:AV):over [a,b,c] 0 [x]=some [x,b,c]:=rfl
theorem ov3_1 (a b c x:AV):over [a,b,c] 1 [x]=some [a,x,c]:=rfl
theorem ov3_2 (a b c x:AV):over [a,b,c] 2 [x]=some [a,b,x]:=rfl
theorem ov4_0 (a b c d x:AV):over [a,b,c,d] 0 [x]=some [x,b,c,d]:=rfl
theorem ov4_1 (a b c d x:AV):over [a,b,c,d] 1 [x]=some [a,x,c,d]:=rfl
theorem ov4_2 (a b c d x:AV):over [a,b,c,d] 2 [x]=some [a,b,x,d]:=rfl
theorem ov4_3 (a b c d x:AV):over [a,b,c,d] 3 [x]=some [a,b,c,x]:=rfl
theorem nt_i (k:IntKind) (n:Int):noTok (.i k n)=true:=rfl
theorem nt_s (l:List Nat):noTok (.s l)=true:=rfl
theorem nt_b (b:Bool):noTok (.b b)=true:=rfl
theorem nt_p (a b:Nat):noTok (.p a b)=true:=rfl
theorem nt_np:noTok .np=true:=rfl
theorem nt_nsl:noTok .nsl=true:=rfl
theorem nt_wz:noTok .wz=true:=rfl
theorem nt_ws (f:Bool) (n:Nat) (l:List AV):noTok (.ws f n l)=true:=rfl
theorem Xe (n:Nat) (l:List AV):noTok (.sl n l .full)=true:=rfl
theorem Xf (n:Nat) (l:List AV):noTok (.sl n l .shut)=true:=rfl
theorem nt_agg (l:List AV):noTok (.agg l)=true:=rfl
theorem nt_fn (f:Nat) (l:List AV):noTok (.fn f l)=true:=rfl
theorem nt_bl (a b c d:Nat) (x:Nat×Bool):noTok (.bl a b c d x)=true:=rfl
theorem nt_nf:noTok .nf=true:=rfl
theorem nt_ni:noTok .ni=true:=rfl
theorem nt_nm:noTok .nm=true:=rfl
theorem nt_m (i:Nat):noTok (.m i)=true:=rfl
theorem nt_ifc (t:Nat) (v:AV):noTok (.ifc t v)=true:=rfl
theorem Xg (s:St):pub s .wz=some (.wz,s):=rfl
theorem Xh (s:St):pub s .nf=some (.nf,s):=rfl
theorem Xi (s:St):pub s .ni=some (.ni,s):=rfl
theorem Xj (s:St):pub s .nm=some (.nm,s):=rfl
theorem pubC_m (s:St) (i:Nat):pub s (.m i)=some (.m i,s):=rfl
theorem VX (s:St) (t:Nat) (v:AV):pub s (.ifc t v)=some (.ifc t v,s):=rfl
theorem VY (s:St) (l:List AV):pub s (.tup l)=some (.tup l,s):=rfl
theorem Hp.still {s0 s:St} {n:En} {R:List RA} {B:List (Nat×Box)} (H:Hp s0 s n R B) (i:Nat) {es T:Nat} {a:AV} {xs:List AV} {fr:Bool} (h:R[i]? = some ⟨es,T,a,xs,fr⟩) (hx:E8 xs xs=true):still a=true:=by
 rcases H.rows h with (⟨h,_⟩ | ⟨h,_⟩ | h | h) | ⟨k',v,t,h,_⟩<;>simp only at h<;>subst h<;>simp [Am.still,beqA,hx]
def ldR (s:St):Option AV→Option (AV×St)
 | some (.agg l)=>match pubL s l with
   | some (l,s)=>some (.agg l,s)
   | none=>none
 | some v=>some (v,s)
 | none=>none
def ldQ:Option AV→Bool
 | some (.agg l)=>l.all noTok
 | _=>true
theorem Xk (σ:Self) (e:Tr) (s:St) (g:Bool) (n:Nat) (x:X):evOp σ e s (.ld g n x)=ldR s (ldA s g n (x.ev e)):=rfl
theorem VZ (e:Tr) (s:St) (g:Bool) (n:Nat) (x:X):Cs e s (.ld g n x)=ldQ (ldA s g n (x.ev e)):=rfl
theorem Xl (s:St) (l:List AV):ldR s (some (.agg l))=(match pubL s l with
    | some (l,s)=>some (.agg l,s)
    | none=>none):=rfl
theorem Xm (l:List AV):ldQ (some (.agg l))=l.all noTok:=rfl
theorem ldR_i (s:St) (k:IntKind) (n:Int):ldR s (some (.i k n))=some (.i k n,s):=rfl
theorem ldR_s (s:St) (l:List Nat):ldR s (some (.s l))=some (.s l,s):=rfl
theorem ldR_b (s:St) (b:Bool):ldR s (some (.b b))=some (.b b,s):=rfl
theorem ldR_p (s:St) (i o:Nat):ldR s (some (.p i o))=some (.p i o,s):=rfl
theorem ldR_np (s:St):ldR s (some .np)=some (.np,s):=rfl
theorem Xn (s:St):ldR s (some .nsl)=some (.nsl,s):=rfl
theorem ldR_ws (s:St) (f:Bool) (e:Nat) (l:List AV):ldR s (some (.ws f e l))=some (.ws f e l,s):=rfl
theorem ldR_sl (s:St) (e:Nat) (l:List AV) (m:Cap):ldR s (some (.sl e l m))=some (.sl e l m,s):=rfl
theorem ldR_bl (s:St) (a b c d:Nat) (x:Nat×Bool):ldR s (some (.bl a b c d x))=some (.bl a b c d x,s):=rfl
theorem ldR_fn (s:St) (f:Nat) (l:List AV):ldR s (some (.fn f l))=some (.fn f l,s):=rfl
theorem Xq (s:St) (f:Nat):ldR s (some (.yld f))=some (.yld f,s):=rfl
theorem ldR_m (s:St) (i:Nat):ldR s (some (.m i))=some (.m i,s):=rfl
theorem ldR_nm (s:St):ldR s (some .nm)=some (.nm,s):=rfl
theorem ldR_ni (s:St):ldR s (some .ni)=some (.ni,s):=rfl
theorem ldR_nf (s:St):ldR s (some .nf)=some (.nf,s):=rfl
theorem Xr (s:St) (t:Nat) (v:AV):ldR s (some (.ifc t v))=some (.ifc t v,s):=rfl
theorem ldQ_i (k:IntKind) (n:Int):ldQ (some (.i k n))=true:=rfl
theorem ldQ_s (l:List Nat):ldQ (some (.s l))=true:=rfl
theorem ldQ_b (b:Bool):ldQ (some (.b b))=true:=rfl
theorem ldQ_p (i o:Nat):ldQ (some (.p i o))=true:=rfl
theorem ldQ_np:ldQ (some .np)=true:=rfl
theorem Xt:ldQ (some .nsl)=true:=rfl
theorem ldQ_ws (f:Bool) (e:Nat) (l:List AV):ldQ (some (.ws f e l))=true:=rfl
theorem ldQ_sl (e:Nat) (l:List AV) (m:Cap):ldQ (some (.sl e l m))=true:=rfl
theorem ldQ_bl (a b c d:Nat) (x:Nat×Bool):ldQ (some (.bl a b c d x))=true:=rfl
theorem ldQ_fn (f:Nat) (l:List AV):ldQ (some (.fn f l))=true:=rfl
theorem Xu (f:Nat):ldQ (some (.yld f))=true:=rfl
theorem ldQ_m (i:Nat):ldQ (some (.m i))=true:=rfl
theorem ldQ_nm:ldQ (some .nm)=true:=rfl
theorem ldQ_ni:ldQ (some .ni)=true:=rfl
theorem ldQ_nf:ldQ (some .nf)=true:=rfl
theorem Xv (t:Nat) (v:AV):ldQ (some (.ifc t v))=true:=rfl
theorem Va:ldQ none=true:=rfl
theorem RowH.ld {t0:Nat} {s:St} {r:RA} (h:RowH t0 s r):(∀ q,ldR q (some r.a)=some (r.a,q))∧ldQ (some r.a)=true:=by
 rcases h with (⟨h,_⟩ | ⟨h,_⟩ | h | h) | ⟨k',v,t,h,_⟩<;>rw [h]<;>exact ⟨fun _=>rfl,rfl⟩
theorem Hp.rld {s0 s:St} {n:En} {R:List RA} {B:List (Nat×Box)} (H:Hp s0 s n R B) (i:Nat) {es T:Nat} {a:AV} {xs:List AV} {fr:Bool} (h:R[i]? = some ⟨es,T,a,xs,fr⟩):(∀ q,ldR q (some a)=some (a,q))∧ldQ (some a)=true:=(H.rows h).ld
theorem DD.ld {es:Nat} {a:AV} {xs:List AV} (h:DD es a xs):(∀ q,ldR q (some a)=some (a,q))∧ldQ (some a)=true:=by
 rcases h with ⟨rfl,_⟩ | ⟨rfl,_⟩ | rfl | rfl | rfl | rfl<;>exact ⟨fun _=>rfl,rfl⟩
theorem Vb (s:St):([]:List St)++[s]=[s]:=rfl
theorem Td (a:St) (l:List St) (s:St):(a::l)++[s]=a::(l++[s]):=rfl
theorem pubA_i (s:St) (k:IntKind) (n:Int):pubA s (.i k n)=some (.i k n,s):=rfl
theorem frz_i (s:St) (k:IntKind) (n:Int):frz s (.i k n)=some (.i k n,s):=rfl
theorem pubA_s (s:St) (l:List Nat):pubA s (.s l)=some (.s l,s):=rfl
theorem frz_s (s:St) (l:List Nat):frz s (.s l)=some (.s l,s):=rfl
theorem pubA_b (s:St) (b:Bool):pubA s (.b b)=some (.b b,s):=rfl
theorem frz_b (s:St) (b:Bool):frz s (.b b)=some (.b b,s):=rfl
theorem pubA_p (s:St) (i o:Nat):pubA s (.p i o)=some (.p i o,s):=rfl
theorem frz_p (s:St) (i o:Nat):frz s (.p i o)=some (.p i o,s):=rfl
theorem Xw (s:St) :pubA s (.np)=some (.np,s):=rfl
theorem frz_np (s:St) :frz s (.np)=some (.np,s):=rfl
theorem Vc (s:St) :pubA s (.nsl)=some (.nsl,s):=rfl
theorem Xx (s:St) :frz s (.nsl)=some (.nsl,s):=rfl
theorem Xy (s:St) :pubA s (.wz)=some (.wz,s):=rfl
theorem frz_wz (s:St) :frz s (.wz)=some (.wz,s):=rfl
theorem Xz (s:St) (f:Bool) (e:Nat) (l:List AV):pubA s (.ws f e l)=some (.ws f e l,s):=rfl
theorem frz_ws (s:St) (f:Bool) (e:Nat) (l:List AV):frz s (.ws f e l)=some (.ws f e l,s):=rfl
theorem Te (s:St) (e:Nat) (l:List AV):pubA s (.sl e l .full)=some (.sl e l .full,s):=rfl
theorem Vd (s:St) (e:Nat) (l:List AV):frz s (.sl e l .full)=some (.sl e l .full,s):=rfl
theorem Tf (s:St) (e:Nat) (l:List AV):pubA s (.sl e l .shut)=some (.sl e l .shut,s):=rfl
theorem Ve (s:St) (e:Nat) (l:List AV):frz s (.sl e l .shut)=some (.sl e l .shut,s):=rfl
theorem X1 (s:St) (f:Nat) (l:List AV):pubA s (.fn f l)=some (.fn f l,s):=rfl
theorem frz_fn (s:St) (f:Nat) (l:List AV):frz s (.fn f l)=some (.fn f l,s):=rfl
theorem Vf (s:St) (t:Nat) (v:AV):pubA s (.ifc t v)=some (.ifc t v,s):=rfl
theorem X2 (s:St) (t:Nat) (v:AV):frz s (.ifc t v)=some (.ifc t v,s):=rfl
theorem X3 (s:St) :pubA s (.ni)=some (.ni,s):=rfl
theorem frz_ni (s:St) :frz s (.ni)=some (.ni,s):=rfl
theorem X4 (s:St) :pubA s (.nf)=some (.nf,s):=rfl
theorem frz_nf (s:St) :frz s (.nf)=some (.nf,s):=rfl
theorem X5 (s:St) :pubA s (.nm)=some (.nm,s):=rfl
theorem frz_nm (s:St) :frz s (.nm)=some (.nm,s):=rfl
theorem pubA_m (s:St) (i:Nat):pubA s (.m i)=some (.m i,s):=rfl
theorem frz_m (s:St) (i:Nat):frz s (.m i)=some (.m i,s):=rfl
theorem X6 (s:St) (l:List AV):frz s (.agg l)=some (.agg l,s):=rfl
theorem Vg (s:St) (l:List AV):pubA s (.agg l)=(match frzL s l with
    | some (l,s)=>some (.agg l,s)
    | none=>none):=rfl
theorem wv_u0:Ke undef false=.b false:=rfl
theorem wv_u1:Ke undef true=.b false:=rfl
def CC (v:AV) (σ:Self) (a b:C) (e:Tr) (s:St) (Q:Ex→Tr→St→Prop):Prop:=CP v (W σ a e s Q) (W σ b e s Q)
@[congr] theorem CC_congr {v v':AV} {σ:Self} {a b:C} {e:Tr} {s:St} {Q:Ex→Tr→St→Prop} (h:v=v'):CC v σ a b e s Q=CC v' σ a b e s Q:=by rw [h]
theorem AE {σ:Self} {e:Tr} {s:St} {Q:Ex→Tr→St→Prop} (c:X) (a b:C):W σ (.cond c a b) e s Q↔CC (c.ev e) σ a b e s Q:=Ah c a b
theorem CC_t (σ:Self) (a b:C) (e:Tr) (s:St) (Q:Ex→Tr→St→Prop):CC (.b true) σ a b e s Q↔W σ a e s Q:=Iff.rfl
theorem CC_f (σ:Self) (a b:C) (e:Tr) (s:St) (Q:Ex→Tr→St→Prop):CC (.b false) σ a b e s Q↔W σ b e s Q:=Iff.rfl
def CG (v:AV) (w:Bool) (σ:Self) (d:Option Nat) (op:AOp) (l:List Op) (e:Tr) (s:St) (R:Tr→St→Prop):Prop:=CP (Ke v w) (WS (evOp σ e s op) (KO σ d l e R)) (WO σ l (put e d undef) s R)
@[congr] theorem CG_congr {v v':AV} {w:Bool} {σ:Self} {d:Option Nat} {op:AOp} {l:List Op} {e:Tr} {s:St} {R:Tr→St→Prop} (h:v=v'):CG v w σ d op l e s R=CG v' w σ d op l e s R:=by rw [h]
theorem AA {σ:Self} {e:Tr} {s:St} {R:Tr→St→Prop} (d:Option Nat) (op:AOp) (l:List Op) (t:Nat) (w:Bool):WO σ (⟨d,op,some (t,w)⟩::l) e s R↔CG (e.get t) w σ d op l e s R:=AH d op l t w
section
variable (σ:Self) (d:Option Nat) (op:AOp) (l:List Op) (e:Tr) (s:St)
theorem CG_tt (R:Tr→St→Prop):CG (.b true) true σ d op l e s R↔WS (evOp σ e s op) (KO σ d l e R):=Iff.rfl
theorem CG_ff (R:Tr→St→Prop):CG (.b false) false σ d op l e s R↔WS (evOp σ e s op) (KO σ d l e R):=Iff.rfl
theorem CG_tf (R:Tr→St→Prop):CG (.b true) false σ d op l e s R↔WO σ l (put e d undef) s R:=Iff.rfl
theorem CG_ft (R:Tr→St→Prop):CG (.b false) true σ d op l e s R↔WO σ l (put e d undef) s R:=Iff.rfl
theorem CG_u (w:Bool) (R:Tr→St→Prop):CG undef w σ d op l e s R↔WO σ l (put e d undef) s R:=Iff.rfl
end
def CQ (v:AV) (w:Bool) (σ:Self) (d:Option Nat) (op:AOp) (l:List Op) (e:Tr) (s:St) (Q:Tr→St→Prop):Prop:=CP (Ke v w) ((Nat.beq op.cls 2||Cs e s op)=true∧WS (evOp σ e s op) (KQ σ d l e Q)) (WQ σ l (put e d undef) s Q)
@[congr] theorem CQ_congr {v v':AV} {w:Bool} {σ:Self} {d:Option Nat} {op:AOp} {l:List Op} {e:Tr} {s:St} {R:Tr→St→Prop} (h:v=v'):CQ v w σ d op l e s R=CQ v' w σ d op l e s R:=by rw [h]
theorem AB {σ:Self} {e:Tr} {s:St} {R:Tr→St→Prop} (d:Option Nat) (op:AOp) (l:List Op) (t:Nat) (w:Bool):WQ σ (⟨d,op,some (t,w)⟩::l) e s R↔CQ (e.get t) w σ d op l e s R:=AK d op l t w
def CE (v:AV) (w:Bool) (σ:Self) (d:Option Nat) (op:AOp) (l:List Op) (e:Tr) (s:St) (tr:List St) (Q:List St→Tr→St→Prop):Prop:=CP (Ke v w) ((Nat.beq op.cls 2||Cs e s op)=true∧WS (evOp σ e s op) (KE σ d l e (tr++[s]) Q)) (WE σ l (put e d undef) s (tr++[s]) Q)
@[congr] theorem CE_congr {v v':AV} {w:Bool} {σ:Self} {d:Option Nat} {op:AOp} {l:List Op} {e:Tr} {s:St} {tr:List St} {R:List St→Tr→St→Prop} (h:v=v'):CE v w σ d op l e s tr R=CE v' w σ d op l e s tr R:=by rw [h]
theorem AC {σ:Self} {e:Tr} {s:St} {tr:List St} {R:List St→Tr→St→Prop} (d:Option Nat) (op:AOp) (l:List Op) (t:Nat) (w:Bool):WE σ (⟨d,op,some (t,w)⟩::l) e s tr R↔CE (e.get t) w σ d op l e s tr R:=AJ d op l tr t w
section
variable (σ:Self) (d:Option Nat) (op:AOp) (l:List Op) (e:Tr) (s:St) (tr:List St)
theorem CQ_tt (R:Tr→St→Prop):CQ (.b true) true σ d op l e s R↔(Nat.beq op.cls 2||Cs e s op)=true∧WS (evOp σ e s op) (KQ σ d l e R):=Iff.rfl
theorem CQ_ff (R:Tr→St→Prop):CQ (.b false) false σ d op l e s R↔(Nat.beq op.cls 2||Cs e s op)=true∧WS (evOp σ e s op) (KQ σ d l e R):=Iff.rfl
theorem CQ_tf (R:Tr→St→Prop):CQ (.b true) false σ d op l e s R↔WQ σ l (put e d undef) s R:=Iff.rfl
theorem CQ_ft (R:Tr→St→Prop):CQ (.b false) true σ d op l e s R↔WQ σ l (put e d undef) s R:=Iff.rfl
theorem CQ_u (w:Bool) (R:Tr→St→Prop):CQ undef w σ d op l e s R↔WQ σ l (put e d undef) s R:=Iff.rfl
theorem CE_tt (R:List St→Tr→St→Prop):CE (.b true) true σ d op l e s tr R↔(Nat.beq op.cls 2||Cs e s op)=true∧WS (evOp σ e s op) (KE σ d l e (tr++[s]) R):=Iff.rfl
theorem CE_ff (R:List St→Tr→St→Prop):CE (.b false) false σ d op l e s tr R↔(Nat.beq op.cls 2||Cs e s op)=true∧WS (evOp σ e s op) (KE σ d l e (tr++[s]) R):=Iff.rfl
theorem CE_tf (R:List St→Tr→St→Prop):CE (.b true) false σ d op l e s tr R↔WE σ l (put e d undef) s (tr++[s]) R:=Iff.rfl
theorem CE_ft (R:List St→Tr→St→Prop):CE (.b false) true σ d op l e s tr R↔WE σ l (put e d undef) s (tr++[s]) R:=Iff.rfl
theorem CE_u (w:Bool) (R:List St→Tr→St→Prop):CE undef w σ d op l e s tr R↔WE σ l (put e d undef) s (tr++[s]) R:=Iff.rfl
end
theorem lnA_s (s:St) (l:List Nat):lenA s 0 (.s l)=some (.i .i64 (Int.ofNat l.length)):=rfl
theorem X7 (s:St):lenA s 1 .nsl=some (.i .i64 0):=rfl
theorem lnA_wz (s:St):lenA s 1 .wz=some (.i .i64 0):=rfl
theorem lnA_sl (s:St) (e:Nat) (l:List AV) (m:Cap):lenA s 1 (.sl e l m)=some (.i .i64 (Int.ofNat l.length)):=rfl
theorem lnA_ws (s:St) (f:Bool) (e:Nat) (l:List AV):lenA s 1 (.ws f e l)=some (.i .i64 (Int.ofNat l.length)):=rfl
theorem lnA_bl (s:St) (a b c n:Nat) (x:Nat×Bool):lenA s 1 (.bl a b c n x)=some (.i .i64 (Int.ofNat n)):=rfl
theorem lnA_nm (s:St):lenA s 2 .nm=some (.i .i64 0):=rfl
theorem ov5_0 (a0 a1 a2 a3 a4 x:AV):over [a0,a1,a2,a3,a4] 0 [x]=some [x,a1,a2,a3,a4]:=rfl
theorem ov5_1 (a0 a1 a2 a3 a4 x:AV):over [a0,a1,a2,a3,a4] 1 [x]=some [a0,x,a2,a3,a4]:=rfl
theorem ov5_2 (a0 a1 a2 a3 a4 x:AV):over [a0,a1,a2,a3,a4] 2 [x]=some [a0,a1,x,a3,a4]:=rfl
theorem ov5_3 (a0 a1 a2 a3 a4 x:AV):over [a0,a1,a2,a3,a4] 3 [x]=some [a0,a1,a2,x,a4]:=rfl
theorem ov5_4 (a0 a1 a2 a3 a4 x:AV):over [a0,a1,a2,a3,a4] 4 [x]=some [a0,a1,a2,a3,x]:=rfl
theorem ov6_0 (a0 a1 a2 a3 a4 a5 x:AV):over [a0,a1,a2,a3,a4,a5] 0 [x]=some [x,a1,a2,a3,a4,a5]:=rfl
theorem ov6_1 (a0 a1 a2 a3 a4 a5 x:AV):over [a0,a1,a2,a3,a4,a5] 1 [x]=some [a0,x,a2,a3,a4,a5]:=rfl
theorem ov6_2 (a0 a1 a2 a3 a4 a5 x:AV):over [a0,a1,a2,a3,a4,a5] 2 [x]=some [a0,a1,x,a3,a4,a5]:=rfl
theorem ov6_3 (a0 a1 a2 a3 a4 a5 x:AV):over [a0,a1,a2,a3,a4,a5] 3 [x]=some [a0,a1,a2,x,a4,a5]:=rfl
theorem ov6_4 (a0 a1 a2 a3 a4 a5 x:AV):over [a0,a1,a2,a3,a4,a5] 4 [x]=some [a0,a1,a2,a3,x,a5]:=rfl
theorem ov6_5 (a0 a1 a2 a3 a4 a5 x:AV):over [a0,a1,a2,a3,a4,a5] 5 [x]=some [a0,a1,a2,a3,a4,x]:=rfl
theorem ov7_0 (a0 a1 a2 a3 a4 a5 a6 x:AV):over [a0,a1,a2,a3,a4,a5,a6] 0 [x]=some [x,a1,a2,a3,a4,a5,a6]:=rfl
theorem ov7_1 (a0 a1 a2 a3 a4 a5 a6 x:AV):over [a0,a1,a2,a3,a4,a5,a6] 1 [x]=some [a0,x,a2,a3,a4,a5,a6]:=rfl
theorem ov7_2 (a0 a1 a2 a3 a4 a5 a6 x:AV):over [a0,a1,a2,a3,a4,a5,a6] 2 [x]=some [a0,a1,x,a3,a4,a5,a6]:=rfl
theorem ov7_3 (a0 a1 a2 a3 a4 a5 a6 x:AV):over [a0,a1,a2,a3,a4,a5,a6] 3 [x]=some [a0,a1,a2,x,a4,a5,a6]:=rfl
theorem ov7_4 (a0 a1 a2 a3 a4 a5 a6 x:AV):over [a0,a1,a2,a3,a4,a5,a6] 4 [x]=some [a0,a1,a2,a3,x,a5,a6]:=rfl
theorem ov7_5 (a0 a1 a2 a3 a4 a5 a6 x:AV):over [a0,a1,a2,a3,a4,a5,a6] 5 [x]=some [a0,a1,a2,a3,a4,x,a6]:=rfl
theorem ov7_6 (a0 a1 a2 a3 a4 a5 a6 x:AV):over [a0,a1,a2,a3,a4,a5,a6] 6 [x]=some [a0,a1,a2,a3,a4,a5,x]:=rfl
theorem cl_ifc (t:Nat) (v:AV):(AV.ifc t v).cells=[.ifc t v]:=rfl
theorem cl_wz:AV.wz.cells=[.wz]:=rfl
theorem cl_ni:AV.ni.cells=[.ni]:=rfl
theorem cl_nf:AV.nf.cells=[.nf]:=rfl
theorem cl_nm:AV.nm.cells=[.nm]:=rfl
theorem cl_m (i:Nat):(AV.m i).cells=[.m i]:=rfl
theorem eqI_fn (t:Nat) (v:AV):eqI (.ifc t v) .ni=some false:=rfl
theorem eqI_nn:eqI .ni .ni=some true:=rfl
theorem X8 (n:Nat):Int.ofNat n=(n:Int):=rfl
attribute [go_sem] Fp P2 P0 P3 Lx Ly Pz Lz Il Ir P7 P8 P9 QA Bool.not_true Bool.not_false L6 Iq FY Im Io KS_n KS_x KS_r KB_r Px Py P4 L5 KF_n KF_r KG_n KG_r KL_n KL_x KL_r Ip Gh evX X.ev optX Ft Gf Gi P5 P6 if_true if_false Lb Lc Ld Lf Lg Lh Li Lj Lk Ll Lm Ln Am.unOp ret1 pubL EV wkZ wk Cr FP Bs AOp.cls Nat.beq_eq Bool.or_eq_true decide_true decide_false beq_self_eq_true Bool.true_or Bool.or_true true_and and_true eqv eqB eqP scal BR List.getElem?_cons_zero List.getElem?_cons_succ Lo Lp Jh updM Pt Pu Pv La FX Bool.xor_true Bool.xor_false Bool.false_eq_true List.all_cons List.all_nil Bool.and_self Bool.and_true Bool.true_and VU pubC_s pubC_i TU pubC_p XY VV XZ TV TW Xa or_true false_or CC_t CC_f CG_tt CG_ff CG_tf CG_ft CG_u CQ_tt CQ_ff CQ_tf CQ_ft CQ_u CE_tt CE_ff CE_tf CE_ft CE_u wv_u0 wv_u1 Vg X6 frzL pubA_i pubA_s pubA_b pubA_p Xw Vc Xy Xz Te Tf X1 Vf X3 X4 X5 pubA_m frz_i frz_s frz_b frz_p frz_np Xx frz_wz frz_ws Vd Ve frz_fn X2 frz_ni frz_nf frz_nm frz_m Vb Td Xk VZ Va Xl ldR_i ldR_s ldR_b ldR_p ldR_np Xn ldR_ws ldR_sl ldR_bl ldR_fn Xq ldR_m ldR_nm ldR_ni ldR_nf Xr Xm ldQ_i ldQ_s ldQ_b ldQ_p ldQ_np Xt ldQ_ws ldQ_sl ldQ_bl ldQ_fn Xu ldQ_m ldQ_nm ldQ_ni ldQ_nf Xv evOp.eq_1 evOp.eq_2 evOp.eq_3 evOp.eq_4 evOp.eq_5 evOp.eq_6 evOp.eq_7 evOp.eq_9 evOp.eq_10 evOp.eq_11 evOp.eq_12 evOp.eq_13 evOp.eq_14 evOp.eq_15 evOp.eq_16 evOp.eq_17 evOp.eq_18 evOp.eq_19 evOp.eq_20 evOp.eq_21 evOp.eq_22 evOp.eq_23 evOp.eq_24 evOp.eq_25 evOp.eq_26 evOp.eq_27 evOp.eq_28 evOp.eq_29 evOp.eq_30 evOp.eq_31 evOp.eq_32 evOp.eq_33 evOp.eq_34 evOp.eq_35 evOp.eq_36 evOp.eq_37 evOp.eq_38 evOp.eq_39 evOp.eq_40 evOp.eq_41 evOp.eq_42 evOp.eq_43 evOp.eq_44 evOp.eq_45 evOp.eq_46 evOp.eq_47 evOp.eq_48 evOp.eq_49 evOp.eq_50 evOp.eq_51 evOp.eq_52 evOp.eq_53 evOp.eq_54 evOp.eq_55 evOp.eq_56 evOp.eq_57 evOp.eq_58 evOp.eq_59 evOp.eq_60 evOp.eq_61 Cs.eq_2 Cs.eq_3 Cs.eq_4 Cs.eq_5 Cs.eq_6 Cs.eq_7 nt_i nt_s nt_b nt_p nt_np nt_nsl nt_wz nt_ws Xe Xf nt_agg nt_fn nt_bl nt_nf nt_ni nt_nm nt_m nt_ifc XS Xg Xh Xi Xj pubC_m VX VY WE_nil Tw KE_ap WQ_nil YF KQ_ap W_regQ ov2_0 ov2_1 ov3_0 ov3_1 ov3_2 ov4_0 ov4_1 ov4_2 ov4_3 D3 Bx cl_s cl_i cl_b cl_p cl_np cl_nsl cl_ws cl_sl cl_fn ln0 ln1 ln2 ln3 ln4 ln5 ln6 lnA_s X7 lnA_wz lnA_sl lnA_ws lnA_bl lnA_nm ov5_0 ov5_1 ov5_2 ov5_3 ov5_4 ov6_0 ov6_1 ov6_2 ov6_3 ov6_4 ov6_5 ov7_0 ov7_1 ov7_2 ov7_3 ov7_4 ov7_5 ov7_6 cl_ifc cl_wz cl_ni cl_nf cl_nm cl_m eqI_fn eqI_nn W_thw X8 KK_n KK_r Fp U0
end Go.Proofs.Ytgloinighjdhlaa.Am

namespace Go.Proofs.Ytgloinighjdhlaa.Am
open Go.Sort Go.Proofs
variable {P:Program} {gt:Nat→Option (List AV)} {CR:Nat→Code→C→Prop} {g:G} {s:St} {w:World}
def iv (z:Int):AV:=.i .i64 z
def intL:List AV→Option (List Int)
 | []=>some []
 | .i .i64 z::r=>match intL r with
   | some L=>some (z::L)
   | none=>none
 | _=>none
theorem Tg:∀ L:List Int,intL (L.map iv)=some L
 | []=>rfl
 | z::L=>by simp only [List.map_cons,iv,intL]; rw [show (L.map iv)=L.map iv from rfl,Tg L]
theorem Q6:∀ {l:List AV} {L:List Int},intL l=some L→l=L.map iv
 | [],L,h=>by simp only [intL] at h; cases h; rfl
 | a :: l,L,h=>by
   unfold intL at h
   split at h<;>try (cases h; done)
   · rename_i e; cases e
   · rename_i z r e
     cases e
     split at h<;>try (cases h; done)
     rename_i M hM
     cases h
     rw [Q6 hM]; rfl
theorem Th:∀ (L:List Int) (g:G) (s:St) (w:World),VL g s w (L.map iv) (L.map fun z=>.int .i64 z)
 | [],g,s,w=>by simp [VL]
 | z::L,g,s,w=>by
   simp only [List.map_cons,VL,iv,V]
   exact ⟨_,_,rfl,rfl,Th L g s w⟩
theorem Ti:∀ {L:List Int} {vs:List Value},VL g s w (L.map iv) vs→vs=L.map fun z=>.int .i64 z
 | [],vs,h=>by simp only [List.map_nil,VL] at h; subst h; rfl
 | z::L,vs,h=>by
   simp only [List.map_cons,VL,iv,V] at h
   obtain ⟨v,vs',rfl,rfl,h2⟩:=h
   rw [Ti (L:=L) h2]; rfl
theorem Oq {d:Array Int} {arr:Array Value} {vs rest:List Value} (h:arr.toList=vs++rest) (hl:vs.length=d.size):(putCells (Value.int .i64) 0 d arr).toList=d.toList.map (Value.int .i64)++rest:=by
 apply List.ext_getElem?
 intro k
 simp only [putCells,Array.toList_mapIdx,List.getElem?_mapIdx,h]
 by_cases hk:k < d.size
 · rw [List.getElem?_append_left (by omega),List.getElem?_append_left (by simpa using hk),List.getElem?_eq_getElem (by omega),Option.map_some,if_pos ⟨Nat.zero_le _,by omega⟩]
   simp [hk]
 · rw [List.getElem?_append_right (by omega),List.getElem?_append_right (by simp; omega),hl]
   simp only [List.length_map,Array.length_toList]
   cases rest[k - d.size]? with
   | none=>rfl
   | some v=>rw [Option.map_some,if_neg (by omega)]
theorem R4 (hI:Inv CR g s w) {id T rm n:Nat} {L L':List Int} (hb:s.box? id=some (.row T (L.map iv) false rm)) (hlen:L'.length=L.length) :
    Inv CR g (s.setBox id (.row T (L'.map iv) false rm)) (putRow (Value.int .i64) (Sort.ahead w n) (g.bx id) 0 L'.toArray)∧Le g s w g (s.setBox id (.row T (L'.map iv) false rm)) (putRow (Value.int .i64) (Sort.ahead w n) (g.bx id) 0 L'.toArray)∧Esc s (s.setBox id (.row T (L'.map iv) false rm)):=by
 obtain ⟨arr,fr,h1,hfr,vs,rest,h2,h3,h4⟩:=hI.box id _ hb
 have hvl:vs.length=L.length:=by have:=h3.length; simpa using this
 have hh:∀ b,b≠g.bx id→(putRow (Value.int .i64) (Sort.ahead w n) (g.bx id) 0 L'.toArray).heap[b]? = w.heap[b]? := fun b hb=>by
  simp only [putRow,mapBlock,Sort.ahead,Array.getElem?_modify,if_neg (Ne.symm hb)]
 have hat:(putRow (Value.int .i64) (Sort.ahead w n) (g.bx id) 0 L'.toArray).heap[g.bx id]? = some (.cells (putCells (Value.int .i64) 0 L'.toArray arr) T fr):=by
  simp only [putRow,mapBlock,Sort.ahead,Array.getElem?_modify,if_true,h1,Option.map_some,onCells]
 have hsz:(putRow (Value.int .i64) (Sort.ahead w n) (g.bx id) 0 L'.toArray).heap.size=w.heap.size:=by simp [putRow,mapBlock,Sort.ahead]
 have hnd:w.heap[g.bx id]? ≠ some (.deferred (some [])):=by rw [h1]; intro hh; cases hh
 have hio:(putRow (Value.int .i64) (Sort.ahead w n) (g.bx id) 0 L'.toArray).os=w.os∧(putRow (Value.int .i64) (Sort.ahead w n) (g.bx id) 0 L'.toArray).output=w.output:=⟨rfl,rfl⟩
 have hpl:=Oq (d:=L'.toArray) h2 (by simp; omega)
 have hB:Mi CR g (s.setBox id (.row T (L'.map iv) false rm)) (putRow (Value.int .i64) (Sort.ahead w n) (g.bx id) 0 L'.toArray) (g.bx id) (.row T (L'.map iv) false rm) :=
  ⟨_,fr,hat,hfr,_,rest,hpl,Th L' _ _ _,by simpa [putCells] using h4⟩
 have harr:EM w (putRow (Value.int .i64) (Sort.ahead w n) (g.bx id) 0 L'.toArray) (g.bx id):=fun a T' f hb'=>by
  rw [h1] at hb'; cases hb'; exact ⟨_,_,hat,by simp [putCells]⟩
 refine ⟨hI.setBox hb rfl _ hsz hh hnd harr hB hio,Le.setBox hI hb rfl _ hsz hh hnd harr hio,Nat.le_refl _,fun nb k1 k2 i B' hi hB' a ha=>?_⟩
 rw [setBox_box? hI.lenB (box?_lt hb)] at hB'
 by_cases hid:i=id
 · rw [if_pos hid] at hB'
   cases hB'
   refine .inl ?_
   simp only [vals,List.mem_map] at ha
   obtain ⟨x,_,rfl⟩:=ha
   rfl
 · rw [if_neg hid] at hB'
   exact .inr ⟨B',hB',ha⟩
def Ha (L:List Int):List Int:=L.mergeSort fun x y=>decide (x≤y)
theorem Hb (L:List Int):(Ha L).length=L.length:=by simp [Ha]
def insZ (x:Int):List Int→List Int
 | []=>[x]
 | y::l=>cond (decide (x≤y)) (x::y::l) (y::insZ x l)
def Tj:List Int→List Int
 | []=>[]
 | x::l=>insZ x (Tj l)
theorem Lq (x:Int):∀ l,(insZ x l).Perm (x::l)
 | []=>.refl _
 | y::l=>by
   unfold insZ
   cases decide (x≤y)
   · exact ((Lq x l).cons y).trans (.swap x y l)
   · exact .refl _
theorem Lr (x:Int):∀ {l:List Int},l.Pairwise (·≤·)→(insZ x l).Pairwise (·≤·)
 | [],_=>List.pairwise_singleton ..
 | y :: l,h=>by
   unfold insZ
   rw [List.pairwise_cons] at h
   by_cases hxy:x≤y
   · rw [decide_eq_true hxy]
     refine List.pairwise_cons.2 ⟨fun a ha=>?_,List.pairwise_cons.2 h⟩
     rcases List.mem_cons.1 ha with rfl | ha
     · exact hxy
     · exact Int.le_trans hxy (h.1 a ha)
   · rw [decide_eq_false hxy]
     refine List.pairwise_cons.2 ⟨fun a ha=>?_,Lr x h.2⟩
     rcases List.mem_cons.1 ((Lq x l).subset ha) with rfl | ha
     · omega
     · exact h.1 a ha
theorem M9:∀ l,(Tj l).Perm l
 | []=>.refl _
 | x::l=>(Lq x _).trans ((M9 l).cons x)
theorem KP:∀ l,(Tj l).Pairwise (·≤·)
 | []=>List.Pairwise.nil
 | x::l=>Lr x (KP l)
theorem Q7 (M:List Int):Tj M=Ha M:=by
 unfold Ha
 have h1:(M.mergeSort fun x y=>decide (x≤y)).Pairwise (·≤·):=by
  have:=List.pairwise_mergeSort (le:=fun x y:Int=>decide (x≤y)) (fun a b c h1 h2=>by simp at *; omega) (fun a b=>by simp; omega) M
  refine this.imp ?_
  intro a b h
  simpa using h
 exact (List.Perm.eq_of_pairwise (le:=(·≤·)) (fun a b _ _ h1 h2=>by omega) h1 (KP M) ((List.mergeSort_perm M _).trans (M9 M).symm)).symm
def GE:List AV→St→Option (AV×St)
 | [.nsl],s=>some (.tup [],s)
 | [.bl id 1 0 n _],s=>match s.box? id with
   | some (.row T l false rm)=>match intL l with
     | some L=>if n=L.length∧n < 4611686018427387904 then some (.tup [],s.setBox id (.row T ((Tj L).map iv) false rm)) else none
     | none=>none
   | _=>none
 | _,_=>none
theorem Tk (hI:Inv CR g s w) {id T rm:Nat} {L:List Int} (hb:s.box? id=some (.row T (L.map iv) false rm)):Holds (Value.int .i64) w (g.bx id) 0 L.toArray∧g.bx id < w.heap.size:=by
 obtain ⟨arr,fr,h1,hfr,vs,rest,h2,h3,h4⟩:=hI.box id _ hb
 have h6:=Ti h3
 refine ⟨fun j hj=>?_,(hI.lt id (box?_lt hb)).2⟩
 have hj':j < L.length:=by simpa using hj
 have hf:=hfr rfl
 refine ⟨?_,?_⟩
 · have:arr[j]? = some (.int .i64 L[j]):=by
    rw [← Array.getElem?_toList,h2,h6,List.getElem?_append_left (by simpa using hj')]
    simp [hj']
   simp only [World.cell?,h1,Nat.zero_add]
   simp only [Option.isSome_none,Bool.false_eq_true,if_false,this]
   rw [getElem!_pos _ j hj]
   simp
 · obtain ⟨f1,f2⟩:=fr
   simp only at hf
   subst hf
   simp [World.frozen?,h1]
theorem Ot {f:Nat} (hb:∃ F b,P.funcs[f]? = some F∧F.body=some b)
    (h0:∀ (p:Option Addr) (cap:Nat) (w:World),Calls P f #[.slice p 0 cap] w fun e w'=>e=.returned (.tuple #[])∧w'=w)
    (h:∀ (blk off cap:Nat) (zs:List Int) (w:World),Holds (Value.int .i64) w blk off zs.toArray→blk < w.heap.size→zs.length < 4611686018427387904 →
     Calls P f #[.slice (some ⟨blk,off,none⟩) zs.length cap] w fun e w'=>e=.returned (.tuple #[])∧∃ n os,w'=grow (putRow (Value.int .i64) (Sort.ahead w n) blk off (zs.mergeSort fun x y=>decide (x≤y)).toArray) os):PrimOk P gt f GE:=by
 refine ⟨hb,fun args s r s' hp g w vs hI hG hv=>?_⟩
 unfold GE at hp
 split at hp
 · cases hp
   simp only [VL,V] at hv
   obtain ⟨v,_,rfl,rfl,rfl⟩:=hv
   refine (h0 _ _ w).mono ?_
   rintro e w' ⟨rfl,rfl⟩
   refine ⟨_,rfl,g,hI,Le.refl _ _ _,?_,Esc.refl _⟩
   simp only [V,VL]
   exact ⟨[],rfl,rfl⟩
 rotate_left
 · cases hp
 rename_i id n x
 split at hp<;>try (cases hp; done)
 rename_i T l rm hbx
 split at hp<;>try (cases hp; done)
 rename_i L hL
 split at hp<;>try (cases hp; done)
 rename_i hn
 rw [Q7] at hp
 cases hp
 obtain rfl:=Q6 hL
 simp only [VL,V] at hv
 obtain ⟨v,_,rfl,⟨o,cap,rfl,hid,⟨_,hcap⟩,_,_,ho⟩,rfl⟩:=hv
 obtain rfl:o=0:=by omega
 obtain ⟨hH,hblk⟩:=Tk hI hbx
 have hcall:=h (g.bx id) 0 cap L w hH hblk (by omega)
 rw [← hn.1] at hcall
 refine hcall.mono ?_
 rintro e w' ⟨rfl,m,os,rfl⟩
 obtain ⟨k1,k2,k3⟩:=R4 (n:=m) hI hbx (Hb L)
 have hgr:Grown (putRow (Value.int .i64) (Sort.ahead w m) (g.bx id) 0 (L.mergeSort fun x y=>decide (x≤y)).toArray) (grow (putRow (Value.int .i64) (Sort.ahead w m) (g.bx id) 0 (L.mergeSort fun x y=>decide (x≤y)).toArray) os) :=
  ⟨rfl,rfl,by simp [grow],fun k hk=>by simp only [grow]; rw [Array.getElem?_append_left hk]⟩
 refine ⟨_,rfl,g,k1.grown hgr,k2.trans (Le.grown k1 hgr),?_,k3⟩
 simp only [V,VL]
 exact ⟨[],rfl,rfl⟩
end Go.Proofs.Ytgloinighjdhlaa.Am

namespace Go.Proofs.Ytgloinighjdhlaa.Am
variable {P:Program} {gt:Nat→Option (List AV)}
def NO:List AV→Option AV
 | []=>some (.b true)
 | _=>none
theorem SR {progC:Nat→Option Fun} {f:Nat} (hN:CW P) (hX:Ctx P gt progC) (hb:∃ F b,P.funcs[f]? = some F∧F.body=some b)
    (h:∃ n s',(run progC n).call f [] s0=some (.b true,s')):PrimOk P gt f (Pe NO):=by
 refine Pr ⟨hb,fun args r hr g s w vs hG hv=>?_⟩
 obtain ⟨n,s',hrun⟩:=h
 cases args with
 | cons a l=>cases hr
 | nil =>
   cases hr
   simp only [VL] at hv
   subst hv
   refine (OY (s':=s') (vs:=#[]) hN hX (fun i l h=>by
    obtain ⟨_,cs,h2,h3,row,a,b,h4,h5⟩:=hG i l h
    exact ⟨(Array.getElem?_eq_some_iff.1 h4).1,cs,h2,h3,row,a,b,h4,h5⟩) (by simp [VL]) hrun).mono ?_
   rintro e w' ⟨rfl,h1,h2,h3,h4⟩
   exact ⟨_,rfl,fun _ _ _=>by simp only [V],h1,h2,h3,h4⟩
end Go.Proofs.Ytgloinighjdhlaa.Am

namespace Go.Proofs.Ytgloinighjdhlaa.Am
structure Ent where
 args:List AV
 s:St
 r:AV
 s':St
def Sy:List Ent→List AV→St→Option (AV×St)
 | [],_,_=>none
 | x::l,a,s=>cond (Sf x.s s&&E8 x.args a) (some (x.r,x.s')) (Sy l a s)
def Sz:List (Nat×List Ent)→Nat→List AV→St→Option (AV×St)
 | [],_,_,_=>none
 | (g,l)::t,f,a,s=>cond (Nat.beq g f) (Sy l a s) (Sz t f a s)
def runM (tb:List (Nat×List Ent)) (prog:Nat→Option Fun):Nat→Self
 | 0=>dead
 | n + 1=>{
    call:=fun f a s=>match Sz tb f a s with
     | some r=>some r
     | none=>F5 prog (runM tb prog n) f a s
    code:=evC (runM tb prog n) }
section
variable {prog:Nat→Option Fun}
def Ent.ok (prog:Nat→Option Fun) (f:Nat) (x:Ent):Prop:=(lim prog).call f x.args x.s=some (x.r,x.s')
def XT (prog:Nat→Option Fun) (f:Nat):List Ent→Prop
 | []=>True
 | x::l=>x.ok prog f∧XT prog f l
def VE (prog:Nat→Option Fun):List (Nat×List Ent)→Prop
 | []=>True
 | (f,l)::t=>XT prog f l∧VE prog t
theorem Qn {f:Nat} {r:AV×St}:∀ {l:List Ent} {a:List AV} {s:St},XT prog f l→Sy l a s=some r→(lim prog).call f a s=some r
 | [],_,_,_,h=>by simp [Sy] at h
 | x :: l,a,s,hg,h=>by
   simp only [Sy] at h
   cases hb:Sf x.s s&&E8 x.args a with
   | false=>rw [hb] at h; exact Qn hg.2 h
   | true =>
     rw [hb] at h
     simp only [Bool.and_eq_true] at hb
     rw [← Qd hb.1,← EF _ _ hb.2]
     simp only [cond_true] at h
     rw [← h]
     exact hg.1
theorem Qo {f:Nat} {r:AV×St}:∀ {t:List (Nat×List Ent)} {a:List AV} {s:St},VE prog t→Sz t f a s=some r→(lim prog).call f a s=some r
 | [],_,_,_,h=>by simp [Sz] at h
 | (g,l)::t,a,s,hg,h=>by
   simp only [Sz] at h
   cases hb:Nat.beq g f with
   | false=>rw [hb] at h; exact Qo hg.2 h
   | true =>
     rw [hb] at h
     rw [← Nat.eq_of_beq_eq_true hb]
     exact Qn hg.1 h
theorem Nk {tb:List (Nat×List Ent)} (hg:VE prog tb):∀ n,Sub (runM tb prog n) (lim prog)
 | 0=>⟨fun hr=>by simp [runM,dead] at hr,fun hr=>by simp [runM,dead] at hr⟩
 | n+1=>⟨fun {f a s r} hr=>by
    simp only [runM] at hr
    split at hr
    · cases hr; rename_i h; exact Qo hg h
    · rw [FA]; exact Jr (Nk hg n) hr,
   fun {c e s r} hr=>by
    simp only [runM] at hr
    rw [Nj]; exact D0 (Nk hg n) hr⟩
def isR (r:AV) (s':St):Option (AV×St)→Bool
 | some (v,s)=>beqA v r&&Sf s s'
 | none=>false
theorem isR_eq {r:AV} {s':St} {o:Option (AV×St)} (h:isR r s' o=true):o=some (r,s'):=by
 unfold isR at h
 split at h
 · simp only [Bool.and_eq_true] at h
   rw [HT _ _ h.1,Qd h.2]
 · cases h
theorem S0 {f:Nat} {x:Ent} (tb:List (Nat×List Ent)) (n:Nat) (hg:VE prog tb) (h:isR x.r x.s' ((runM tb prog n).call f x.args x.s)=true):x.ok prog f :=
 (Nk hg n).call (isR_eq h)
theorem law_ev {f:Nat} {s':St} (h:(lim prog).call f [] s0=some (.b true,s')):∃ n s',(run prog n).call f [] s0=some (.b true,s'):=by
 obtain ⟨n,h⟩:=Bh.1 h
 exact ⟨n,s',h⟩
end
end Go.Proofs.Ytgloinighjdhlaa.Am

namespace Go.Proofs.Ytgloinighjdhlaa.Am
open Go.ChangeShapes Go.WideShapes
section
variable {P:Program} {W:World} {H:Type} {enc:TypeId×Value→H}
def lsOf (s:ByteArray):List Nat:=s.data.toList.map UInt8.toNat
theorem VQ (s:ByteArray):(lsOf s).length=s.size:=by rw [lsOf,List.length_map]; rfl
theorem TI (s:ByteArray):∀ n∈lsOf s,n < 256:=by
 intro n hn
 simp only [lsOf,List.mem_map] at hn
 obtain ⟨a,_,rfl⟩:=hn
 exact UInt8.toNat_lt a
theorem Rx (s:ByteArray):AR (lsOf s)=s:=by
 cases s with
 | mk d=>simp [AR,lsOf,Function.comp_def]
theorem V_str (g:G) (s:St) (w:World) (x:ByteArray):V g s w (.s (lsOf x)) (.string x):=by
 simp only [V]
 exact ⟨by rw [Rx],TI x⟩
structure Txt (l:List Nat):Prop where
 lt:∀ n∈l,n < 256
 len:l.length < 2^63
theorem txt_of {x:ByteArray} (h:x.size≤maxLen):Txt (lsOf x):=⟨TI x,by rw [VQ]; simp only [maxLen] at h; omega⟩
end
end Go.Proofs.Ytgloinighjdhlaa.Am

namespace Go.Proofs.Ytgloinighjdhlaa.Am
open Go.ChangeShapes Go.WideShapes
def mkV (P:Program) (t:Nat) (l:List AV):AV:=match P.underlying t with
 | some (.struct _)=>.agg l
 | _=>l.headD undef
mutual
inductive Typed (P:Program):Nat→List AV→Prop
 | bool {t:Nat} {x:Bool}:P.underlying t=some .bool→Typed P t [.b x]
 | int {t:Nat} {k:IntKind} {n:Int}:P.underlying t=some (.int k)→(Lit.int k n).wf=true→Typed P t [.i k n]
 | str {t:Nat} {l:List Nat}:P.underlying t=some .string→Txt l→Typed P t [.s l]
 | slice {t e:Nat} {ls:List (List AV)}:P.underlying t=some (.slice e)→ls.length < 2^63→(∀ l∈ls,Typed P e l)→Typed P t [.ws false (P.cellsOf e) (ls.map (mkV P e))]
 | struct {t:Nat} {fs:Array Field} {l:List AV}:P.underlying t=some (.struct fs)→TypedF P fs.toList l→Typed P t l
inductive TypedF (P:Program):List Field→List AV→Prop
 | nil:TypedF P [] []
 | cons {f:Field} {r:List Field} {a b:List AV}:Typed P f.type a→TypedF P r b→TypedF P (f::r) (a++b)
end
def Vj (P:Program) (tot:Nat):Nat→List Field→Bool
 | off,[]=>Nat.beq off tot
 | off,f::r=>Nat.beq f.offset off&&Vj P tot (off+P.cellsOf f.type) r
def Ov (P:Program) (ts:List Nat) (t:Nat):Bool:=match P.underlying t with
 | some .bool=>true
 | some (.int _)=>true
 | some .string=>true
 | some (.slice e)=>ts.contains e&&Nat.ble 1 (P.cellsOf e)
 | some (.struct fs)=>Vj P (P.cellsOf t) 0 fs.toList&&fs.toList.all fun f=>ts.contains f.type
 | _=>false
def Pw (P:Program) (ts:List Nat):Bool:=ts.all (Ov P ts)
section
variable {P:Program} {W:World} {H:Type} {enc:TypeId×Value→H}
theorem Ls:∀ {a b:List AV},ones a=true→ones b=true→ones (a++b)=true
 | [],_,_,h=>h
 | x::a,b,h,k=>by
   cases x<;>first | (simp [ones] at h; done) | exact Ls (a:=a) (by simpa only [ones] using h) k
theorem Lt {t:Nat} {l:List AV} (h:Typed P t l):(∃ fs,P.underlying t=some (.struct fs))∨((∀ fs,P.underlying t≠some (.struct fs))∧∃ a,l=[a]∧a.cells=[a]):=by
 cases h with
 | bool h=>exact .inr ⟨(fun fs hh=>by rw [h] at hh; cases hh),_,rfl,rfl⟩
 | int h=>exact .inr ⟨(fun fs hh=>by rw [h] at hh; cases hh),_,rfl,rfl⟩
 | str h=>exact .inr ⟨(fun fs hh=>by rw [h] at hh; cases hh),_,rfl,rfl⟩
 | slice h=>exact .inr ⟨(fun fs hh=>by rw [h] at hh; cases hh),_,rfl,rfl⟩
 | struct h=>exact .inl ⟨_,h⟩
theorem GG {t:Nat} {fs:Array Field} (h:P.underlying t=some (.struct fs)) (l:List AV):mkV P t l=.agg l:=by unfold mkV; rw [h]
theorem Hc {t:Nat} (h:∀ fs,P.underlying t≠some (.struct fs)) (a:AV):mkV P t [a]=a:=by
 unfold mkV
 split
 · rename_i fs hh; exact absurd hh (h fs)
 · rfl
theorem Tp {t:Nat} {l:List AV} (h:Typed P t l):(mkV P t l).cells=l:=by
 rcases Lt h with ⟨fs,hf⟩ | ⟨hn,a,rfl,hc⟩
 · rw [GG hf]; rfl
 · rw [Hc hn]; exact hc
/- How many values and letters a value holds. -/
mutual
def szV:AV→Nat
 | .s l=>l.length+1
 | .ws _ _ xs=>szL xs+1
 | .agg l=>szL l+1
 | _=>1
def szL:List AV→Nat
 | []=>0
 | a::l=>szV a+szL l
end
theorem J2:∀ (a b:List AV),szL (a++b)=szL a+szL b
 | [],b=>by simp [szL]
 | x::a,b=>by simp only [List.cons_append,szL,J2 a b]; omega
/- .. and what is read. -/
mutual
def blk {H:Type}:DataW H→Nat
 | .lit (.string bytes)=>bytes.length+1
 | .lit _=>1
 | .nil=>1
 | .ptr d=>blk d+1
 | .slice elems spare=>blkL elems+blkL spare+1
 | .agg parts=>blkL parts+1
 | .iface _ d=>blk d+1
 | .map entries=>blkM entries+1
 | .held _=>1
def blkL {H:Type}:List (DataW H)→Nat
 | []=>0
 | d::r=>blk d+blkL r
def blkM {H:Type}:List (Lit×DataW H)→Nat
 | []=>0
 | x::r=>blkE x+blkM r
def blkE {H:Type}:Lit×DataW H→Nat
 | (.string bytes,d)=>bytes.length+blk d+1
 | (_,d)=>blk d+1
end
theorem Q8 (l:List (DataW H)):blkL l=(l.map blk).sum:=by
 induction l with
 | nil=>simp [blkL]
 | cons d l ih=>simp only [blkL,ih,List.map_cons,List.sum_cons]
theorem Lu {α:Type} (f:α→Nat):∀ l:List α,((List.range l.length).map fun i=>(l[i]?.map f).getD 0).sum=(l.map f).sum
 | []=>rfl
 | a::l=>by
   rw [List.length_cons,List.range_succ_eq_map,List.map_cons,List.map_map,List.sum_cons,List.map_cons,List.sum_cons,← Lu f l]
   simp [Function.comp_def]
def Vk (P:Program) (W:World) (t:Nat) (cs:List Value) (B:Nat):Prop:=∃ l,VL (g0 W) s0 W l cs∧Typed P t l∧ones l=true∧szV (mkV P t l)≤B
theorem YA {t:Nat} {l:List AV} (h:Typed P t l):szL l≤szV (mkV P t l):=by
 unfold mkV
 cases h with
 | bool h=>rw [h]; simp [szL]
 | int h=>rw [h]; simp [szL]
 | str h=>rw [h]; simp [szL]
 | slice h=>rw [h]; simp [szL]
 | struct h=>rw [h]; simp only [szV]; omega
theorem mkV_ok {g:G} {s:St} {w:World} {t:Nat} {l:List AV} {cs:List Value} (h:Typed P t l) (hV:VL g s w l cs) (h1:ones l=true):∃ v:Value,V g s w (mkV P t l) v∧v.cells.toList=cs:=by
 rcases Lt h with ⟨fs,hf⟩ | ⟨hn,a,rfl,hc⟩
 · rw [GG hf]
   exact ⟨.agg cs.toArray,by simp only [V]; exact ⟨cs,hV,rfl⟩,by simp [Value.cells]⟩
 · rw [Hc hn]
   have hV':=hV
   simp only [VL] at hV
   obtain ⟨v,r,rfl,hv,rfl⟩:=hV
   have h2:=DV hv
   rw [hc] at h2
   simp only [VL] at h2
   obtain ⟨u,r2,h3,h4,rfl⟩:=h2
   have hone:=GB h1 hV' v (by simp)
   have:v.cells.toList=[v]:=by
    cases v<;>first | rfl | (simp [Value.oneCell'] at hone; done)
   exact ⟨v,hv,this⟩
theorem cells?_get {a:Addr} {n:Nat} {cs:List Value} (h:W.cells? 0 a n=some cs):cs.length=n∧∀ i v,cs[i]? = some v→W.cell? (a.add i)=some v:=by
 unfold World.cells? at h
 rw [if_pos (Nat.zero_le _)] at h
 have hl:cs.length=n:=by simpa using Lib.mapM_length h
 refine ⟨hl,fun i v hi=>?_⟩
 have hlt:i < n:=by have:=(List.getElem?_eq_some_iff.1 hi).1; omega
 obtain ⟨b,hb,hf⟩:=Lib.mapM_at h i i (by simp [hlt])
 rw [hi] at hb; cases hb
 exact hf
theorem Lv {ts:List Nat} {tot:Nat} {cs:List Value} (hcs:cs.length=tot):∀ (fl:List Field) (off:Nat),Vj P tot off fl=true →
    ∀ b:Nat→Nat,(∀ i f,fl[i]? = some f→Vk P W f.type ((cs.drop f.offset).take (P.cellsOf f.type)) (b i))→∃ l,VL (g0 W) s0 W l (cs.drop off)∧TypedF P fl l∧ones l=true∧szL l≤((List.range fl.length).map b).sum
 | [],off,h,_,_=>by
   have:=Nat.eq_of_beq_eq_true h
   subst this
   refine ⟨[],?_,.nil,rfl,by simp [szL]⟩
   simp only [VL]
   exact List.drop_of_length_le (by omega)
 | f :: r,off,h,b',hr=>by
   simp only [Vj,Bool.and_eq_true] at h
   obtain ⟨h1,h2⟩:=h
   have h1:=Nat.eq_of_beq_eq_true h1
   obtain ⟨a,a1,a2,a3,a4⟩:=hr 0 f (by simp)
   obtain ⟨b,b1,b2,b3,b4⟩:=Lv (ts:=ts) hcs r _ h2 (fun i=>b' (i+1)) fun i f' hf'=>hr (i+1) f' (by simpa using hf')
   rw [h1] at a1
   refine ⟨a++b,?_,.cons a2 b2,Ls a3 b3,?_⟩
   rotate_left
   · rw [J2,List.length_cons,List.range_succ_eq_map,List.map_cons,List.map_map,List.sum_cons]
     have:=YA a2
     simp only [Function.comp_def]
     simp only [Nat.succ_eq_add_one] at *
     omega
   have:=Ck a1 b1
   rwa [← List.drop_drop,List.take_append_drop] at this
theorem Ow (a:Addr) (n m:Nat):(a.add n).add m=a.add (n+m):=by
 unfold Addr.add
 by_cases hn:n=0
 · subst hn; simp
 · by_cases hm:m=0
   · subst hm; simp [hn]
   · simp [hn,hm,Nat.add_assoc]
theorem NB {e:Nat} {a:Addr} (hes:1≤P.cellsOf e) (b:Nat→Nat):∀ len:Nat,(∀ i,i < len→∃ cs,W.cells? 0 (a.add (i*P.cellsOf e)) (P.cellsOf e)=some cs∧Vk P W e cs (b i)) →
    ∃ (ls:List (List AV)) (vs:List Value),ls.length=len∧(∀ l∈ls,Typed P e l)∧VL (g0 W) s0 W (ls.map (mkV P e)) vs∧Ag (P.cellsOf e) (ls.map (mkV P e))=true ∧
     (flat vs).length=len*P.cellsOf e∧(∀ j v,(flat vs)[j]? = some v→W.cell? (a.add j)=some v)∧szL (ls.map (mkV P e))≤((List.range len).map b).sum
 | 0,_=>⟨[],[],rfl,by simp,by simp [VL],rfl,by simp [flat],by simp [flat],by simp [szL]⟩
 | len + 1,h=>by
   obtain ⟨ls,vs,h1,h2,h3,h4,h5,h6,h7⟩:=NB hes b len fun i hi=>h i (by omega)
   obtain ⟨cs,c1,l,l1,l2,l3,l4⟩:=h len (by omega)
   obtain ⟨k1,k2⟩:=cells?_get c1
   obtain ⟨v,v1,v2⟩:=mkV_ok l2 l1 l3
   have hll:l.length=P.cellsOf e:=by have:=l1.length; omega
   refine ⟨ls++[l],vs++[v],by simp [h1],?_,?_,?_,?_,?_,by rw [List.map_append,J2,List.range_succ,List.map_append,List.sum_append]; simp only [List.map_cons,List.map_nil,szL,List.sum_cons,List.sum_nil]; omega⟩
   · intro x hx
     rcases List.mem_append.1 hx with hx | hx
     · exact h2 x hx
     · simp only [List.mem_singleton] at hx; subst hx; exact l2
   · rw [List.map_append]
     exact Ck h3 (by simp only [List.map_cons,List.map_nil,VL]; exact ⟨v,[],rfl,v1,rfl⟩)
   · rw [List.map_append]
     refine Dl h4 ?_
     simp only [List.map_cons,List.map_nil,Ag,Bool.and_true,Bool.and_eq_true,Tp l2]
     exact ⟨by rw [hll]; exact Nat.beq_refl _,l3⟩
   · rw [FU,List.length_append,h5]
     simp only [flat,List.flatMap_cons,List.flatMap_nil,List.append_nil,v2,k1]
     rw [Nat.add_mul]; omega
   · intro j u hj
     rw [FU] at hj
     by_cases hlt:j < (flat vs).length
     · rw [List.getElem?_append_left hlt] at hj
       exact h6 j u hj
     · rw [List.getElem?_append_right (by omega)] at hj
       simp only [flat,List.flatMap_cons,List.flatMap_nil,List.append_nil,v2] at hj
       have h7:(List.flatMap (fun v:Value=>v.cells.toList) vs).length=len*P.cellsOf e:=h5
       rw [h7] at hj
       have h8:len*P.cellsOf e≤j:=by omega
       have:=k2 _ u hj
       rw [Ow,show len*P.cellsOf e+(j - len*P.cellsOf e)=j by omega] at this
       exact this
theorem J3 {ts:List Nat} (hts:Pw P ts=true):∀ (fuel:Nat) (t:Nat) (cs:List Value) (x:DataW H×List MemPlace),ts.contains t=true→DataW.trod enc P W 0 (fun _=>true) true fuel t cs=some x→Vk P W t cs (blk x.1)
 | 0,t,cs,x,_,h=>by simp [DataW.trod] at h
 | fuel + 1,t,cs,x,ht,h=>by
   have hrd:Ov P ts t=true:=List.all_eq_true.1 hts t (by simpa using ht)
   unfold Ov at hrd
   split at hrd
   · rename_i hu
     obtain ⟨b,rfl,hx⟩:=DataW.trod_bool hu h
     exact ⟨[.b b],by simp only [VL]; exact ⟨_,_,rfl,by simp only [V],rfl⟩,.bool hu,rfl,by rw [hx]; simp [mkV,hu,szV,blk]⟩
   · rename_i k hu
     obtain ⟨n,rfl,hx,hw⟩:=DataW.trod_int hu h
     exact ⟨[.i k n],by simp only [VL]; exact ⟨_,_,rfl,by simp only [V],rfl⟩,.int hu hw,rfl,by rw [hx]; simp [mkV,hu,szV,blk]⟩
   · rename_i hu
     obtain ⟨s,rfl,hx,hw⟩:=DataW.trod_string hu h
     exact ⟨[.s (lsOf s)],by simp only [VL]; exact ⟨_,_,rfl,V_str _ _ _ s,rfl⟩,.str hu (txt_of hw),rfl,by rw [hx]; simp [mkV,hu,szV,blk,lsOf]⟩
   · rename_i e hu
     simp only [Bool.and_eq_true] at hrd
     have hes:1≤P.cellsOf e:=by simpa using hrd.2
     rcases DataW.trod_slice hu h with ⟨rfl,hx⟩ | ⟨a,len,cap,els,rest,n,hf,rfl,hx,_,hlc,hcm,hel,he,hr,_⟩
     · exact ⟨[.ws false (P.cellsOf e) []],by simp only [VL]; exact ⟨_,_,rfl,LV (by simp only [V]),rfl⟩,Typed.slice (ls:=[]) hu (by simp) (by simp),rfl,by rw [hx]; simp [mkV,hu,szV,szL,blk]⟩
     · obtain rfl:n=fuel:=by omega
       have hread:∀ i,i < len→∃ cs,W.cells? 0 (a.add (i*P.cellsOf e)) (P.cellsOf e)=some cs∧Vk P W e cs ((els[i]?.map fun p=>blk p.1).getD 0):=by
        intro i hi
        have:=he i hi
        have hsome:els[i]? = some els[i]:=List.getElem?_eq_getElem (by omega)
        rw [hsome,Option.bind_eq_some_iff] at this
        obtain ⟨cs,c1,c2⟩:=this
        rw [hsome]
        exact ⟨cs,c1,J3 hts n e cs _ hrd.1 c2⟩
       obtain ⟨ls,vs,h1,h2,h3,h4,h5,h6,h7⟩:=NB hes _ len hread
       have hbulk:szV (mkV P t [.ws false (P.cellsOf e) (ls.map (mkV P e))])≤blk x.1:=by
        rw [hx,← hel,Lu (fun p:DataW H×List MemPlace=>blk p.1) els] at *
        simp only [mkV,hu,List.headD_cons,szV,blk,Q8,List.map_map,Function.comp_def]
        omega
       have hlen63:len < 2^63:=by simp only [maxLen] at hcm; omega
       refine ⟨[.ws false (P.cellsOf e) (ls.map (mkV P e))],?_,Typed.slice hu (by omega) h2,rfl,hbulk⟩
       simp only [VL]
       refine ⟨_,_,rfl,?_,rfl⟩
       by_cases hc0:cap=0
       · obtain rfl:len=0:=by omega
         have:ls=[]:=List.length_eq_zero_iff.1 h1
         subst this
         subst hc0
         exact Q1 (by simp only [V]; exact ⟨a,rfl⟩)
       · -- there is a first place
         have hfirst:∃ cs,W.cells? 0 a (P.cellsOf e)=some cs:=by
          by_cases hl0:0 < len
          · obtain ⟨cs,c1,_⟩:=hread 0 hl0
            rw [Nat.zero_mul] at c1
            exact ⟨cs,by simpa [Addr.add] using c1⟩
          · obtain ⟨hr1,hr2⟩:=hr rfl
            have:=hr2 0 (by omega)
            have hsome:rest[0]? = some rest[0]:=List.getElem?_eq_getElem (by omega)
            rw [hsome,Option.bind_eq_some_iff] at this
            obtain ⟨cs,c1,_⟩:=this
            have hl00:len=0:=by omega
            subst hl00
            rw [Nat.add_zero,Nat.zero_mul] at c1
            exact ⟨cs,by simpa [Addr.add] using c1⟩
         obtain ⟨cs,c1⟩:=hfirst
         obtain ⟨k1,k2⟩:=cells?_get c1
         have hcell:W.cell? a=some cs[0]:=by
          have:=k2 0 cs[0] (List.getElem?_eq_getElem (by omega))
          simpa [Addr.add] using this
         obtain ⟨b,o,sp⟩:=a
         have hb:b < W.heap.size∧sp=none:=by
          simp only [World.cell?] at hcell
          split at hcell
          · rename_i hh
            refine ⟨(Array.getElem?_eq_some_iff.1 hh).1,?_⟩
            cases sp with
            | none=>rfl
            | some _=>simp at hcell
          · cases hcell
         obtain ⟨hb,rfl⟩:=hb
         rw [V_ws]
         right; right
         simp only [V]
         refine ⟨b,o,cap,vs,by simp [h1],⟨hes,by simp [h1]; omega⟩,h4,Gd.2,fun _=>⟨h3,?_,.inl hb,by simp only [capM,HZ]; simp [h1]; omega⟩⟩
         intro j v hj
         have:=h6 j v hj
         simp only [Addr.add] at this
         by_cases hj0:j=0
         · subst hj0; simpa using this
         · rw [if_neg hj0] at this; exact this
   · rename_i fs hu
     simp only [Bool.and_eq_true] at hrd
     obtain ⟨xs,n,hf,hx0,hlen,hxl,hx⟩:=DataW.trod_struct hu h
     obtain rfl:n=fuel:=by omega
     obtain ⟨l,l1,l2,l3,l4⟩:=Lv (P:=P) (W:=W) (ts:=ts) hlen fs.toList 0 hrd.1 (fun i=>(xs[i]?.map fun p=>blk p.1).getD 0) (fun i f hfi=>by
      have hget:fs[i]? = some f:=by simpa using hfi
      have hi':i < fs.size:=(Array.getElem?_eq_some_iff.1 hget).1
      have:=hx i f hget
      have hsome:xs[i]? = some xs[i]:=List.getElem?_eq_getElem (by omega)
      rw [hsome] at this ⊢
      exact J3 hts n f.type _ _ (List.all_eq_true.1 hrd.2 f (List.mem_of_getElem? hfi)) this)
     rw [List.drop_zero] at l1
     refine ⟨l,l1,.struct hu l2,l3,?_⟩
     rw [show fs.toList.length=xs.length by simp [hxl],Lu (fun p:DataW H×List MemPlace=>blk p.1) xs] at l4
     rw [hx0,GG hu]
     simp only [szV,blk,Q8,List.map_map,Function.comp_def]
     omega
   · cases hrd
theorem JP {ts:List Nat} (hts:Pw P ts=true) {t:TypeId} {v:Value} {d:DataW H} {ps:List MemPlace} {base:Nat} (ht:ts.contains t=true) (hv:Value.okWide P W .any base t v)
    (h:DataW.Trod enc P W 0 (fun _=>true) true t v d ps):∃ l,V (g0 W) s0 W (mkV P t l) v∧Typed P t l∧szV (mkV P t l)≤blk d:=by
 obtain ⟨fuel,hf⟩:=h
 obtain ⟨l,h1,h2,h3,h4⟩:=J3 hts fuel t _ _ ht hf
 refine ⟨l,?_,h2,h4⟩
 rcases Lt h2 with ⟨fs,hu⟩ | ⟨hn,a,rfl,hc⟩
 · rw [GG hu]
   simp only [Value.okWide,hu] at hv
   obtain ⟨cs,rfl,_⟩:=hv
   simp only [V]
   exact ⟨cs.toList,by simpa [Value.cells] using h1,rfl⟩
 · rw [Hc hn]
   simp only [VL] at h1
   obtain ⟨u,r,hcs,hu,rfl⟩:=h1
   have hna:∀ cs,v≠.agg cs:=by
    rintro cs rfl
    have hrd:Ov P ts t=true:=List.all_eq_true.1 hts t (by simpa using ht)
    unfold Ov at hrd
    split at hrd
    · rename_i h0; simp [Value.okWide,Cell.okWide,Cell.ok,h0] at hv
    · rename_i h0; simp [Value.okWide,Cell.okWide,Cell.ok,h0] at hv
    · rename_i h0; simp [Value.okWide,Cell.okWide,Cell.ok,h0] at hv
    · rename_i h0; simp [Value.okWide,Cell.okWide,Cell.ok,h0] at hv
    · rename_i fs h0; exact hn fs h0
    · cases hrd
   have:v.cells.toList=[v]:=by
    cases v<;>first | rfl | (exact absurd rfl (hna _))
   rw [this] at hcs
   cases hcs
   exact hu
end
section inv
variable {P:Program} {t e:Nat} {l:List AV}
theorem NC (hu:P.underlying t=some .bool) (h:Typed P t l):∃ b,l=[.b b]:=by
 cases h with
 | bool h=>exact ⟨_,rfl⟩
 | int h=>rw [hu] at h; cases h
 | str h=>rw [hu] at h; cases h
 | slice h=>rw [hu] at h; cases h
 | struct h=>rw [hu] at h; cases h
theorem Hd {k:IntKind} (hu:P.underlying t=some (.int k)) (h:Typed P t l):∃ n,l=[.i k n]∧(Lit.int k n).wf=true:=by
 cases h with
 | bool h=>rw [hu] at h; cases h
 | int h hw=>rw [hu] at h; cases h; exact ⟨_,rfl,hw⟩
 | str h=>rw [hu] at h; cases h
 | slice h=>rw [hu] at h; cases h
 | struct h=>rw [hu] at h; cases h
theorem Tq (hu:P.underlying t=some .string) (h:Typed P t l):∃ x,l=[.s x]∧Txt x:=by
 cases h with
 | bool h=>rw [hu] at h; cases h
 | int h=>rw [hu] at h; cases h
 | str h ht=>exact ⟨_,rfl,ht⟩
 | slice h=>rw [hu] at h; cases h
 | struct h=>rw [hu] at h; cases h
theorem Ik (hu:P.underlying t=some (.slice e)) (h:Typed P t l):∃ ls:List (List AV),l=[.ws false (P.cellsOf e) (ls.map (mkV P e))]∧ls.length < 2^63∧∀ l∈ls,Typed P e l:=by
 cases h with
 | bool h=>rw [hu] at h; cases h
 | int h=>rw [hu] at h; cases h
 | str h=>rw [hu] at h; cases h
 | slice h h1 h2=>rw [hu] at h; cases h; exact ⟨_,rfl,h1,h2⟩
 | struct h=>rw [hu] at h; cases h
theorem Ox {fs:Array Field} (hu:P.underlying t=some (.struct fs)) (h:Typed P t l):TypedF P fs.toList l:=by
 cases h with
 | bool h=>rw [hu] at h; cases h
 | int h=>rw [hu] at h; cases h
 | str h=>rw [hu] at h; cases h
 | slice h=>rw [hu] at h; cases h
 | struct h h1=>rw [hu] at h; cases h; exact h1
theorem Eo {f:Field} {r:List Field} (h:TypedF P (f::r) l):∃ a b,l=a++b∧Typed P f.type a∧TypedF P r b:=by
 cases h with
 | cons h1 h2=>exact ⟨_,_,rfl,h1,h2⟩
theorem R5 (h:TypedF P [] l):l=[]:=by cases h; rfl
theorem Lw {α:Type} {f:α→AV} {Q:α→Prop} (h:∀ l,Typed P e l→∃ a,mkV P e l=f a∧Q a):∀ ls:List (List AV),(∀ l∈ls,Typed P e l)→∃ L:List α,ls.map (mkV P e)=L.map f∧L.length=ls.length∧∀ a∈L,Q a
 | [],_=>⟨[],rfl,rfl,by simp⟩
 | x::ls,hl=>by
   obtain ⟨a,h1,h2⟩:=h x (hl x (by simp))
   obtain ⟨L,k1,k2,k3⟩:=Lw h ls fun l hm=>hl l (by simp [hm])
   refine ⟨a::L,by simp [h1,k1],by simp [k2],fun b hb=>?_⟩
   rcases List.mem_cons.1 hb with rfl | hb
   · exact h2
   · exact k3 b hb
theorem R6 (hu:P.underlying t=some (.slice e)) (he:P.underlying e=some .string) (hc:P.cellsOf e=1) (h:Typed P t l):∃ L:List (List Nat),l=[.ws false 1 (L.map .s)]∧L.length < 2^63∧∀ x∈L,Txt x:=by
 obtain ⟨ls,rfl,h1,h2⟩:=Ik hu h
 obtain ⟨L,k1,k2,k3⟩:=Lw (f:=AV.s) (Q:=Txt) (fun l h=>by
  obtain ⟨x,rfl,hx⟩:=Tq he h
  exact ⟨x,Hc (fun fs hh=>by rw [he] at hh; cases hh) _,hx⟩) ls h2
 exact ⟨L,by rw [k1,hc],by omega,k3⟩
end inv
end Go.Proofs.Ytgloinighjdhlaa.Am

namespace Go.Proofs.Ytgloinighjdhlaa.Am
section
variable {s0 s:St} {n:En} {R:List RA} {B:List (Nat×Box)}
theorem Hp.sortI (H:Hp s0 s n R B) (i:Nat) {id T rm:Nat} {M:List Int} (h:B[i]? = some (id,.row T (M.map iv) false rm)) (hM:M.length < 4611686018427387904) (p:Nat×Bool) :
    ∃ s',GE [.bl id 1 0 M.length p] s=some (.tup [],s')∧Hp s0 s' n R (B.set i (id,.row T ((Ha M).map iv) false rm))∧s'.nb=s.nb:=by
 have hb:=(H.box h).1
 simp only at hb
 refine ⟨_,?_,H.setBox h _,rfl⟩
 simp only [GE,hb,Tg,Q7]
 rw [if_pos ⟨trivial,hM⟩]
theorem Ph:∀ L:List Int,CU (L.map iv)=L.map iv
 | []=>rfl
 | z::L=>by
   have:=Ph L
   simp only [CU,List.map_cons,List.flatMap_cons] at this ⊢
   rw [this]; rfl
theorem Rp:∀ L:List Int,wkM .id (L.map iv)=L.map iv
 | []=>by simp only [List.map_nil,wkM]
 | z::L=>by
   simp only [List.map_cons,wkM,Rp L,List.cons.injEq,and_true]
   rw [iv,Am.wk]
theorem JA:∀ L:List Int,AV.refs.go (L.map iv)=false
 | []=>rfl
 | z::L=>by
   simp only [List.map_cons,AV.refs.go,JA L]
   rfl
theorem Jo:∀ L:List Int,E8 (L.map iv) (L.map iv)=true
 | []=>rfl
 | z::L=>by simp [List.map_cons,E8,iv,beqA,Jo L]
end
end Go.Proofs.Ytgloinighjdhlaa.Am

namespace Go.Proofs.Ytgloinighjdhlaa.Am
variable {P:Program} {gt:Nat→Option (List AV)}
mutual
def Ct:AV→Option AV
 | .b x=>some (.b x)
 | .i k n=>some (.i k n)
 | .s l=>some (.s l)
 | .nsl=>some .nsl
 | .ws _ es xs=>match EH xs with
   | some ys=>if Ag es ys=true then some (.ws false es ys) else none
   | none=>none
 | .sl es xs m=>match m with
   | .tok _ _=>none
   | _=>match EH xs with
     | some ys=>if Ag es ys=true then some (.ws false es ys) else none
     | none=>none
 | .agg l=>match EH l with
   | some l=>some (.agg l)
   | none=>none
 | _=>none
def EH:List AV→Option (List AV)
 | []=>some []
 | a::l=>match Ct a,EH l with
   | some a,some l=>some (a::l)
   | _,_=>none
end
theorem K8:∀ {xs ys:List AV},EH xs=some ys→ys.length=xs.length
 | [],ys,h=>by simp only [EH] at h; cases h; rfl
 | a::l,ys,h=>by
   simp only [EH] at h
   split at h<;>cases h
   rename_i h1
   simp [K8 h1]
theorem Sj {CR:Nat→Code→C→Prop} {g:G} {s:St} {w:World} (hI:Inv CR g s w) {b n:Nat} (h:safe g b n):safe (g0 w) b n:=by
 unfold safe at h ⊢
 have h1:=hI.base
 by_cases hb:b < w.heap.size
 · exact .inl hb
 · have h2:=hI.fresh b (by omega)
   rcases h with h | h
   · exact .inl (by show b < w.heap.size; omega)
   · exact .inr (by show n≤0; omega)
theorem Sk {CR:Nat→Code→C→Prop} {g:G} {s:St} {w:World} (hI:Inv CR g s w) {es n b o cap:Nat} {m:Cap} {ys:List AV} {vs:List Value} (hm:∀ k v,m≠.tok k v) (hn:ys.length=n) (h1:1≤es∧n≤cap) (ha:Ag es ys=true)
    (hV:VL (g0 w) s0 w ys vs) (hc:CL w b o (flat vs)) (hs:Ii g s m b o (n*es)):V (g0 w) s0 w (.ws false es ys) (.slice (some ⟨b,o,none⟩) n cap):=by
 simp only [V]
 refine .inr (.inr ⟨b,o,cap,vs,by rw [hn],by rw [hn]; exact h1,ha,trivial,fun _=>⟨hV,hc,?_,by rw [hn]; exact h1.2⟩⟩)
 have hs':safe g b (o+n*es):=by
  cases m with
  | tok k v=>exact absurd rfl (hm k v)
  | full=>exact hs
  | shut=>exact hs
 rw [hn]
 exact Sj hI hs'
mutual
theorem U2 {CR:Nat→Code→C→Prop} {g:G} {s:St} {w:World} (hI:Inv CR g s w):∀ (a:AV) {a':AV} {u:Value},V g s w a u→Ct a=some a'→V (g0 w) s0 w a' u
 | .b x,a',u,hv,h=>by simp only [Ct] at h; cases h; simp only [V] at hv ⊢; exact hv
 | .i k n,a',u,hv,h=>by simp only [Ct] at h; cases h; simp only [V] at hv ⊢; exact hv
 | .s l,a',u,hv,h=>by simp only [Ct] at h; cases h; simp only [V] at hv ⊢; exact hv
 | .nsl,a',u,hv,h=>by simp only [Ct] at h; cases h; simp only [V] at hv ⊢; exact hv
 | .agg l,a',u,hv,h=>by
   simp only [Ct] at h
   split at h<;>cases h
   rename_i l' hl
   simp only [V] at hv ⊢
   obtain ⟨vs,h1,rfl⟩:=hv
   exact ⟨vs,I4 hI l h1 hl,rfl⟩
 | .ws f es xs,a',u,hv,h=>by
   simp only [Ct] at h
   split at h<;>try (cases h; done)
   rename_i ys hy
   split at h<;>cases h
   rename_i ha
   have hlen:=K8 hy
   simp only [V] at hv
   rcases hv with ⟨rfl,rfl⟩ | ⟨⟨a,rfl⟩,rfl⟩ | ⟨b,o,cap,vs,rfl,h1,h2,h3,h4⟩
   · have:ys=[]:=List.length_eq_zero_iff.1 hlen
     subst this
     show V (g0 w) s0 w (.ws false es []) _
     rw [V]; exact .inl ⟨rfl,rfl⟩
   · have:ys=[]:=List.length_eq_zero_iff.1 hlen
     subst this
     show V (g0 w) s0 w (.ws false es []) _
     rw [V]; exact .inr (.inl ⟨⟨a,rfl⟩,rfl⟩)
   · obtain ⟨k1,k2,k3,k4⟩:=h4 (by cases f<;>rfl)
     exact Sk hI (m:=capM f) (by intro k v; cases f<;>simp [capM]) hlen h1 ha (I4 hI xs k1 hy) k2 k3
 | .sl es xs m,a',u,hv,h=>by
   simp only [Ct] at h
   split at h<;>try (cases h; done)
   rename_i hm
   split at h<;>try (cases h; done)
   rename_i ys hy
   split at h<;>cases h
   rename_i ha
   have hlen:=K8 hy
   simp only [V] at hv
   obtain ⟨b,o,cap,vs,rfl,h1,h2,h3,h4⟩:=hv
   obtain ⟨k1,k2,k3,k4⟩:=h4 (by cases m with | tok k v=>exact absurd rfl (hm k v) | full=>rfl | shut=>rfl)
   exact Sk hI (m:=m) (fun k v e=>hm k v e) hlen h1 ha (I4 hI xs k1 hy) k2 k3
 | .np,_,_,_,h=>by simp only [Ct] at h; cases h
 | .p _ _,_,_,_,h=>by simp only [Ct] at h; cases h
 | .ep _ _ _,_,_,_,h=>by simp only [Ct] at h; cases h
 | .wz,_,_,_,h=>by simp only [Ct] at h; cases h
 | .bl _ _ _ _ _,_,_,_,h=>by simp only [Ct] at h; cases h
 | .sd _ _ _,_,_,_,h=>by simp only [Ct] at h; cases h
 | .ige _,_,_,_,h=>by simp only [Ct] at h; cases h
 | .nm,_,_,_,h=>by simp only [Ct] at h; cases h
 | .m _,_,_,_,h=>by simp only [Ct] at h; cases h
 | .nf,_,_,_,h=>by simp only [Ct] at h; cases h
 | .fn _ _,_,_,_,h=>by simp only [Ct] at h; cases h
 | .yld _,_,_,_,h=>by simp only [Ct] at h; cases h
 | .ni,_,_,_,h=>by simp only [Ct] at h; cases h
 | .ifc _ _,_,_,_,h=>by simp only [Ct] at h; cases h
 | .tup _,_,_,_,h=>by simp only [Ct] at h; cases h
 | .any,_,_,_,h=>by simp only [Ct] at h; cases h
 | .mth _ _,_,_,_,h=>by simp only [Ct] at h; cases h
theorem I4 {CR:Nat→Code→C→Prop} {g:G} {s:St} {w:World} (hI:Inv CR g s w):∀ (l:List AV) {l':List AV} {us:List Value},VL g s w l us→EH l=some l'→VL (g0 w) s0 w l' us
 | [],l',us,hv,h=>by simp only [EH] at h; cases h; simp only [VL] at hv ⊢; exact hv
 | a::l,l',us,hv,h=>by
   simp only [EH] at h
   split at h<;>cases h
   rename_i a' r' h1 h2
   simp only [VL] at hv ⊢
   obtain ⟨v,r,rfl,k1,k2⟩:=hv
   exact ⟨v,r,rfl,U2 hI a k1 h1,I4 hI l k2 h2⟩
end
end Go.Proofs.Ytgloinighjdhlaa.Am

namespace Go.Proofs.Ytgloinighjdhlaa.Am
variable {P:Program} {gt:Nat→Option (List AV)}
def frzE (s:St):List AV→Option (List AV×St)
 | []=>some ([],s)
 | .agg l::r=>match frzL s l with
   | some (l,s)=>match frzE s r with
     | some (r,s)=>some (.agg l::r,s)
     | none=>none
   | none=>none
 | a::r=>match frzE s r with
   | some (r,s)=>some (a::r,s)
   | none=>none
def Rm (s:St) (a:AV):Option (AV×St):=match frz s a with
 | some (.sl es xs .shut,s)=>match frzE s xs with
   | some (xs,s)=>if Ag es xs=true then some (.sl es xs .shut,s) else none
   | none=>none
 | r=>r
def IP (s:St):List AV→Option (List AV×St)
 | []=>some ([],s)
 | a :: l=>match Rm s a with
   | some (a,s)=>match IP s l with
     | some (l,s)=>some (a::l,s)
     | none=>none
   | none=>none
theorem Sl {g0':Nat→Code→C→Prop} {w:World}:∀ {xs xs':List AV} {s s':St} {g:G} {vs:List Value},Inv g0' g s w→VL g s w xs vs→frzE s xs=some (xs',s') →
    ∃ g2,Inv g0' g2 s' w∧Le g s w g2 s' w∧VL g2 s' w xs' vs∧Esc s s'∧xs'.length=xs.length
 | [],xs',s,s',g,vs,hI,hv,h=>by
   simp only [frzE] at h
   cases h
   exact ⟨g,hI,Le.refl _ _ _,hv,Esc.refl _,rfl⟩
 | a :: r,xs',s,s',g,vs,hI,hv,h=>by
   simp only [VL] at hv
   obtain ⟨v,vr,rfl,h1,h2⟩:=hv
   have rest:∀ {a':AV} {s1:St} {g1:G},Inv g0' g1 s1 w→Le g s w g1 s1 w→V g1 s1 w a' v→Esc s s1→∀ {r':List AV},frzE s1 r=some (r',s') →
       ∃ g2,Inv g0' g2 s' w∧Le g s w g2 s' w∧VL g2 s' w (a'::r') (v::vr)∧Esc s s'∧(a'::r').length=(a::r).length:=by
    intro a' s1 g1 hI1 hL1 hV1 hE1 r' hr
    obtain ⟨g2,hI2,hL2,hV2,hE2,hl⟩:=Sl hI1 (BS hL1 _ _ h2) hr
    exact ⟨g2,hI2,hL1.trans hL2,by simp only [VL]; exact ⟨v,vr,rfl,DE hL2 _ _ hV1,hV2⟩,Esc.trans hL1.nb hE1 hE2,by simp [hl]⟩
   unfold frzE at h
   split at h
   · rename_i e; cases e
   · rename_i l r0 e
     cases e
     split at h<;>try (cases h; done)
     rename_i l' s1 hp
     split at h<;>try (cases h; done)
     rename_i r' s2 hr
     cases h
     simp only [V] at h1
     obtain ⟨us,k1,rfl⟩:=h1
     obtain ⟨g1,hI1,hL1,hV1,hE1⟩:=Pq hI k1 hp
     exact rest hI1 hL1 (a':=.agg l') (by simp only [V]; exact ⟨us,hV1,rfl⟩) hE1 hr
   · rename_i a0 r0 hne e
     cases e
     split at h<;>try (cases h; done)
     rename_i r' s2 hr
     cases h
     exact rest hI (Le.refl _ _ _) h1 (Esc.refl _) hr
theorem U3 {CR:Nat→Code→C→Prop} {g:G} {s s':St} {w:World} {x r:AV} {u:Value} (hI:Inv CR g s w) (hv:V g s w x u) (h:Rm s x=some (r,s')):Good CR g s w s' r u w:=by
 unfold Rm at h
 split at h
 · rename_i es xs s1 hf
   obtain ⟨g1,hI1,hL1,hV1,hE1⟩:=M6 hI hv hf
   split at h<;>try (cases h; done)
   rename_i xs' s2 he
   split at h<;>cases h
   rename_i hal
   have hV2:=hV1
   simp only [V] at hV2
   obtain ⟨b,o,cap,vs,rfl,h1,h2,h3,h4⟩:=hV2
   obtain ⟨k1,k2,k3,k4⟩:=h4 rfl
   obtain ⟨g2,hI2,hL2,hVL,hE2,hlen⟩:=Sl hI1 k1 he
   have hV3:=DE hL2 _ _ hV1
   simp only [V] at hV3 ⊢
   obtain ⟨b',o',cap',vs',e,h1',h2',h3',h4'⟩:=hV3
   simp only [Value.slice.injEq,Option.some.injEq,Addr.mk.injEq] at e
   obtain ⟨⟨rfl,rfl,_⟩,_,rfl⟩:=e
   obtain ⟨_,_,k3',k4'⟩:=h4' rfl
   refine ⟨g2,hI2,hL1.trans hL2,?_,Esc.trans hL1.nb hE1 hE2⟩
   simp only [V]
   rw [← hlen] at h1 k3' k4' ⊢
   exact ⟨b,o,cap,vs,rfl,h1,hal,h3',fun _=>⟨hVL,k2,k3',k4'⟩⟩
 · exact M6 hI hv h
theorem OP {CR:Nat→Code→C→Prop} {w:World}:∀ {l:List AV} {g:G} {s s':St} {us:List Value} {vs:List AV},Inv CR g s w→VL g s w l us→IP s l=some (vs,s')→S1 CR g s w s' vs us w
 | [],g,s,s',us,vs,hI,hv,h=>by
   simp only [IP] at h; cases h
   exact ⟨g,hI,Le.refl _ _ _,hv,Esc.refl _⟩
 | a::l,g,s,s',us,vs,hI,hv,h=>by
   simp only [IP] at h
   split at h<;>try (cases h; done)
   rename_i a' s1 h1
   split at h<;>try (cases h; done)
   rename_i l' s2 h2
   cases h
   simp only [VL] at hv
   obtain ⟨v,r,rfl,hv1,hv2⟩:=hv
   obtain ⟨g1,hI1,hL1,hV1,hE1⟩:=U3 hI hv1 h1
   obtain ⟨g2,hI2,hL2,hV2,hE2⟩:=OP hI1 (BS hL1 _ _ hv2) h2
   exact ⟨g2,hI2,hL1.trans hL2,by simp only [VL]; exact ⟨v,r,rfl,DE hL2 _ _ hV1,hV2⟩,Esc.trans hL1.nb hE1 hE2⟩
noncomputable def delegQ (p:Nat→Option Fun) (cs:List CT) (f:Nat) (args:List AV) (s:St):Option (AV×St):=match IP s args with
 | some (a1,_)=>match EH (wkZ cs a1) with
   | some a2=>match (lim p).call f a2 s0 with
     | some (.b x,_)=>some (.b x,s)
     | some (.i k n,_)=>some (.i k n,s)
     | _=>none
   | none=>none
 | none=>none
theorem I5 {p:Nat→Option Fun} {cs:List CT} {f:Nat} {args a1 a2:List AV} {s s1 s2:St} {x:Bool} (h1:IP s args=some (a1,s1)) (h2:EH (wkZ cs a1)=some a2) (h3:(lim p).call f a2 s0=some (.b x,s2)):delegQ p cs f args s=some (.b x,s):=by
 simp only [delegQ,h1,h2,h3]
theorem Qi {p:Nat→Option Fun} {cs:List CT} {f:Nat} {args a1 a2:List AV} {s s1 s2:St} {k:IntKind} {n:Int} (h1:IP s args=some (a1,s1)) (h2:EH (wkZ cs a1)=some a2) (h3:(lim p).call f a2 s0=some (.i k n,s2)):delegQ p cs f args s=some (.i k n,s):=by
 simp only [delegQ,h1,h2,h3]
theorem Sn {progC:Nat→Option Fun} {cs:List CT} {f:Nat} (hN:CW P) (hX:Ctx P gt progC) (hb:∃ F b,P.funcs[f]? = some F∧F.body=some b):PrimOk P gt f (delegQ progC cs f):=by
 refine ⟨hb,fun args s r s' hp g w vs hI hG hv=>?_⟩
 have key:∀ {a1 a2:List AV} {s1 s2:St} {r:AV},IP s args=some (a1,s1)→EH (wkZ cs a1)=some a2→(lim progC).call f a2 s0=some (r,s2)→(∀ v,V (g0 w) s0 w r v→∀ g' s' w',V g' s' w' r v)→(∀ g' s' w' v,V g' s' w' r v→V (g0 w) s0 w r v) →
     Calls P f vs.toArray w fun e w'=>∃ v,e=.returned v∧(∀ g' s' w',V g' s' w' r v)∧Grown w w':=by
  intro a1 a2 s1 s2 r h1 h2 h3 hr hr2
  obtain ⟨g1,hI1,_,hV1,_⟩:=OP hI hv h1
  have hV2:=I4 hI1 _ (Ou a1 cs _ hV1) h2
  obtain ⟨n,hn⟩:=Bh.1 h3
  have hG0:GT gt (g0 w) w:=fun i l h=>by
   obtain ⟨_,cs,h2,h3,row,a,b,h4,h5⟩:=hG i l h
   exact ⟨(Array.getElem?_eq_some_iff.1 h4).1,cs,h2,h3,row,a,b,h4,h5⟩
  have:=(To hN hX n).call f a2 s0 _ s2 hn (g0 w) w vs (inv0 w) hG0 hV2
  refine this.mono ?_
  rintro e W' ⟨v,rfl,g',hI',hL,hV,hE⟩
  exact ⟨v,rfl,hr v (hr2 _ _ _ v hV),hL.io.1,hL.io.2,hL.size,hL.low⟩
 have fin:∀ {r:AV},(Calls P f vs.toArray w fun e w'=>∃ v,e=.returned v∧(∀ g' s' w',V g' s' w' r v)∧Grown w w')→Calls P f vs.toArray w fun e w'=>∃ v,e=.returned v∧Good (CRof P gt) g s w s r v w':=by
  intro r h
  refine h.mono ?_
  rintro e w' ⟨v,rfl,h1,h2⟩
  exact ⟨v,rfl,g,hI.grown h2,Le.grown hI h2,h1 _ _ _,Esc.refl _⟩
 unfold delegQ at hp
 split at hp<;>try (cases hp; done)
 rename_i a1 s1 h1
 split at hp<;>try (cases hp; done)
 rename_i a2 h2
 split at hp<;>try (cases hp; done)
 · rename_i x s2 h3
   cases hp
   exact fin (key h1 h2 h3 (fun v h _ _ _=>by simp only [V] at h ⊢; exact h) (fun _ _ _ v h=>by simp only [V] at h ⊢; exact h))
 · rename_i k n s2 h3
   cases hp
   exact fin (key h1 h2 h3 (fun v h _ _ _=>by simp only [V] at h ⊢; exact h) (fun _ _ _ v h=>by simp only [V] at h ⊢; exact h))
end Go.Proofs.Ytgloinighjdhlaa.Am

namespace Go.Proofs.Ytgloinighjdhlaa.Am
structure Fq (O:Nat→Prop) (h:Nat) (q q':St):Prop where
 nb:h≤q'.nb
 box:∀ j,j < h→¬ O j→q'.box? j=q.box? j
 lo:q'.lo≤q.lo
 tok:q.nt≤q'.nt∧∀ k,k < q.nt→q'.tok? k=q.tok? k
structure TokSafe (h:Nat) (C:Nat→St→Prop):Prop where
 low:∀ k q,q.lo < h→C k q
 mono:∀ k q q',C k q→q'.lo≤q.lo→C k q'
def Cin (h:Nat) (C:Nat→St→Prop) (s:St):Nat→St→Prop:=fun k q=>(C k s∧k < s.nt)∨q.lo < h
def C0 (h t:Nat):Nat→St→Prop:=fun k q=>k < t∨q.lo < h
theorem C0.safe (h t:Nat):TokSafe h (C0 h t):=⟨fun _ _ h=>.inr h,fun _ _ _ h hl=>h.imp_right fun h=>Nat.lt_of_le_of_lt hl h⟩
theorem Cin.safe {h:Nat} {C:Nat→St→Prop} (s:St):TokSafe h (Cin h C s):=⟨fun _ _ h=>.inr h,fun _ _ _ h hl=>h.imp_right fun h=>Nat.lt_of_le_of_lt hl h⟩
section
variable {O O1:Nat→Prop} {h h1:Nat} {q q' q2 s s0:St}
theorem Fq.refl (hq:h≤q.nb):Fq O h q q:=⟨hq,fun _ _ _=>rfl,Nat.le_refl _,Nat.le_refl _,fun _ _=>rfl⟩
theorem Fq.trans (f:Fq O h q q') (g:Fq O h q' q2):Fq O h q q2 :=
 ⟨g.nb,fun j hj hn=>(g.box j hj hn).trans (f.box j hj hn),Nat.le_trans g.lo f.lo,Nat.le_trans f.tok.1 g.tok.1,fun k hk=>(g.tok.2 k (by have:=f.tok.1; omega)).trans (f.tok.2 k hk)⟩
theorem Fq.new (hq:h≤q.nb) (B:Box):Fq O h q (q.new B) :=
 ⟨by simp [St.new]; omega,fun j hj _=>El (by omega),Nat.le_refl _,Nat.le_refl _,fun _ _=>rfl⟩
theorem Fq.lo' (hq:h≤q.nb) {n:Nat} (hn:n≤q.lo):Fq O h q { q with lo:=n }:=⟨hq,fun _ _ _=>rfl,hn,Nat.le_refl _,fun _ _=>rfl⟩
theorem Fq.setBox (hw:Wf q) (hq:h≤q.nb) {id:Nat} (hid:h≤id∨O id) (h2:id < q.nb) (B:Box):Fq O h q (q.setBox id B) :=
 ⟨hq,fun j hj hn=>by
  rw [setBox_box? hw.b h2,if_neg]
  rintro rfl
  rcases hid with hid | hid
  · omega
  · exact hn hid,Nat.le_refl _,Nat.le_refl _,fun _ _=>rfl⟩
end
structure BodyG (prog:Nat→Option Fun) (O:Nat→Prop) (s0:St) (hc h:Nat) (y:AV) (L:List (List AV)) (I:(Nat→St→Prop)→Nat→St→Prop) (R:St→Prop):Prop where
 stab:∀ C j q q',TokSafe hc C→I C j q→Fq O h q q'→I C j q'
 enter:∀ C j q,TokSafe hc C→I C j q→h≤q.nb→I (Cin hc C q) j q.enter
 leave:∀ C j s q v,TokSafe hc C→I (Cin hc C s) j q→h≤s.nb→s.nb≤q.nb→s.nt≤q.nt→Wf q→v.refs=false→I C j (Am.leave s q v)
 stabR:∀ q q',R q→Fq O h q q'→R q'
 leaveR:∀ s q v,R q→h≤s.nb→s.nb≤q.nb→s.nt≤q.nt→Wf q→v.refs=false→R (Am.leave s q v)
 step:∀ C (j:Nat) (hj:j < L.length) q,TokSafe hc C→I C j q→Over s0 q→Wf q→h≤q.nb→∃ b q',Dk (lim prog) y L[j] q=some (.b b,q')∧(b=true→I C (j+1) q')∧(b=false→R q') ∧
  Over s0 q'∧Wf q'∧q.nb≤q'.nb∧q.nt≤q'.nt∧∀ i,(O i∨h≤i)→i < q.nb→q'.box? i=q.box? i
section
variable {h:Nat} {q s:St}
theorem TO (hw:Wf q) (hn:s.nb≤q.nb) {j:Nat} (hj:j < s.nb) (v:AV):(leave s q v).box? j=q.box? j:=by
 unfold Am.leave
 split
 · exact Nr hw hn hj
 · rfl
theorem Om {C:Nat→St→Prop} (hC:TokSafe h C) (hw:Wf q) (hs:h≤s.nb) (hn:s.nb≤q.nb) (ht:s.nt≤q.nt) {v:AV} (hv:v.refs=false) {k:Nat} (hk:k < q.nt) (hc:Cin h C s k q) :
    C k (leave s q v)∧k < (leave s q v).nt∧(leave s q v).tok? k=q.tok? k:=by
 unfold Am.leave
 rw [hv]
 by_cases hl:s.nb≤q.lo
 · have:Nat.ble s.nb q.lo=true:=by rw [Nat.ble_eq]; exact hl
   rw [this]
   simp only [Bool.not_false,Bool.and_self,if_true]
   rcases hc with ⟨h1,h2⟩ | h1
   · exact ⟨hC.mono k s _ h1 (Nat.le_refl _),h2,Ns hw ht h2⟩
   · omega
 · have:Nat.ble s.nb q.lo=false:=by
    cases hc:Nat.ble s.nb q.lo with
    | false=>rfl
    | true=>rw [Nat.ble_eq] at hc; exact absurd hc hl
   rw [this]
   simp only [Bool.false_and,Bool.false_eq_true,if_false]
   refine ⟨?_,hk,rfl⟩
   rcases hc with ⟨h1,h2⟩ | h1
   · exact hC.mono k s _ h1 (Nat.min_le_left _ _)
   · exact hC.low k _ (Nat.lt_of_le_of_lt (Nat.min_le_right _ _) h1)
end
def RG (es t0 T Tb id:Nat) (xs:List AV) (fr:Bool) (C:Nat→St→Prop) (q:St):Prop:=∃ a,q.box? id=some (.cells Tb [a])∧RowH t0 q ⟨es,T,a,xs,fr⟩∧∀ k,Av a=some k→C k q
section
variable {es t0 T Tb id h:Nat} {xs:List AV} {fr:Bool} {C:Nat→St→Prop} {q q' s:St} {O:Nat→Prop}
theorem RG.stab (hC:TokSafe h C) (r:RG es t0 T Tb id xs fr C q) (hid:id < h) (hO:¬ O id) {hh:Nat} (hh1:h≤hh) (f:Fq O hh q q'):RG es t0 T Tb id xs fr C q':=by
 obtain ⟨a,h1,h2,h3⟩:=r
 refine ⟨a,by rw [f.box id (by omega) hO]; exact h1,?_,fun k hk=>hC.mono k q _ (h3 k hk) f.lo⟩
 exact h2.mono f.tok.1 fun k hk=>f.tok.2 k (h2.tok_lt hk)
theorem RG.enter (r:RG es t0 T Tb id xs fr C q):RG es t0 T Tb id xs fr (Cin h C q) q.enter:=by
 obtain ⟨a,h1,h2,h3⟩:=r
 exact ⟨a,h1,h2.mono (Nat.le_refl _) fun _ _=>rfl,fun k hk=>.inl ⟨h3 k hk,h2.tok_lt hk⟩⟩
theorem RG.leave (hC:TokSafe h C) (r:RG es t0 T Tb id xs fr (Cin h C s) q) (hid:id < s.nb) (hs:h≤s.nb) (hn:s.nb≤q.nb) (ht:s.nt≤q.nt) (hw:Wf q) {v:AV} (hv:v.refs=false):RG es t0 T Tb id xs fr C (Am.leave s q v):=by
 obtain ⟨a,h1,h2,h3⟩:=r
 refine ⟨a,by rw [TO hw hn (by omega)]; exact h1,?_,fun k hk=>(Om hC hw hs hn ht hv (h2.tok_lt hk) (h3 k hk)).1⟩
 rcases h2 with h2 | ⟨k,v',t,h,k1,k2,k3,k4⟩
 · exact .inl h2
 · simp only at h; subst h
   obtain ⟨_,z2,z3⟩:=Om hC hw hs hn ht hv k2 (h3 k rfl)
   exact .inr ⟨k,v',t,rfl,k1,z2,by rw [z3]; exact k3,k4⟩
def CLow (h:Nat):Nat→St→Prop:=fun _ q=>q.lo < h
theorem CLow.safe (h:Nat):TokSafe h (CLow h):=⟨fun _ _ h=>h,fun _ _ _ h hl=>Nat.lt_of_le_of_lt hl h⟩
theorem RG.leaveL (r:RG es t0 T Tb id xs fr (CLow h) q) (hid:id < s.nb) (hs:h≤s.nb) (hn:s.nb≤q.nb) (ht:s.nt≤q.nt) (hw:Wf q) {v:AV} (hv:v.refs=false):RG es t0 T Tb id xs fr (CLow h) (Am.leave s q v):=by
 refine RG.leave (CLow.safe h) ?_ hid hs hn ht hw hv
 obtain ⟨a,h1,h2,h3⟩:=r
 exact ⟨a,h1,h2,fun k hk=>.inr (h3 k hk)⟩
theorem RG.mono {C':Nat→St→Prop} (r:RG es t0 T Tb id xs fr C q) (h:∀ k,C k q→C' k q):RG es t0 T Tb id xs fr C' q:=by
 obtain ⟨a,h1,h2,h3⟩:=r
 exact ⟨a,h1,h2,fun k hk=>h k (h3 k hk)⟩
end
theorem Hp.keep {s0 q q':St} {n':En} {R':List RA} {M rest:List (Nat×Box)} {mine:List (Nat×Box)} (hr:∀ {i:Nat} {X:Box},s0.nb≤i→q.box? i=some X→(∀ p∈mine,p.1≠i)→(i,X)∈rest) (hw:Wf q) (H:Hp s0 q' n' R' (M++rest)) {i:Nat} (h0:s0.nb≤i) (hi:i < q.nb) (hne:∀ p∈mine,p.1≠i):q'.box? i=q.box? i:=by
 obtain ⟨X,hX⟩:∃ X,q.box? i=some X:=by
  unfold St.box?
  have h1:Nat.blt i q.nb=true:=by rw [Nat.blt_eq]; exact hi
  rw [h1,cond_true]
  exact ⟨_,List.getElem?_eq_getElem (by rw [hw.b]; omega)⟩
 have:=hr h0 hX hne
 obtain ⟨j,hj⟩:=List.mem_iff_getElem?.1 (List.mem_append_right M this)
 rw [hX]
 exact (H.box hj).1
theorem W_rf3 {prog:Nat→Option Fun} {f:X} {ps:List Nat} {a b:C} {e:Tr} {s:St} {Q:Ex→Tr→St→Prop} {g:Nat} {caps:List AV} (hf:f.ev e=.fn g caps)
    (h:∀ e',e'=e→∃ r s',(lim prog).call g (.yld s.nb::caps) (s.new (.loop 0 none e' ps a b))=some (r,s')∧∃ st p tm ps' a' b',s'.box? s.nb=some (.loop st p tm ps' a' b')∧st≠1∧match p with
     | none=>Q .n e' (s'.setBox s.nb .used)
     | some (.exit i)=>Q (.x i) e' (s'.setBox s.nb .used)
     | some .ret=>Q .r e' (s'.setBox s.nb .used)
     | _=>False):W (lim prog) (.rf f ps a b) e s Q:=by
 obtain ⟨r,s',h1,h2⟩:=h e rfl
 exact W_rf hf h1 h2
end Go.Proofs.Ytgloinighjdhlaa.Am
