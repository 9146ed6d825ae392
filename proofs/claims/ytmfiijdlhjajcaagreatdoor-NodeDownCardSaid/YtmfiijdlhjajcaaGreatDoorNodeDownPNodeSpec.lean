/-
  Plain lemmas on the functions.
  Conditions: none.
-/
import Derived.Test.YtmfiijdlhjajcaaGreatDoorNodeDownPProgTie2
set_option linter.unusedVariables false
set_option linter.unusedSimpArgs false
namespace Go.PE
def Zrf (e:Evt):Prop:=e.1=1∨e.1=2
def Ext (f g:Qni):Prop:=∃ ev:List Evt,g.2.2.2.2.1=f.2.2.2.2.1++ev∧∀ e∈ev,Zrf e
theorem Ext.refl (f:Qni):Ext f f:=⟨[],by simp,fun e h=>by cases h⟩
theorem Ext.of {f g:Qni} (h:g.2.2.2.2.1=f.2.2.2.2.1):Ext f g:=⟨[],by simp [h],fun e h=>by cases h⟩
theorem Ext.trans {f g h:Qni}:Ext f g→Ext g h→Ext f h
 | ⟨a,a1,a2⟩,⟨b,b1,b2⟩=>⟨a++b,by rw [b1,a1,List.append_assoc],fun e he=>(List.mem_append.1 he).elim (a2 e) (b2 e)⟩
theorem Zjp (t:Int):∀ (w:List Qnb) (nx:Int) (r:List Qnb) (l:List Evt) (a b:Int),∃ ev:List Evt,(Qvp t nx r w l a b).2.2.2.2.1=l++ev∧∀ e∈ev,Zrf e
 | [],nx,r,l,a,b=>⟨[],by simp [Qvp],fun e h=>by cases h⟩
 | x::q,nx,r,l,a,b=>by
  unfold Qvp
  split
  ·obtain ⟨ev,h1,h2⟩:=Zjp t q (nx+1) (Z95 r x) (l++[Z61 x]) 0 0
   refine ⟨Z61 x::ev,by rw [h1,List.append_assoc];rfl,fun e he=>?_⟩
   rcases List.mem_cons.1 he with rfl | he
   ·exact .inl rfl
   ·exact h2 e he
  ·exact ⟨[],by simp,fun e h=>by cases h⟩
theorem Zeo (f:Qni):Ext f (Qvw f):=Zjp _ _ _ _ _ _ _
theorem Zob (hi why:Int) (f:Qni):Ext f (Qoh hi why f):=by
 have key:∀ to:Int,Ext f (if f.1≤to then (to+1,f.2.1,f.2.2.1,f.2.2.2.1,f.2.2.2.2.1++[Zd7 f.1 to why],0,0) else (f.1,f.2.1,f.2.2.1,f.2.2.2.1,f.2.2.2.2.1,0,0)):=by
  intro to
  split
  ·exact ⟨[Zd7 f.1 to why],rfl,fun e he=>by rcases List.mem_singleton.1 he with rfl;exact .inr rfl⟩
  ·exact Ext.of rfl
 have key2:∀ g:Qni,Ext f g→Ext f (if g.1≤hi then Qvw g else g):=by
  intro g h
  split
  ·exact h.trans (Zeo g)
  ·exact h
 exact key2 _ (key _)
theorem Zhd (hi why:Int):∀ (n:Nat) (f:Qni),Ext f (Qt0 hi why n f)
 | 0,f=>Ext.refl f
 | n+1,f=>by
  unfold Qt0
  split
  ·exact (Zob hi why f).trans (Zhd hi why n _)
  ·exact Ext.refl f
theorem Zml (f:Qni) (hi why:Int):Ext f (Qvq f hi why):=by
 unfold Qvq
 split
 ·exact Ext.refl f
 ·exact Zhd _ _ _ _
theorem Qzs (f:Qni) (top:Int):Ext f (Ql2 f top):=Ext.of (by rw [(Z27 f top).2])
theorem Zmr (f:Qni) (n:Int):Ext f (Z5g f n):=by
 unfold Z5g
 split
 ·exact Qzs f _
 ·split
  ·exact Ext.of rfl
  ·exact Ext.refl f
theorem Zmc (f:Qni) (i:Qnb):Ext f (Z5e f i):=by
 unfold Z5e
 split
 ·exact Ext.refl f
 ·simp only
  have h1:=Qzs f i.1
  exact h1.trans ((Ext.of (g:=((Ql2 f i.1).1,(Ql2 f i.1).2.1,(Ql2 f i.1).2.2.1,Zn8 (Ql2 f i.1).2.2.2.1 (Ql2 f i.1).1 i,(Ql2 f i.1).2.2.2.2)) rfl).trans (Zeo _))
theorem Zn0 (f:Qni) (lo hi:Int):Ext f (Z59 f lo hi):=by
 unfold Z59
 split
 ·exact Ext.refl f
 ·simp only
  split
  ·exact Qzs f hi
  ·exact (Qzs f hi).trans ((Zml _ _ _).trans (Zeo _))
def Ze5 (f g:Qni):List Evt:=g.2.2.2.2.1.drop f.2.2.2.2.1.length
theorem Ext.new {f g:Qni} (h:Ext f g):g.2.2.2.2.1=f.2.2.2.2.1++Ze5 f g∧∀ e∈Ze5 f g,Zrf e:=by
 obtain ⟨ev,h1,h2⟩:=h
 have:Ze5 f g=ev:=by unfold Ze5;rw [h1,List.drop_left]
 rw [this];exact ⟨h1,h2⟩
theorem Zjf (f:Qni):Ze5 f f=[]:=by unfold Ze5;rw [List.drop_length]
def Zcm (t:Tie) (e:Evt) (k:Kid):Qk7:=if e.1=1 then (7,t.1,k.1,t.2.1,0,0,[],e.2.1,0,e.2.2.2.1) else (9,t.1,k.1,t.2.1,0,0,[],e.2.1,e.2.2.1,ebA)
def dnK (t:Tie) (e:Evt) (ks:List Kid):List Qk7:=ks.map (Zcm t e)
def dnM (t:Tie):List Evt→List Qk7
 | []=>[]
 | e::r=>dnK t e t.2.2.2.2.2.2.2.2.2.2.2.2++dnM t r
def Qwf (t:Tie) (f:Qni):Qk7→Int→Qni
 | (kd,fr,to,mi,me,ag,pa,lo,hi,tx),was=>
  if ¬ (fr=t.2.2.2.1∧mi=t.2.2.2.2.1) then f
  else if kd=2∧was≠fr then Ql2 (Z5g f lo) (lo - 1)
  else if kd=5∧was=fr then Ql2 f hi
  else if kd=7 then Z5e f (lo,tx)
  else if kd=9 then Z59 f lo hi
  else f
def itM (t:Tie) (to:Int) (i:Qnb):Qk7:=(7,t.1,to,t.2.1,0,0,[],i.1,0,i.2)
def ntM (t:Tie) (to:Int) (s:Int × Int):Qk7:=(9,t.1,to,t.2.1,0,0,[],s.1,s.2,ebA)
def Qy8 (t:Tie) (f:Qni) (m:Qk7):List Qk7:=
 match Qug t.2.2.2.2.2.2.2.2.2.2.2.2 m.fr with
 | some k=>if k.2.1=m.inc then (Qx8 f m.lo m.hi).1.map (itM t m.fr)++(Qx8 f m.lo m.hi).2.map (ntM t m.fr) else []
 | none=>[]
def Zd5 (n:Zbs) (m:Qk7):Zbs × List Qk7:=
 let r:=Qsz n.2.2.2.1 m (max n.2.2.2.2.1.1 1)
 let f:=Qwf r.1 n.2.2.2.2.1 m n.2.2.2.1.2.2.2.1
 ((n.1,n.2.1,n.2.2.1,r.1,f,n.2.2.2.2.2),(r.2++(if m.kd=8 then Qy8 r.1 n.2.2.2.2.1 m else []))++dnM r.1 (Ze5 n.2.2.2.2.1 f))
theorem Zev {t:Tie} {f:Qni} {m:Qk7} (h:FOk f) (was:Int):FOk (Qwf t f m was):=by
 obtain ⟨kd,fr,to,mi,me,ag,pa,lo,hi,tx⟩:=m
 rw [Qwf]
 split
 ·exact h
 ·split
  ·exact Quc (Zfw h _) _
  ·split
   ·exact Quc h _
   ·split
    ·exact (Zfa h _).1
    ·split
     ·exact (Zff h _ _).1
     ·exact h
theorem Zgo (t:Tie) (f:Qni) (m:Qk7) (was:Int):Ext f (Qwf t f m was):=by
 obtain ⟨kd,fr,to,mi,me,ag,pa,lo,hi,tx⟩:=m
 rw [Qwf]
 split
 ·exact Ext.refl f
 ·split
  ·exact (Zmr f _).trans (Qzs _ _)
  ·split
   ·exact Qzs f _
   ·split
    ·exact Zmc f _
    ·split
     ·exact Zn0 f _ _
     ·exact Ext.refl f
theorem Znx {N:Int} {n:Zbs} (h:NOk N n) {m:Qk7} (hm:MSm m) (hN:N+1≤562949953421312):NOk (N+1) (Zd5 n m).1:=by
 obtain ⟨h1,h2,h3,h4,h5,h6,h7⟩:=h
 have hi:=Zf1 n.2.2.2.1 m (max n.2.2.2.2.1.1 1)
 refine ⟨h1,h2,Zbk h3 hm _ hN,Zev h4 _,hi.2.2 h5,fun e=>?_,h7⟩
 have e0:n.2.2.2.1.1=1:=hi.1.symm.trans e
 have e1:(Qsz n.2.2.2.1 m (max n.2.2.2.2.1.1 1)).1.2.2.2.1=0:=(hi.2.2 h5 e).1
 have hfr:=hm.fr
 show (Qwf _ _ _ _).2.2.2.1=[]
 obtain ⟨kd,fr,to,mi,me,ag,pa,lo,hi,tx⟩:=m
 dsimp only [Qk7.kd,Qk7.fr,Qk7.to,Qk7.inc,Qk7.ep,Qk7.ag,Qk7.pa,Qk7.lo,Qk7.hi,Qk7.tx] at hfr
 rw [Qwf,if_pos (fun x=>by omega)]
 exact h6 e0
end Go.PE
