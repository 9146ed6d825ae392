/-
  Plain lemmas on the functions.
  Conditions: none.
-/
import Derived.Test.YtmfiijdlhjajcaaGreatDoorNodeServesPProgTie2
set_option linter.unusedVariables false
set_option linter.unusedSimpArgs false
namespace Go.PE
def Zt3 (e:Evt):Prop:=e.1=1∨e.1=2
def Ext (f g:Qo0):Prop:=∃ ev:List Evt,g.2.2.2.2.1=f.2.2.2.2.1++ev∧∀ e∈ev,Zt3 e
theorem Ext.refl (f:Qo0):Ext f f:=⟨[],by simp,fun e h=>by cases h⟩
theorem Ext.of {f g:Qo0} (h:g.2.2.2.2.1=f.2.2.2.2.1):Ext f g:=⟨[],by simp [h],fun e h=>by cases h⟩
theorem Ext.trans {f g h:Qo0}:Ext f g→Ext g h→Ext f h
 | ⟨a,a1,a2⟩,⟨b,b1,b2⟩=>⟨a++b,by rw [b1,a1,List.append_assoc],fun e he=>(List.mem_append.1 he).elim (a2 e) (b2 e)⟩
theorem Zkg (t:Int):∀ (w:List Qn4) (nx:Int) (r:List Qn4) (l:List Evt) (a b:Int),∃ ev:List Evt,(Qxe t nx r w l a b).2.2.2.2.1=l++ev∧∀ e∈ev,Zt3 e
 | [],nx,r,l,a,b=>⟨[],by simp [Qxe],fun e h=>by cases h⟩
 | x::q,nx,r,l,a,b=>by
  unfold Qxe
  split
  ·obtain ⟨ev,h1,h2⟩:=Zkg t q (nx+1) (Zak r x) (l++[Z77 x]) 0 0
   refine ⟨Z77 x::ev,by rw [h1,List.append_assoc];rfl,fun e he=>?_⟩
   rcases List.mem_cons.1 he with rfl | he
   ·exact .inl rfl
   ·exact h2 e he
  ·exact ⟨[],by simp,fun e h=>by cases h⟩
theorem Zhb (f:Qo0):Ext f (Qxl f):=Zkg _ _ _ _ _ _ _
theorem Zpf (hi why:Int) (f:Qo0):Ext f (Qp7 hi why f):=by
 have key:∀ to:Int,Ext f (if f.1≤to then (to+1,f.2.1,f.2.2.1,f.2.2.2.1,f.2.2.2.2.1++[Zf1 f.1 to why],0,0) else (f.1,f.2.1,f.2.2.1,f.2.2.2.1,f.2.2.2.2.1,0,0)):=by
  intro to
  split
  ·exact ⟨[Zf1 f.1 to why],rfl,fun e he=>by rcases List.mem_singleton.1 he with rfl;exact .inr rfl⟩
  ·exact Ext.of rfl
 have key2:∀ g:Qo0,Ext f g→Ext f (if g.1≤hi then Qxl g else g):=by
  intro g h
  split
  ·exact h.trans (Zhb g)
  ·exact h
 exact key2 _ (key _)
theorem Ziu (hi why:Int):∀ (n:Nat) (f:Qo0),Ext f (Qtv hi why n f)
 | 0,f=>Ext.refl f
 | n+1,f=>by
  unfold Qtv
  split
  ·exact (Zpf hi why f).trans (Ziu hi why n _)
  ·exact Ext.refl f
theorem Zoj (f:Qo0) (hi why:Int):Ext f (Qwu f hi why):=by
 unfold Qwu
 split
 ·exact Ext.refl f
 ·exact Ziu _ _ _ _
theorem Z18 (f:Qo0) (top:Int):Ext f (Ql8 f top):=Ext.of (by rw [(Z3c f top).2])
theorem Zno (f:Qo0) (n:Int):Ext f (Z6u f n):=by
 unfold Z6u
 split
 ·exact Z18 f _
 ·split
  ·exact Ext.of rfl
  ·exact Ext.refl f
theorem Znu (f:Qo0) (i:Qn4):Ext f (Z70 f i):=by
 unfold Z70
 split
 ·exact Ext.refl f
 ·simp only
  have h1:=Z18 f i.1
  exact h1.trans ((Ext.of (g:=((Ql8 f i.1).1,(Ql8 f i.1).2.1,(Ql8 f i.1).2.2.1,Zos (Ql8 f i.1).2.2.2.1 (Ql8 f i.1).1 i,(Ql8 f i.1).2.2.2.2)) rfl).trans (Zhb _))
theorem Zoe (f:Qo0) (lo hi:Int):Ext f (Z6y f lo hi):=by
 unfold Z6y
 split
 ·exact Ext.refl f
 ·simp only
  split
  ·exact Z18 f hi
  ·exact (Z18 f hi).trans ((Zoj _ _ _).trans (Zhb _))
def Zk2 (f g:Qo0):List Evt:=g.2.2.2.2.1.drop f.2.2.2.2.1.length
theorem Ext.new {f g:Qo0} (h:Ext f g):g.2.2.2.2.1=f.2.2.2.2.1++Zk2 f g∧∀ e∈Zk2 f g,Zt3 e:=by
 obtain ⟨ev,h1,h2⟩:=h
 have:Zk2 f g=ev:=by unfold Zk2;rw [h1,List.drop_left]
 rw [this];exact ⟨h1,h2⟩
theorem Zp9 (f:Qo0):Zk2 f f=[]:=by unfold Zk2;rw [List.drop_length]
def Zrp (t:Tie) (e:Evt) (k:Kid):Qk7:=if e.1=1 then (7,t.1,k.1,t.2.1,0,0,[],e.2.1,0,e.2.2.2.1) else (9,t.1,k.1,t.2.1,0,0,[],e.2.1,e.2.2.1,ebA)
def dnK (t:Tie) (e:Evt) (ks:List Kid):List Qk7:=ks.map (Zrp t e)
def dnM (t:Tie):List Evt→List Qk7
 | []=>[]
 | e::r=>dnK t e t.2.2.2.2.2.2.2.2.2.2.2.2++dnM t r
def Qxq (t:Tie) (f:Qo0):Qk7→Int→Qo0
 | (kd,fr,to,mi,me,ag,pa,lo,hi,tx),was=>
  if ¬ (fr=t.2.2.2.1∧mi=t.2.2.2.2.1) then f
  else if kd=2∧was≠fr then Ql8 (Z6u f lo) (lo - 1)
  else if kd=5∧was=fr then Ql8 f hi
  else if kd=7 then Z70 f (lo,tx)
  else if kd=9 then Z6y f lo hi
  else f
def itM (t:Tie) (to:Int) (i:Qn4):Qk7:=(7,t.1,to,t.2.1,0,0,[],i.1,0,i.2)
def ntM (t:Tie) (to:Int) (s:Int × Int):Qk7:=(9,t.1,to,t.2.1,0,0,[],s.1,s.2,ebA)
def Qt4 (t:Tie) (f:Qo0) (m:Qk7):List Qk7:=
 match Quk t.2.2.2.2.2.2.2.2.2.2.2.2 m.fr with
 | some k=>if k.2.1=m.inc then (Quv f m.lo m.hi).1.map (itM t m.fr)++(Quv f m.lo m.hi).2.map (ntM t m.fr) else []
 | none=>[]
def Zgc (n:Zih) (m:Qk7):Zih × List Qk7:=
 let r:=Qut n.2.2.2.1 m (max n.2.2.2.2.1.1 1)
 let f:=Qxq r.1 n.2.2.2.2.1 m n.2.2.2.1.2.2.2.1
 ((n.1,n.2.1,n.2.2.1,r.1,f,n.2.2.2.2.2),(r.2++(if m.kd=8 then Qt4 r.1 n.2.2.2.2.1 m else []))++dnM r.1 (Zk2 n.2.2.2.2.1 f))
theorem Zl7 {t:Tie} {f:Qo0} {m:Qk7} (h:FOk f) (was:Int):FOk (Qxq t f m was):=by
 obtain ⟨kd,fr,to,mi,me,ag,pa,lo,hi,tx⟩:=m
 rw [Qxq]
 split
 ·exact h
 ·split
  ·exact Qv8 (Zgd h _) _
  ·split
   ·exact Qv8 h _
   ·split
    ·exact (Zg1 h _).1
    ·split
     ·exact (Zgy h _ _).1
     ·exact h
theorem Zoi (t:Tie) (f:Qo0) (m:Qk7) (was:Int):Ext f (Qxq t f m was):=by
 obtain ⟨kd,fr,to,mi,me,ag,pa,lo,hi,tx⟩:=m
 rw [Qxq]
 split
 ·exact Ext.refl f
 ·split
  ·exact (Zno f _).trans (Z18 _ _)
  ·split
   ·exact Z18 f _
   ·split
    ·exact Znu f _
    ·split
     ·exact Zoe f _ _
     ·exact Ext.refl f
theorem Zq3 {N:Int} {n:Zih} (h:NOk N n) {m:Qk7} (hm:MSm m) (hN:N+1≤562949953421312):NOk (N+1) (Zgc n m).1:=by
 obtain ⟨h1,h2,h3,h4,h5,h6,h7⟩:=h
 have hi:=Zg0 n.2.2.2.1 m (max n.2.2.2.2.1.1 1)
 refine ⟨h1,h2,Zh7 h3 hm _ hN,Zl7 h4 _,hi.2.2 h5,fun e=>?_,h7⟩
 have e0:n.2.2.2.1.1=1:=hi.1.symm.trans e
 have e1:(Qut n.2.2.2.1 m (max n.2.2.2.2.1.1 1)).1.2.2.2.1=0:=(hi.2.2 h5 e).1
 have hfr:=hm.fr
 show (Qxq _ _ _ _).2.2.2.1=[]
 obtain ⟨kd,fr,to,mi,me,ag,pa,lo,hi,tx⟩:=m
 dsimp only [Qk7.kd,Qk7.fr,Qk7.to,Qk7.inc,Qk7.ep,Qk7.ag,Qk7.pa,Qk7.lo,Qk7.hi,Qk7.tx] at hfr
 rw [Qxq,if_pos (fun x=>by omega)]
 exact h6 e0
end Go.PE
