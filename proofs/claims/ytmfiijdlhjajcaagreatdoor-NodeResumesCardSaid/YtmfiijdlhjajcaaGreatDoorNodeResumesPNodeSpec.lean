/-
  Plain lemmas on the functions.
  Conditions: none.
-/
import Derived.Test.YtmfiijdlhjajcaaGreatDoorNodeResumesPProgTie2
set_option linter.unusedVariables false
set_option linter.unusedSimpArgs false
namespace Go.PE
def Zru (e:Evt):Prop:=e.1=1∨e.1=2
def Ext (f g:Qnq):Prop:=∃ ev:List Evt,g.2.2.2.2.1=f.2.2.2.2.1++ev∧∀ e∈ev,Zru e
theorem Ext.refl (f:Qnq):Ext f f:=⟨[],by simp,fun e h=>by cases h⟩
theorem Ext.of {f g:Qnq} (h:g.2.2.2.2.1=f.2.2.2.2.1):Ext f g:=⟨[],by simp [h],fun e h=>by cases h⟩
theorem Ext.trans {f g h:Qnq}:Ext f g→Ext g h→Ext f h
 | ⟨a,a1,a2⟩,⟨b,b1,b2⟩=>⟨a++b,by rw [b1,a1,List.append_assoc],fun e he=>(List.mem_append.1 he).elim (a2 e) (b2 e)⟩
theorem Zjz (t:Int):∀ (w:List Qnf) (nx:Int) (r:List Qnf) (l:List Evt) (a b:Int),∃ ev:List Evt,(Qw6 t nx r w l a b).2.2.2.2.1=l++ev∧∀ e∈ev,Zru e
 | [],nx,r,l,a,b=>⟨[],by simp [Qw6],fun e h=>by cases h⟩
 | x::q,nx,r,l,a,b=>by
  unfold Qw6
  split
  ·obtain ⟨ev,h1,h2⟩:=Zjz t q (nx+1) (Z9r r x) (l++[Z6a x]) 0 0
   refine ⟨Z6a x::ev,by rw [h1,List.append_assoc];rfl,fun e he=>?_⟩
   rcases List.mem_cons.1 he with rfl | he
   ·exact .inl rfl
   ·exact h2 e he
  ·exact ⟨[],by simp,fun e h=>by cases h⟩
theorem Zg6 (f:Qnq):Ext f (Qwl f):=Zjz _ _ _ _ _ _ _
theorem Zo0 (hi why:Int) (f:Qnq):Ext f (Qot hi why f):=by
 have key:∀ to:Int,Ext f (if f.1≤to then (to+1,f.2.1,f.2.2.1,f.2.2.2.1,f.2.2.2.2.1++[Zdy f.1 to why],0,0) else (f.1,f.2.1,f.2.2.1,f.2.2.2.1,f.2.2.2.2.1,0,0)):=by
  intro to
  split
  ·exact ⟨[Zdy f.1 to why],rfl,fun e he=>by rcases List.mem_singleton.1 he with rfl;exact .inr rfl⟩
  ·exact Ext.of rfl
 have key2:∀ g:Qnq,Ext f g→Ext f (if g.1≤hi then Qwl g else g):=by
  intro g h
  split
  ·exact h.trans (Zg6 g)
  ·exact h
 exact key2 _ (key _)
theorem Zhs (hi why:Int):∀ (n:Nat) (f:Qnq),Ext f (Qtg hi why n f)
 | 0,f=>Ext.refl f
 | n+1,f=>by
  unfold Qtg
  split
  ·exact (Zo0 hi why f).trans (Zhs hi why n _)
  ·exact Ext.refl f
theorem Znl (f:Qnq) (hi why:Int):Ext f (Qvy f hi why):=by
 unfold Qvy
 split
 ·exact Ext.refl f
 ·exact Zhs _ _ _ _
theorem Z06 (f:Qnq) (top:Int):Ext f (Qkm f top):=Ext.of (by rw [(Qxv f top).2])
theorem Zne (f:Qnq) (n:Int):Ext f (Qws f n):=by
 unfold Qws
 split
 ·exact Z06 f _
 ·split
  ·exact Ext.of rfl
  ·exact Ext.refl f
theorem Zmp (f:Qnq) (i:Qnf):Ext f (Z5t f i):=by
 unfold Z5t
 split
 ·exact Ext.refl f
 ·simp only
  have h1:=Z06 f i.1
  exact h1.trans ((Ext.of (g:=((Qkm f i.1).1,(Qkm f i.1).2.1,(Qkm f i.1).2.2.1,Znu (Qkm f i.1).2.2.2.1 (Qkm f i.1).1 i,(Qkm f i.1).2.2.2.2)) rfl).trans (Zg6 _))
theorem Zmq (f:Qnq) (lo hi:Int):Ext f (Z5w f lo hi):=by
 unfold Z5w
 split
 ·exact Ext.refl f
 ·simp only
  split
  ·exact Z06 f hi
  ·exact (Z06 f hi).trans ((Znl _ _ _).trans (Zg6 _))
def Zi1 (f g:Qnq):List Evt:=g.2.2.2.2.1.drop f.2.2.2.2.1.length
theorem Ext.new {f g:Qnq} (h:Ext f g):g.2.2.2.2.1=f.2.2.2.2.1++Zi1 f g∧∀ e∈Zi1 f g,Zru e:=by
 obtain ⟨ev,h1,h2⟩:=h
 have:Zi1 f g=ev:=by unfold Zi1;rw [h1,List.drop_left]
 rw [this];exact ⟨h1,h2⟩
theorem Zou (f:Qnq):Zi1 f f=[]:=by unfold Zi1;rw [List.drop_length]
theorem Zr3 {f g:Qnq} (h:g.2.2.2.2.1=f.2.2.2.2.1):Zi1 f g=[]:=by unfold Zi1;rw [h,List.drop_length]
def Zql (t:Tie) (e:Evt) (k:Kid):Qk7:=if e.1=1 then (7,t.1,k.1,t.2.1,0,0,[],e.2.1,0,e.2.2.2.1) else (9,t.1,k.1,t.2.1,0,0,[],e.2.1,e.2.2.1,ebA)
def dnK (t:Tie) (e:Evt) (ks:List Kid):List Qk7:=ks.map (Zql t e)
def dnM (t:Tie):List Evt→List Qk7
 | []=>[]
 | e::r=>dnK t e t.2.2.2.2.2.2.2.2.2.2.2.2++dnM t r
def Qxc (t:Tie) (f:Qnq):Qk7→Int→Qnq
 | (kd,fr,to,mi,me,ag,pa,lo,hi,tx),was=>
  if ¬ (fr=t.2.2.2.1∧mi=t.2.2.2.2.1) then f
  else if kd=2∧was≠fr then Qkm (Qws f lo) (lo - 1)
  else if kd=5∧was=fr then Qkm f hi
  else if kd=7 then Z5t f (lo,tx)
  else if kd=9 then Z5w f lo hi
  else f
def itM (t:Tie) (to:Int) (i:Qnf):Qk7:=(7,t.1,to,t.2.1,0,0,[],i.1,0,i.2)
def ntM (t:Tie) (to:Int) (s:Int × Int):Qk7:=(9,t.1,to,t.2.1,0,0,[],s.1,s.2,ebA)
def Z78 (t:Tie) (f:Qnq) (m:Qk7):List Qk7:=
 match Quj t.2.2.2.2.2.2.2.2.2.2.2.2 m.fr with
 | some k=>if k.2.1=m.inc then (Qxj f m.lo m.hi).1.map (itM t m.fr)++(Qxj f m.lo m.hi).2.map (ntM t m.fr) else []
 | none=>[]
def Zhf (n:Zio) (m:Qk7):Zio × List Qk7:=
 let r:=Qx6 n.2.2.2.1 m (max n.2.2.2.2.1.1 1)
 let f:=Qxc r.1 n.2.2.2.2.1 m n.2.2.2.1.2.2.2.1
 ((n.1,n.2.1,n.2.2.1,r.1,f,n.2.2.2.2.2),(r.2++(if m.kd=8 then Z78 r.1 n.2.2.2.2.1 m else []))++dnM r.1 (Zi1 n.2.2.2.2.1 f))
theorem Zkp {t:Tie} {f:Qnq} {m:Qk7} (h:FOk f) (was:Int):FOk (Qxc t f m was):=by
 obtain ⟨kd,fr,to,mi,me,ag,pa,lo,hi,tx⟩:=m
 rw [Qxc]
 split
 ·exact h
 ·split
  ·exact Quf (Zf1 h _) _
  ·split
   ·exact Quf h _
   ·split
    ·exact (Zgl h _).1
    ·split
     ·exact (Zf7 h _ _).1
     ·exact h
theorem Zmt (t:Tie) (f:Qnq) (m:Qk7) (was:Int):Ext f (Qxc t f m was):=by
 obtain ⟨kd,fr,to,mi,me,ag,pa,lo,hi,tx⟩:=m
 rw [Qxc]
 split
 ·exact Ext.refl f
 ·split
  ·exact (Zne f _).trans (Z06 _ _)
  ·split
   ·exact Z06 f _
   ·split
    ·exact Zmp f _
    ·split
     ·exact Zmq f _ _
     ·exact Ext.refl f
theorem Zo4 {N:Int} {n:Zio} (h:NOk N n) {m:Qk7} (hm:MSm m) (hN:N+1≤562949953421312):NOk (N+1) (Zhf n m).1:=by
 obtain ⟨h1,h2,h3,h4,h5,h6,h7⟩:=h
 have hi:=Zjn n.2.2.2.1 m (max n.2.2.2.2.1.1 1)
 refine ⟨h1,h2,Zf8 h3 hm _ hN,Zkp h4 _,hi.2.2 h5,fun e=>?_,h7⟩
 have e0:n.2.2.2.1.1=1:=hi.1.symm.trans e
 have e1:(Qx6 n.2.2.2.1 m (max n.2.2.2.2.1.1 1)).1.2.2.2.1=0:=(hi.2.2 h5 e).1
 have hfr:=hm.fr
 show (Qxc _ _ _ _).2.2.2.1=[]
 obtain ⟨kd,fr,to,mi,me,ag,pa,lo,hi,tx⟩:=m
 dsimp only [Qk7.kd,Qk7.fr,Qk7.to,Qk7.inc,Qk7.ep,Qk7.ag,Qk7.pa,Qk7.lo,Qk7.hi,Qk7.tx] at hfr
 rw [Qxc,if_pos (fun x=>by omega)]
 exact h6 e0
end Go.PE
