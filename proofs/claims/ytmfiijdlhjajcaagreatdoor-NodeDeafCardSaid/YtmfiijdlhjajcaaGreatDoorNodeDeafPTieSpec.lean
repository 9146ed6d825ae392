/-
  Plain lemmas on the functions.
  Conditions: none.
-/
import Derived.Test.YtmfiijdlhjajcaaGreatDoorNodeDeafPFeedRef2
set_option linter.unusedVariables false
set_option linter.unusedSimpArgs false
namespace Go.PE
abbrev Tie:=Int × Int × Int × Int × Int × Int × List Int × Int × Int × Int × Int × Int × List Kid
abbrev Zlj:=Bool × Int × ByteArray × Tie × Quh × Int
theorem Zul (m:Qk7):m.1=m.kd:=rfl
theorem Zut (m:Qk7):m.2.1=m.fr:=rfl
theorem Zuk (m:Qk7):m.2.2.1=m.to:=rfl
theorem Zu8 (m:Qk7):m.2.2.2.1=m.inc:=rfl
theorem Zun (m:Qk7):m.2.2.2.2.1=m.ep:=rfl
theorem Zuu (m:Qk7):m.2.2.2.2.2.1=m.ag:=rfl
theorem Zuo (m:Qk7):m.2.2.2.2.2.2.1=m.pa:=rfl
theorem Zui (m:Qk7):m.2.2.2.2.2.2.2.1=m.lo:=rfl
theorem Zur (m:Qk7):m.2.2.2.2.2.2.2.2.1=m.hi:=rfl
theorem Zuq (m:Qk7):m.2.2.2.2.2.2.2.2.2=m.tx:=rfl
def Zsr (t:Tie) (kind to:Int):Qk7:=(kind,t.1,to,t.2.1,0,0,[],0,0,ebA)
def Zqg (t:Tie) (kind to:Int):Qk7:=(kind,t.1,to,t.2.1,t.2.2.2.2.2.2.2.1,t.2.2.1 - t.2.2.2.2.2.2.2.2.1,t.2.2.2.2.2.2.1,0,0,ebA)
def Zrd (id inc now grand:Int):Tie:=if id=1 then (id,inc,now,0,0,grand,[1],0,now,0,0,0,[]) else (id,inc,now,0,0,grand,[],0,0,0,0,0,[])
def Zrj:Tie→Int→Tie | (id,inc,now,par,pinc,grand,path,ep,born,asked,til,step,kids),s=>(id,inc,now,0,0,grand,[],ep,born,0,til,s,kids)
def Z2g:Tie→Bool | (id,inc,now,par,pinc,grand,path,ep,born,asked,til,step,kids)=>decide (id=1∨par≠0∧now - born≤20)
def Zq3:Tie→Tie × List Qk7
 | (id,inc,now,par,pinc,grand,path,ep,born,asked,til,step,kids)=>
  if par≠0 then ((id,inc,now,par,pinc,grand,path,ep,born,asked,til,step,kids),[]) else
  if asked≠0∧¬ til≤now then ((id,inc,now,par,pinc,grand,path,ep,born,asked,til,step,kids),[]) else
  let step1:=if asked=0 then step else step+1
  let a:=if step1=0∧grand≠0∧grand≠id then grand else 1
  ((id,inc,now,par,pinc,grand,path,ep,born,a,now+3,step1,kids),[(1,id,a,inc,0,0,[],0,0,ebA)])
def Zqs (t:Tie):List Qk7:=
 if t.2.2.1 % 2=0 then (if t.2.2.2.1≠0 then [Zsr t 4 t.2.2.2.1] else [])++(if Z2g t=true then t.2.2.2.2.2.2.2.2.2.2.2.2.map fun k=>Zqg t 5 k.1 else []) else []
def Ze3:Tie→Tie
 | (id,inc,now,par,pinc,grand,path,ep,born,asked,til,step,kids)=>
  if id=1 then
   if (now+1) % 2=0 then (id,inc,now+1,par,pinc,grand,path,ep+1,now+1,asked,til,step,Z3k kids (now+1))
   else (id,inc,now+1,par,pinc,grand,path,ep,born,asked,til,step,Z3k kids (now+1))
  else if par≠0∧¬ now+1 - born≤20 then (id,inc,now+1,0,0,grand,[],ep,born,0,til,0,Z3k kids (now+1))
  else (id,inc,now+1,par,pinc,grand,path,ep,born,asked,til,step,Z3k kids (now+1))
def Z9j (t:Tie):Tie × List Qk7:=if t.1=1 then (Ze3 t,[]) else Zq3 (Ze3 t)
def Zn4 (t:Tie):Tie × List Qk7:=((Z9j t).1,(Z9j t).2++Zqs (Z9j t).1)
def Zfn (p:List Int):Int:=if p.length<2 then 1 else if List.getD p (p.length - 2) 0=0 then 1 else List.getD p (p.length - 2) 0
def Z61:Tie→Qk7→Tie × List Qk7
 | (id,inc,now,par,pinc,grand,path,ep,born,asked,til,step,kids),(kd,fr,to,mi,me,ag,pa,l,hi,tx)=>
  if par≠0∧fr=par then ((id,inc,now,par,pinc,grand,path,ep,born,asked,til,step,kids),[]) else
  if asked=0∨asked≠fr∨par≠0 then ((id,inc,now,par,pinc,grand,path,ep,born,asked,til,step,kids),[(6,id,fr,inc,0,0,[],0,0,ebA)]) else
  if (Qq8 pa id).2=false∨20<ag then ((id,inc,now,par,pinc,grand,path,ep,born,0,til,step+1,kids),[(6,id,fr,inc,0,0,[],0,0,ebA)]) else
  ((id,inc,now,fr,mi,Zfn pa,(Qq8 pa id).1,me,now - ag,0,til,0,kids),[])
def Zrt (id:Int):Int:=if id=1 then 8 else 3
def Zi4:Tie→Qk7→Int→Tie × List Qk7
 | (id,inc,now,par,pinc,grand,path,ep,born,asked,til,step,kids),(kd,fr,to,mi,me,ag,pa,l,hi,tx),lo=>
  if kd=1 then
   if Z2g (id,inc,now,par,pinc,grand,path,ep,born,asked,til,step,kids)=false∨fr∈path∨(Zdj kids fr=none∧Zrt id≤(kids.length:Int)) then ((id,inc,now,par,pinc,grand,path,ep,born,asked,til,step,kids),[(3,id,fr,inc,0,0,[],0,0,ebA)])
   else ((id,inc,now,par,pinc,grand,path,ep,born,asked,til,step,Zdy kids (fr,mi,now)),[(2,id,fr,inc,ep,now - born,path,lo,0,ebA)])
  else if kd=2 then Z61 (id,inc,now,par,pinc,grand,path,ep,born,asked,til,step,kids) (kd,fr,to,mi,me,ag,pa,l,hi,tx)
  else if kd=3 then
   if par≠0∧fr=par then (Zrj (id,inc,now,par,pinc,grand,path,ep,born,asked,til,step,kids) 0,[])
   else if asked≠0∧asked=fr then ((id,inc,now,par,pinc,grand,path,ep,born,0,til,step+1,kids),[])
   else ((id,inc,now,par,pinc,grand,path,ep,born,asked,til,step,kids),[])
  else if kd=4 then
   if Zdj kids fr=none then ((id,inc,now,par,pinc,grand,path,ep,born,asked,til,step,kids),[(3,id,fr,inc,0,0,[],0,0,ebA)])
   else ((id,inc,now,par,pinc,grand,path,ep,born,asked,til,step,Zdy kids (fr,mi,now)),[])
  else if kd=5 then
   if ¬ (par≠0∧fr=par) then ((id,inc,now,par,pinc,grand,path,ep,born,asked,til,step,kids),[(6,id,fr,inc,0,0,[],0,0,ebA)])
   else if (Qq8 pa id).2=false then (Zrj (id,inc,now,par,pinc,grand,path,ep,born,asked,til,step,kids) 1,[(6,id,fr,inc,0,0,[],0,0,ebA)])
   else if born<now - ag then ((id,inc,now,par,pinc,Zfn pa,(Qq8 pa id).1,me,now - ag,asked,til,step,kids),[])
   else ((id,inc,now,par,pinc,Zfn pa,(Qq8 pa id).1,ep,born,asked,til,step,kids),[])
  else if kd=6 then ((id,inc,now,par,pinc,grand,path,ep,born,asked,til,step,Qz5 kid fr kids),[])
  else ((id,inc,now,par,pinc,grand,path,ep,born,asked,til,step,kids),[])
def Zby:Tie→Qk7→Int→Tie × List Qk7
 | (id,inc,now,par,pinc,grand,path,ep,born,asked,til,step,kids),(kd,fr,to,mi,me,ag,pa,l,hi,tx),lo=>
  if Zso kids fr mi=true∨fr=par∧mi<pinc then ((id,inc,now,par,pinc,grand,path,ep,born,asked,til,step,kids),[])
  else if fr=par∧pinc<mi then Zi4 (Zrj (id,inc,now,par,pinc,grand,path,ep,born,asked,til,step,kids) 0) (kd,fr,to,mi,me,ag,pa,l,hi,tx) lo
  else Zi4 (id,inc,now,par,pinc,grand,path,ep,born,asked,til,step,kids) (kd,fr,to,mi,me,ag,pa,l,hi,tx) lo
def Ztu (t:Tie):List Qk7:=(if t.2.2.2.1≠0 then [Zsr t 6 t.2.2.2.1] else [])++t.2.2.2.2.2.2.2.2.2.2.2.2.map fun k=>Zsr t 3 k.1
structure TOk (N:Int) (t:Tie):Prop where
 id:1≤t.1∧t.1≤8
 inc:1≤t.2.1∧t.2.1≤1073741824
 now:0≤t.2.2.1∧t.2.2.1≤N
 par:0≤t.2.2.2.1∧t.2.2.2.1≤8
 pinc:0≤t.2.2.2.2.1∧t.2.2.2.2.1≤1073741824
 grand:0≤t.2.2.2.2.2.1∧t.2.2.2.2.2.1≤8
 path:t.2.2.2.2.2.2.1.length≤10
 ep:0≤t.2.2.2.2.2.2.2.1∧t.2.2.2.2.2.2.2.1≤1073741824+N
 born:-1073741824≤t.2.2.2.2.2.2.2.2.1∧t.2.2.2.2.2.2.2.2.1≤N
 asked:0≤t.2.2.2.2.2.2.2.2.2.1∧t.2.2.2.2.2.2.2.2.2.1≤8
 til:0≤t.2.2.2.2.2.2.2.2.2.2.1∧t.2.2.2.2.2.2.2.2.2.2.1≤N+3
 step:0≤t.2.2.2.2.2.2.2.2.2.2.2.1∧t.2.2.2.2.2.2.2.2.2.2.2.1≤N
 kids:KOk t.2.2.2.2.2.2.2.2.2.2.2.2
 big:N≤562949953421312
 one:t.2.2.2.1≠0→t.2.2.2.2.2.2.2.2.2.1=0
theorem TOk.mono {N M:Int} {t:Tie} (h:TOk N t) (h1:N≤M) (h2:M≤562949953421312):TOk M t:=by
 obtain ⟨a1,a2,a3,a4,a5,a6,a7,a8,a9,a10,a11,a12,a13,a14,a15⟩:=h
 exact ⟨a1,a2,by omega,a4,a5,a6,a7,by omega,by omega,a10,by omega,by omega,a13,h2,a15⟩
theorem Qtc {p:List Int} {x:Int} (h:(Qq8 p x).2=true):Qpn (p++[x])=true∧(Qq8 p x).1=p++[x]:=by
 unfold Qq8 at h ⊢
 split at h
 ·rename_i h1;rw [if_pos h1];exact ⟨h1,rfl⟩
 ·cases h
theorem Zjq {p:List Int} {x:Int} (h:Qpn (p++[x])=true):1≤Zfn p∧Zfn p≤8:=by
 have hm:=(Qop h).2
 unfold Zfn
 split
 ·omega
 ·rename_i h2
  have h3:p.length - 2<p.length:=by omega
  have:=hm _ (List.mem_append_left _ (List.getElem_mem h3))
  rw [Qms h3]
  split<;>omega
structure MSm (m:Qk7):Prop where
 fr:1≤m.fr∧m.fr≤8
 inc:0≤m.inc∧m.inc≤1073741824
 ep:0≤m.ep∧m.ep≤1073741824
 ag:0≤m.ag∧m.ag≤1073741824
 pa:m.pa.length≤10
 lo:0≤m.lo∧m.lo≤1000000
 hi:0≤m.hi∧m.hi≤1000000
 tx:m.tx.size≤12
theorem Zku {N:Int} {t:Tie} (h:TOk N t) {s:Int} (hs:0≤s∧s≤N):TOk N (Zrj t s):=by
 obtain ⟨id,inc,now,par,pinc,grand,path,ep,born,asked,til,step,kids⟩:=t
 obtain ⟨a1,a2,a3,a4,a5,a6,a7,a8,a9,a10,a11,a12,a13,a14,a15⟩:=h
 rw [Zrj]
 exact ⟨a1,a2,a3,by simp,by simp,a6,by simp,a8,a9,by simp,a11,hs,a13,a14,fun _=>rfl⟩
theorem Zor {N:Int} {t:Tie} (h:TOk N t) (h1:N+1≤562949953421312):TOk (N+1) (Ze3 t):=by
 obtain ⟨id,inc,now,par,pinc,grand,path,ep,born,asked,til,step,kids⟩:=t
 obtain ⟨a1,a2,a3,a4,a5,a6,a7,a8,a9,a10,a11,a12,a13,a14,a15⟩:=h
 simp only at a1 a2 a3 a4 a5 a6 a7 a8 a9 a10 a11 a12 a13 a15
 rw [Ze3]
 split
 ·split
  ·exact ⟨a1,a2,by simp only;omega,a4,a5,a6,a7,by simp only;omega,by simp only;omega,a10,by simp only;omega,by simp only;omega,a13.filter _,h1,a15⟩
  ·exact ⟨a1,a2,by simp only;omega,a4,a5,a6,a7,by simp only;omega,by simp only;omega,a10,by simp only;omega,by simp only;omega,a13.filter _,h1,a15⟩
 ·split
  ·exact ⟨a1,a2,by simp only;omega,by simp,by simp,a6,by simp,by simp only;omega,by simp only;omega,by simp,by simp only;omega,by simp only;omega,a13.filter _,h1,fun _=>rfl⟩
  ·exact ⟨a1,a2,by simp only;omega,a4,a5,a6,a7,by simp only;omega,by simp only;omega,a10,by simp only;omega,by simp only;omega,a13.filter _,h1,a15⟩
theorem Zs4 {N:Int} {t:Tie} (h:TOk N t) (hs:t.2.2.2.2.2.2.2.2.2.2.2.1+1≤N):TOk N (Zq3 t).1:=by
 obtain ⟨id,inc,now,par,pinc,grand,path,ep,born,asked,til,step,kids⟩:=t
 have h':=h
 obtain ⟨a1,a2,a3,a4,a5,a6,a7,a8,a9,a10,a11,a12,a13,a14,a15⟩:=h
 simp only at a1 a2 a3 a4 a5 a6 a7 a8 a9 a10 a11 a12 a13 hs
 rw [Zq3]
 split
 ·exact h'
 ·split
  ·exact h'
  ·simp only
   exact ⟨a1,a2,a3,a4,a5,a6,a7,a8,a9,by simp only;split<;>omega,by simp only;omega,by simp only;split<;>omega,a13,a14,fun e=>absurd e (by simp only;omega)⟩
theorem Zl7 {N:Int} {t:Tie} (h:TOk N t) (h1:N+1≤562949953421312):TOk (N+1) (Z9j t).1:=by
 have h0:=Zor h h1
 unfold Z9j
 split
 ·exact h0
 ·refine Zs4 h0 ?_
  obtain ⟨id,inc,now,par,pinc,grand,path,ep,born,asked,til,step,kids⟩:=t
  have:=h.step
  have:=h.now
  rw [Ze3]
  simp only at *
  split
  ·split<;>simp only<;>omega
  ·split<;>simp only<;>omega
theorem Zre {N:Int} {t:Tie} (h:TOk N t) (h1:N+1≤562949953421312):TOk (N+1) (Zn4 t).1:=Zl7 h h1
theorem Zos {N:Int} {t:Tie} {m:Qk7} (h:TOk N t) (hm:MSm m) (lo:Int) (h1:N+1≤562949953421312):TOk (N+1) (Zi4 t m lo).1:=by
 have h':=h.mono (show N≤N+1 by omega) h1
 have h0:=h
 obtain ⟨id,inc,now,par,pinc,grand,path,ep,born,asked,til,step,kids⟩:=t
 obtain ⟨a1,a2,a3,a4,a5,a6,a7,a8,a9,a10,a11,a12,a13,a14,a15⟩:=h
 simp only at a1 a2 a3 a4 a5 a6 a7 a8 a9 a10 a11 a12 a13 a15
 obtain ⟨kd,fr,to,mi,me,ag,pa,l,hi,tx⟩:=m
 obtain ⟨m1,m2,m3,m4,m5,m6,m7,m8⟩:=hm
 dsimp only [Qk7.kd,Qk7.fr,Qk7.to,Qk7.inc,Qk7.ep,Qk7.ag,Qk7.pa,Qk7.lo,Qk7.hi,Qk7.tx] at m1 m2 m3 m4 m5 m6 m7 m8
 have hear:KOk (Zdy kids (fr,mi,now)):=a13.hear (by simp only;omega)
 have up:∀ {s:Int} {q:List Kid} {az:Int},0≤s∧s≤N+1→KOk q→(az=asked∨az=0)→TOk (N+1) (id,inc,now,par,pinc,grand,path,ep,born,az,til,s,q):=fun hs hq has=>⟨a1,a2,by simp only;omega,a4,a5,a6,a7,by simp only;omega,by simp only;omega,by simp only;omega,by simp only;omega,hs,hq,h1,fun e=>has.elim (fun x=>x.trans (a15 e)) (fun x=>x)⟩
 rw [Zi4]
 split
 ·split
  ·exact h'
  ·exact up (by omega) hear (.inl rfl)
 ·split
  ·rw [Z61]
   split
   ·exact h'
   ·split
    ·exact h'
    ·split
     ·exact up (by omega) a13 (.inr rfl)
     ·rename_i hb
      have hp:(Qq8 pa id).2=true:=by cases hc:(Qq8 pa id).2<;>simp [hc] at hb ⊢
      have hg:=Zjq (Qtc hp).1
      have hl:=(Qop (Qtc hp).1).1
      exact ⟨a1,a2,by simp only;omega,by simp only;omega,by simp only;omega,by simp only;omega,by simp only [(Qtc hp).2];exact hl,by simp only;omega,by simp only;omega,by simp,by simp only;omega,by simp only;omega,a13,h1,fun _=>rfl⟩
  ·split
   ·split
    ·exact (Zku h0 (by omega)).mono (by omega) h1
    ·split
     ·exact up (by omega) a13 (.inr rfl)
     ·exact h'
   ·split
    ·split
     ·exact h'
     ·exact up (by omega) hear (.inl rfl)
    ·split
     ·split
      ·exact h'
      ·split
       ·exact Zku h' (by omega)
       ·rename_i hb
        have hp:(Qq8 pa id).2=true:=by cases hc:(Qq8 pa id).2<;>simp [hc] at hb ⊢
        have hg:=Zjq (Qtc hp).1
        have hl:=(Qop (Qtc hp).1).1
        split
        ·exact ⟨a1,a2,by simp only;omega,a4,a5,by simp only;omega,by simp only [(Qtc hp).2];exact hl,by simp only;omega,by simp only;omega,a10,by simp only;omega,by simp only;omega,a13,h1,a15⟩
        ·exact ⟨a1,a2,by simp only;omega,a4,a5,by simp only;omega,by simp only [(Qtc hp).2];exact hl,by simp only;omega,by simp only;omega,a10,by simp only;omega,by simp only;omega,a13,h1,a15⟩
     ·split
      ·exact up (by omega) (a13.filter _) (.inl rfl)
      ·exact h'
theorem Zq4 {N:Int} {t:Tie} {m:Qk7} (h:TOk N t) (hm:MSm m) (lo:Int) (h1:N+1≤562949953421312):TOk (N+1) (Zby t m lo).1:=by
 obtain ⟨id,inc,now,par,pinc,grand,path,ep,born,asked,til,step,kids⟩:=t
 obtain ⟨kd,fr,to,mi,me,ag,pa,l,hi,tx⟩:=m
 rw [Zby]
 split
 ·exact h.mono (by omega) h1
 ·split
  ·exact Zos (Zku h (by have:=h.now;omega)) hm lo h1
  ·exact Zos h hm lo h1
end Go.PE
