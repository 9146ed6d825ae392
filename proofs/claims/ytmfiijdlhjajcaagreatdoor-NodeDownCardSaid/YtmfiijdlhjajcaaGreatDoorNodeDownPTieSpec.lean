/-
  Plain lemmas on the functions.
  Conditions: none.
-/
import Derived.Test.YtmfiijdlhjajcaaGreatDoorNodeDownPFeedRef2
set_option linter.unusedVariables false
set_option linter.unusedSimpArgs false
namespace Go.PE
abbrev Tie:=Int × Int × Int × Int × Int × Int × List Int × Int × Int × Int × Int × Int × List Kid
abbrev Zbs:=Bool × Int × ByteArray × Tie × Qni × Int
theorem Zrg (m:Qk7):m.1=m.kd:=rfl
theorem Zra (m:Qk7):m.2.1=m.fr:=rfl
theorem Zrc (m:Qk7):m.2.2.1=m.to:=rfl
theorem Zpj (m:Qk7):m.2.2.2.1=m.inc:=rfl
theorem Zrb (m:Qk7):m.2.2.2.2.1=m.ep:=rfl
theorem Zr9 (m:Qk7):m.2.2.2.2.2.1=m.ag:=rfl
theorem Zrd (m:Qk7):m.2.2.2.2.2.2.1=m.pa:=rfl
theorem Zre (m:Qk7):m.2.2.2.2.2.2.2.1=m.lo:=rfl
theorem Zr6 (m:Qk7):m.2.2.2.2.2.2.2.2.1=m.hi:=rfl
theorem Zr7 (m:Qk7):m.2.2.2.2.2.2.2.2.2=m.tx:=rfl
def Zr8 (t:Tie) (kind to:Int):Qk7:=(kind,t.1,to,t.2.1,0,0,[],0,0,ebA)
def Zo8 (t:Tie) (kind to:Int):Qk7:=(kind,t.1,to,t.2.1,t.2.2.2.2.2.2.2.1,t.2.2.1 - t.2.2.2.2.2.2.2.2.1,t.2.2.2.2.2.2.1,0,0,ebA)
def Zo6 (id inc now grand:Int):Tie:=if id=1 then (id,inc,now,0,0,grand,[1],0,now,0,0,0,[]) else (id,inc,now,0,0,grand,[],0,0,0,0,0,[])
def Zn9:Tie→Int→Tie | (id,inc,now,par,pinc,grand,path,ep,born,asked,til,step,kids),s=>(id,inc,now,0,0,grand,[],ep,born,0,til,s,kids)
def Que:Tie→Bool | (id,inc,now,par,pinc,grand,path,ep,born,asked,til,step,kids)=>decide (id=1∨par≠0∧now - born≤20)
def Zlc:Tie→Tie × List Qk7
 | (id,inc,now,par,pinc,grand,path,ep,born,asked,til,step,kids)=>
  if par≠0 then ((id,inc,now,par,pinc,grand,path,ep,born,asked,til,step,kids),[]) else
  if asked≠0∧¬ til≤now then ((id,inc,now,par,pinc,grand,path,ep,born,asked,til,step,kids),[]) else
  let step1:=if asked=0 then step else step+1
  let a:=if step1=0∧grand≠0∧grand≠id then grand else 1
  ((id,inc,now,par,pinc,grand,path,ep,born,a,now+3,step1,kids),[(1,id,a,inc,0,0,[],0,0,ebA)])
def Znv (t:Tie):List Qk7:=
 if t.2.2.1 % 2=0 then (if t.2.2.2.1≠0 then [Zr8 t 4 t.2.2.2.1] else [])++(if Que t=true then t.2.2.2.2.2.2.2.2.2.2.2.2.map fun k=>Zo8 t 5 k.1 else []) else []
def Z9a:Tie→Tie
 | (id,inc,now,par,pinc,grand,path,ep,born,asked,til,step,kids)=>
  if id=1 then
   if (now+1) % 2=0 then (id,inc,now+1,par,pinc,grand,path,ep+1,now+1,asked,til,step,Z10 kids (now+1))
   else (id,inc,now+1,par,pinc,grand,path,ep,born,asked,til,step,Z10 kids (now+1))
  else if par≠0∧¬ now+1 - born≤20 then (id,inc,now+1,0,0,grand,[],ep,born,0,til,0,Z10 kids (now+1))
  else (id,inc,now+1,par,pinc,grand,path,ep,born,asked,til,step,Z10 kids (now+1))
def Z5v (t:Tie):Tie × List Qk7:=if t.1=1 then (Z9a t,[]) else Zlc (Z9a t)
def Zid (t:Tie):Tie × List Qk7:=((Z5v t).1,(Z5v t).2++Znv (Z5v t).1)
def Z90 (p:List Int):Int:=if p.length<2 then 1 else if List.getD p (p.length - 2) 0=0 then 1 else List.getD p (p.length - 2) 0
def Qv0:Tie→Qk7→Tie × List Qk7
 | (id,inc,now,par,pinc,grand,path,ep,born,asked,til,step,kids),(kd,fr,to,mi,me,ag,pa,l,hi,tx)=>
  if par≠0∧fr=par then ((id,inc,now,par,pinc,grand,path,ep,born,asked,til,step,kids),[]) else
  if asked=0∨asked≠fr∨par≠0 then ((id,inc,now,par,pinc,grand,path,ep,born,asked,til,step,kids),[(6,id,fr,inc,0,0,[],0,0,ebA)]) else
  if (Qm9 pa id).2=false∨20<ag then ((id,inc,now,par,pinc,grand,path,ep,born,0,til,step+1,kids),[(6,id,fr,inc,0,0,[],0,0,ebA)]) else
  ((id,inc,now,fr,mi,Z90 pa,(Qm9 pa id).1,me,now - ag,0,til,0,kids),[])
def Zhv (id:Int):Int:=if id=1 then 8 else 3
def Z4a:Tie→Qk7→Int→Tie × List Qk7
 | (id,inc,now,par,pinc,grand,path,ep,born,asked,til,step,kids),(kd,fr,to,mi,me,ag,pa,l,hi,tx),lo=>
  if kd=1 then
   if Que (id,inc,now,par,pinc,grand,path,ep,born,asked,til,step,kids)=false∨fr∈path∨(Qug kids fr=none∧Zhv id≤(kids.length:Int)) then ((id,inc,now,par,pinc,grand,path,ep,born,asked,til,step,kids),[(3,id,fr,inc,0,0,[],0,0,ebA)])
   else ((id,inc,now,par,pinc,grand,path,ep,born,asked,til,step,Z35 kids (fr,mi,now)),[(2,id,fr,inc,ep,now - born,path,lo,0,ebA)])
  else if kd=2 then Qv0 (id,inc,now,par,pinc,grand,path,ep,born,asked,til,step,kids) (kd,fr,to,mi,me,ag,pa,l,hi,tx)
  else if kd=3 then
   if par≠0∧fr=par then (Zn9 (id,inc,now,par,pinc,grand,path,ep,born,asked,til,step,kids) 0,[])
   else if asked≠0∧asked=fr then ((id,inc,now,par,pinc,grand,path,ep,born,0,til,step+1,kids),[])
   else ((id,inc,now,par,pinc,grand,path,ep,born,asked,til,step,kids),[])
  else if kd=4 then
   if Qug kids fr=none then ((id,inc,now,par,pinc,grand,path,ep,born,asked,til,step,kids),[(3,id,fr,inc,0,0,[],0,0,ebA)])
   else ((id,inc,now,par,pinc,grand,path,ep,born,asked,til,step,Z35 kids (fr,mi,now)),[])
  else if kd=5 then
   if ¬ (par≠0∧fr=par) then ((id,inc,now,par,pinc,grand,path,ep,born,asked,til,step,kids),[(6,id,fr,inc,0,0,[],0,0,ebA)])
   else if (Qm9 pa id).2=false then (Zn9 (id,inc,now,par,pinc,grand,path,ep,born,asked,til,step,kids) 1,[(6,id,fr,inc,0,0,[],0,0,ebA)])
   else if born<now - ag then ((id,inc,now,par,pinc,Z90 pa,(Qm9 pa id).1,me,now - ag,asked,til,step,kids),[])
   else ((id,inc,now,par,pinc,Z90 pa,(Qm9 pa id).1,ep,born,asked,til,step,kids),[])
  else if kd=6 then ((id,inc,now,par,pinc,grand,path,ep,born,asked,til,step,Qxk kid fr kids),[])
  else ((id,inc,now,par,pinc,grand,path,ep,born,asked,til,step,kids),[])
def Qsz:Tie→Qk7→Int→Tie × List Qk7
 | (id,inc,now,par,pinc,grand,path,ep,born,asked,til,step,kids),(kd,fr,to,mi,me,ag,pa,l,hi,tx),lo=>
  if Zor kids fr mi=true∨fr=par∧mi<pinc then ((id,inc,now,par,pinc,grand,path,ep,born,asked,til,step,kids),[])
  else if fr=par∧pinc<mi then Z4a (Zn9 (id,inc,now,par,pinc,grand,path,ep,born,asked,til,step,kids) 0) (kd,fr,to,mi,me,ag,pa,l,hi,tx) lo
  else Z4a (id,inc,now,par,pinc,grand,path,ep,born,asked,til,step,kids) (kd,fr,to,mi,me,ag,pa,l,hi,tx) lo
structure TOk (N:Int) (t:Tie):Prop where
 id:1≤t.1∧t.1≤8
 inc:1≤t.2.1∧t.2.1≤1073741824
 now:0≤t.2.2.1∧t.2.2.1≤N
 par:0≤t.2.2.2.1∧t.2.2.2.1≤8
 pinc:0≤t.2.2.2.2.1∧t.2.2.2.2.1≤1073741824
 grand:0≤t.2.2.2.2.2.1∧t.2.2.2.2.2.1≤8
 path:t.2.2.2.2.2.2.1.length≤10
 ep:0≤t.2.2.2.2.2.2.2.1∧t.2.2.2.2.2.2.2.1≤1073741824+N
 born:-1073741824≤t.2.2.2.2.2.2.2.2.1∧t.2.2.2.2.2.2.2.2.1≤N
 asked:0≤t.2.2.2.2.2.2.2.2.2.1∧t.2.2.2.2.2.2.2.2.2.1≤8
 til:0≤t.2.2.2.2.2.2.2.2.2.2.1∧t.2.2.2.2.2.2.2.2.2.2.1≤N+3
 step:0≤t.2.2.2.2.2.2.2.2.2.2.2.1∧t.2.2.2.2.2.2.2.2.2.2.2.1≤N
 kids:KOk t.2.2.2.2.2.2.2.2.2.2.2.2
 big:N≤562949953421312
 one:t.2.2.2.1≠0→t.2.2.2.2.2.2.2.2.2.1=0
theorem TOk.mono {N M:Int} {t:Tie} (h:TOk N t) (h1:N≤M) (h2:M≤562949953421312):TOk M t:=by
 obtain ⟨a1,a2,a3,a4,a5,a6,a7,a8,a9,a10,a11,a12,a13,a14,a15⟩:=h
 exact ⟨a1,a2,by omega,a4,a5,a6,a7,by omega,by omega,a10,by omega,by omega,a13,h2,a15⟩
theorem Qsq {p:List Int} {x:Int} (h:(Qm9 p x).2=true):Qos (p++[x])=true∧(Qm9 p x).1=p++[x]:=by
 unfold Qm9 at h ⊢
 split at h
 ·rename_i h1;rw [if_pos h1];exact ⟨h1,rfl⟩
 ·cases h
theorem Zh0 {p:List Int} {x:Int} (h:Qos (p++[x])=true):1≤Z90 p∧Z90 p≤8:=by
 have hm:=(Qof h).2
 unfold Z90
 split
 ·omega
 ·rename_i h2
  have h3:p.length - 2<p.length:=by omega
  have:=hm _ (List.mem_append_left _ (List.getElem_mem h3))
  rw [Qkl h3]
  split<;>omega
structure MSm (m:Qk7):Prop where
 fr:1≤m.fr∧m.fr≤8
 inc:0≤m.inc∧m.inc≤1073741824
 ep:0≤m.ep∧m.ep≤1073741824
 ag:0≤m.ag∧m.ag≤1073741824
 pa:m.pa.length≤10
 lo:0≤m.lo∧m.lo≤1000000
 hi:0≤m.hi∧m.hi≤1000000
 tx:m.tx.size≤12
theorem Zf7 {N:Int} {t:Tie} (h:TOk N t) {s:Int} (hs:0≤s∧s≤N):TOk N (Zn9 t s):=by
 obtain ⟨id,inc,now,par,pinc,grand,path,ep,born,asked,til,step,kids⟩:=t
 obtain ⟨a1,a2,a3,a4,a5,a6,a7,a8,a9,a10,a11,a12,a13,a14,a15⟩:=h
 rw [Zn9]
 exact ⟨a1,a2,a3,by simp,by simp,a6,by simp,a8,a9,by simp,a11,hs,a13,a14,fun _=>rfl⟩
theorem Zlk {N:Int} {t:Tie} (h:TOk N t) (h1:N+1≤562949953421312):TOk (N+1) (Z9a t):=by
 obtain ⟨id,inc,now,par,pinc,grand,path,ep,born,asked,til,step,kids⟩:=t
 obtain ⟨a1,a2,a3,a4,a5,a6,a7,a8,a9,a10,a11,a12,a13,a14,a15⟩:=h
 simp only at a1 a2 a3 a4 a5 a6 a7 a8 a9 a10 a11 a12 a13 a15
 rw [Z9a]
 split
 ·split
  ·exact ⟨a1,a2,by simp only;omega,a4,a5,a6,a7,by simp only;omega,by simp only;omega,a10,by simp only;omega,by simp only;omega,a13.filter _,h1,a15⟩
  ·exact ⟨a1,a2,by simp only;omega,a4,a5,a6,a7,by simp only;omega,by simp only;omega,a10,by simp only;omega,by simp only;omega,a13.filter _,h1,a15⟩
 ·split
  ·exact ⟨a1,a2,by simp only;omega,by simp,by simp,a6,by simp,by simp only;omega,by simp only;omega,by simp,by simp only;omega,by simp only;omega,a13.filter _,h1,fun _=>rfl⟩
  ·exact ⟨a1,a2,by simp only;omega,a4,a5,a6,a7,by simp only;omega,by simp only;omega,a10,by simp only;omega,by simp only;omega,a13.filter _,h1,a15⟩
theorem Zqg {N:Int} {t:Tie} (h:TOk N t) (hs:t.2.2.2.2.2.2.2.2.2.2.2.1+1≤N):TOk N (Zlc t).1:=by
 obtain ⟨id,inc,now,par,pinc,grand,path,ep,born,asked,til,step,kids⟩:=t
 have h':=h
 obtain ⟨a1,a2,a3,a4,a5,a6,a7,a8,a9,a10,a11,a12,a13,a14,a15⟩:=h
 simp only at a1 a2 a3 a4 a5 a6 a7 a8 a9 a10 a11 a12 a13 hs
 rw [Zlc]
 split
 ·exact h'
 ·split
  ·exact h'
  ·simp only
   exact ⟨a1,a2,a3,a4,a5,a6,a7,a8,a9,by simp only;split<;>omega,by simp only;omega,by simp only;split<;>omega,a13,a14,fun e=>absurd e (by simp only;omega)⟩
theorem Zi7 {N:Int} {t:Tie} (h:TOk N t) (h1:N+1≤562949953421312):TOk (N+1) (Z5v t).1:=by
 have h0:=Zlk h h1
 unfold Z5v
 split
 ·exact h0
 ·refine Zqg h0 ?_
  obtain ⟨id,inc,now,par,pinc,grand,path,ep,born,asked,til,step,kids⟩:=t
  have:=h.step
  have:=h.now
  rw [Z9a]
  simp only at *
  split
  ·split<;>simp only<;>omega
  ·split<;>simp only<;>omega
theorem Zp5 {N:Int} {t:Tie} (h:TOk N t) (h1:N+1≤562949953421312):TOk (N+1) (Zid t).1:=Zi7 h h1
theorem Zli {N:Int} {t:Tie} {m:Qk7} (h:TOk N t) (hm:MSm m) (lo:Int) (h1:N+1≤562949953421312):TOk (N+1) (Z4a t m lo).1:=by
 have h':=h.mono (show N≤N+1 by omega) h1
 have h0:=h
 obtain ⟨id,inc,now,par,pinc,grand,path,ep,born,asked,til,step,kids⟩:=t
 obtain ⟨a1,a2,a3,a4,a5,a6,a7,a8,a9,a10,a11,a12,a13,a14,a15⟩:=h
 simp only at a1 a2 a3 a4 a5 a6 a7 a8 a9 a10 a11 a12 a13 a15
 obtain ⟨kd,fr,to,mi,me,ag,pa,l,hi,tx⟩:=m
 obtain ⟨m1,m2,m3,m4,m5,m6,m7,m8⟩:=hm
 dsimp only [Qk7.kd,Qk7.fr,Qk7.to,Qk7.inc,Qk7.ep,Qk7.ag,Qk7.pa,Qk7.lo,Qk7.hi,Qk7.tx] at m1 m2 m3 m4 m5 m6 m7 m8
 have hear:KOk (Z35 kids (fr,mi,now)):=a13.hear (by simp only;omega)
 have up:∀ {s:Int} {q:List Kid} {az:Int},0≤s∧s≤N+1→KOk q→(az=asked∨az=0)→TOk (N+1) (id,inc,now,par,pinc,grand,path,ep,born,az,til,s,q):=fun hs hq has=>⟨a1,a2,by simp only;omega,a4,a5,a6,a7,by simp only;omega,by simp only;omega,by simp only;omega,by simp only;omega,hs,hq,h1,fun e=>has.elim (fun x=>x.trans (a15 e)) (fun x=>x)⟩
 rw [Z4a]
 split
 ·split
  ·exact h'
  ·exact up (by omega) hear (.inl rfl)
 ·split
  ·rw [Qv0]
   split
   ·exact h'
   ·split
    ·exact h'
    ·split
     ·exact up (by omega) a13 (.inr rfl)
     ·rename_i hb
      have hp:(Qm9 pa id).2=true:=by cases hc:(Qm9 pa id).2<;>simp [hc] at hb ⊢
      have hg:=Zh0 (Qsq hp).1
      have hl:=(Qof (Qsq hp).1).1
      exact ⟨a1,a2,by simp only;omega,by simp only;omega,by simp only;omega,by simp only;omega,by simp only [(Qsq hp).2];exact hl,by simp only;omega,by simp only;omega,by simp,by simp only;omega,by simp only;omega,a13,h1,fun _=>rfl⟩
  ·split
   ·split
    ·exact (Zf7 h0 (by omega)).mono (by omega) h1
    ·split
     ·exact up (by omega) a13 (.inr rfl)
     ·exact h'
   ·split
    ·split
     ·exact h'
     ·exact up (by omega) hear (.inl rfl)
    ·split
     ·split
      ·exact h'
      ·split
       ·exact Zf7 h' (by omega)
       ·rename_i hb
        have hp:(Qm9 pa id).2=true:=by cases hc:(Qm9 pa id).2<;>simp [hc] at hb ⊢
        have hg:=Zh0 (Qsq hp).1
        have hl:=(Qof (Qsq hp).1).1
        split
        ·exact ⟨a1,a2,by simp only;omega,a4,a5,by simp only;omega,by simp only [(Qsq hp).2];exact hl,by simp only;omega,by simp only;omega,a10,by simp only;omega,by simp only;omega,a13,h1,a15⟩
        ·exact ⟨a1,a2,by simp only;omega,a4,a5,by simp only;omega,by simp only [(Qsq hp).2];exact hl,by simp only;omega,by simp only;omega,a10,by simp only;omega,by simp only;omega,a13,h1,a15⟩
     ·split
      ·exact up (by omega) (a13.filter _) (.inl rfl)
      ·exact h'
theorem Zbk {N:Int} {t:Tie} {m:Qk7} (h:TOk N t) (hm:MSm m) (lo:Int) (h1:N+1≤562949953421312):TOk (N+1) (Qsz t m lo).1:=by
 obtain ⟨id,inc,now,par,pinc,grand,path,ep,born,asked,til,step,kids⟩:=t
 obtain ⟨kd,fr,to,mi,me,ag,pa,l,hi,tx⟩:=m
 rw [Qsz]
 split
 ·exact h.mono (by omega) h1
 ·split
  ·exact Zli (Zf7 h (by have:=h.now;omega)) hm lo h1
  ·exact Zli h hm lo h1
end Go.PE
