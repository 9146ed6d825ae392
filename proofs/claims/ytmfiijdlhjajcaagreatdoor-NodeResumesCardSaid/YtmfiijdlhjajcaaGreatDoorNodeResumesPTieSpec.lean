/-
  Plain lemmas on the functions.
  Conditions: none.
-/
import Derived.Test.YtmfiijdlhjajcaaGreatDoorNodeResumesPFeedRef2
set_option linter.unusedVariables false
set_option linter.unusedSimpArgs false
namespace Go.PE
abbrev Tie:=Int × Int × Int × Int × Int × Int × List Int × Int × Int × Int × Int × Int × List Kid
abbrev Zio:=Bool × Int × ByteArray × Tie × Qnq × Int
def Zrn (t:Tie) (kind to:Int):Qk7:=(kind,t.1,to,t.2.1,0,0,[],0,0,ebA)
def Zox (t:Tie) (kind to:Int):Qk7:=(kind,t.1,to,t.2.1,t.2.2.2.2.2.2.2.1,t.2.2.1 - t.2.2.2.2.2.2.2.2.1,t.2.2.2.2.2.2.1,0,0,ebA)
def Zpa (id inc now grand:Int):Tie:=if id=1 then (id,inc,now,0,0,grand,[1],0,now,0,0,0,[]) else (id,inc,now,0,0,grand,[],0,0,0,0,0,[])
def Zp0:Tie→Int→Tie | (id,inc,now,par,pinc,grand,path,ep,born,asked,til,step,kids),s=>(id,inc,now,0,0,grand,[],ep,born,0,til,s,kids)
def Qug:Tie→Bool | (id,inc,now,par,pinc,grand,path,ep,born,asked,til,step,kids)=>decide (id=1∨par≠0∧now - born≤20)
def Znr:Tie→Tie × List Qk7
 | (id,inc,now,par,pinc,grand,path,ep,born,asked,til,step,kids)=>
  if par≠0 then ((id,inc,now,par,pinc,grand,path,ep,born,asked,til,step,kids),[]) else
  if asked≠0∧¬ til≤now then ((id,inc,now,par,pinc,grand,path,ep,born,asked,til,step,kids),[]) else
  let step1:=if asked=0 then step else step+1
  let a:=if step1=0∧grand≠0∧grand≠id then grand else 1
  ((id,inc,now,par,pinc,grand,path,ep,born,a,now+3,step1,kids),[(1,id,a,inc,0,0,[],0,0,ebA)])
def Znz (t:Tie):List Qk7:=
 if t.2.2.1 % 2=0 then (if t.2.2.2.1≠0 then [Zrn t 4 t.2.2.2.1] else [])++(if Qug t=true then t.2.2.2.2.2.2.2.2.2.2.2.2.map fun k=>Zox t 5 k.1 else []) else []
def Zcj:Tie→Tie
 | (id,inc,now,par,pinc,grand,path,ep,born,asked,til,step,kids)=>
  if id=1 then
   if (now+1) % 2=0 then (id,inc,now+1,par,pinc,grand,path,ep+1,now+1,asked,til,step,Z24 kids (now+1))
   else (id,inc,now+1,par,pinc,grand,path,ep,born,asked,til,step,Z24 kids (now+1))
  else if par≠0∧¬ now+1 - born≤20 then (id,inc,now+1,0,0,grand,[],ep,born,0,til,0,Z24 kids (now+1))
  else (id,inc,now+1,par,pinc,grand,path,ep,born,asked,til,step,Z24 kids (now+1))
def Z9a (t:Tie):Tie × List Qk7:=if t.1=1 then (Zcj t,[]) else Znr (Zcj t)
def Zkj (t:Tie):Tie × List Qk7:=((Z9a t).1,(Z9a t).2++Znz (Z9a t).1)
def Z9u (p:List Int):Int:=if p.length<2 then 1 else if List.getD p (p.length - 2) 0=0 then 1 else List.getD p (p.length - 2) 0
def Qxm:Tie→Qk7→Tie × List Qk7
 | (id,inc,now,par,pinc,grand,path,ep,born,asked,til,step,kids),(kd,fr,to,mi,me,ag,pa,l,hi,tx)=>
  if par≠0∧fr=par then ((id,inc,now,par,pinc,grand,path,ep,born,asked,til,step,kids),[]) else
  if asked=0∨asked≠fr∨par≠0 then ((id,inc,now,par,pinc,grand,path,ep,born,asked,til,step,kids),[(6,id,fr,inc,0,0,[],0,0,ebA)]) else
  if (Qld pa id).2=false∨20<ag then ((id,inc,now,par,pinc,grand,path,ep,born,0,til,step+1,kids),[(6,id,fr,inc,0,0,[],0,0,ebA)]) else
  ((id,inc,now,fr,mi,Z9u pa,(Qld pa id).1,me,now - ag,0,til,0,kids),[])
def Zi7 (id:Int):Int:=if id=1 then 8 else 3
def Z71:Tie→Qk7→Int→Tie × List Qk7
 | (id,inc,now,par,pinc,grand,path,ep,born,asked,til,step,kids),(kd,fr,to,mi,me,ag,pa,l,hi,tx),lo=>
  if kd=1 then
   if Qug (id,inc,now,par,pinc,grand,path,ep,born,asked,til,step,kids)=false∨fr∈path∨(Quj kids fr=none∧Zi7 id≤(kids.length:Int)) then ((id,inc,now,par,pinc,grand,path,ep,born,asked,til,step,kids),[(3,id,fr,inc,0,0,[],0,0,ebA)])
   else ((id,inc,now,par,pinc,grand,path,ep,born,asked,til,step,Z6b kids (fr,mi,now)),[(2,id,fr,inc,ep,now - born,path,lo,0,ebA)])
  else if kd=2 then Qxm (id,inc,now,par,pinc,grand,path,ep,born,asked,til,step,kids) (kd,fr,to,mi,me,ag,pa,l,hi,tx)
  else if kd=3 then
   if par≠0∧fr=par then (Zp0 (id,inc,now,par,pinc,grand,path,ep,born,asked,til,step,kids) 0,[])
   else if asked≠0∧asked=fr then ((id,inc,now,par,pinc,grand,path,ep,born,0,til,step+1,kids),[])
   else ((id,inc,now,par,pinc,grand,path,ep,born,asked,til,step,kids),[])
  else if kd=4 then
   if Quj kids fr=none then ((id,inc,now,par,pinc,grand,path,ep,born,asked,til,step,kids),[(3,id,fr,inc,0,0,[],0,0,ebA)])
   else ((id,inc,now,par,pinc,grand,path,ep,born,asked,til,step,Z6b kids (fr,mi,now)),[])
  else if kd=5 then
   if ¬ (par≠0∧fr=par) then ((id,inc,now,par,pinc,grand,path,ep,born,asked,til,step,kids),[(6,id,fr,inc,0,0,[],0,0,ebA)])
   else if (Qld pa id).2=false then (Zp0 (id,inc,now,par,pinc,grand,path,ep,born,asked,til,step,kids) 1,[(6,id,fr,inc,0,0,[],0,0,ebA)])
   else if born<now - ag then ((id,inc,now,par,pinc,Z9u pa,(Qld pa id).1,me,now - ag,asked,til,step,kids),[])
   else ((id,inc,now,par,pinc,Z9u pa,(Qld pa id).1,ep,born,asked,til,step,kids),[])
  else if kd=6 then ((id,inc,now,par,pinc,grand,path,ep,born,asked,til,step,Qyh kid fr kids),[])
  else ((id,inc,now,par,pinc,grand,path,ep,born,asked,til,step,kids),[])
def Qx6:Tie→Qk7→Int→Tie × List Qk7
 | (id,inc,now,par,pinc,grand,path,ep,born,asked,til,step,kids),(kd,fr,to,mi,me,ag,pa,l,hi,tx),lo=>
  if Zns kids fr mi=true∨fr=par∧mi<pinc then ((id,inc,now,par,pinc,grand,path,ep,born,asked,til,step,kids),[])
  else if fr=par∧pinc<mi then Z71 (Zp0 (id,inc,now,par,pinc,grand,path,ep,born,asked,til,step,kids) 0) (kd,fr,to,mi,me,ag,pa,l,hi,tx) lo
  else Z71 (id,inc,now,par,pinc,grand,path,ep,born,asked,til,step,kids) (kd,fr,to,mi,me,ag,pa,l,hi,tx) lo
structure TOk (N:Int) (t:Tie):Prop where
 id:1≤t.1∧t.1≤8
 inc:1≤t.2.1∧t.2.1≤1073741824
 now:0≤t.2.2.1∧t.2.2.1≤N
 par:0≤t.2.2.2.1∧t.2.2.2.1≤8
 pinc:0≤t.2.2.2.2.1∧t.2.2.2.2.1≤1073741824
 grand:0≤t.2.2.2.2.2.1∧t.2.2.2.2.2.1≤8
 path:t.2.2.2.2.2.2.1.length≤10
 ep:0≤t.2.2.2.2.2.2.2.1∧t.2.2.2.2.2.2.2.1≤1073741824+N
 born:-1073741824≤t.2.2.2.2.2.2.2.2.1∧t.2.2.2.2.2.2.2.2.1≤N
 asked:0≤t.2.2.2.2.2.2.2.2.2.1∧t.2.2.2.2.2.2.2.2.2.1≤8
 til:0≤t.2.2.2.2.2.2.2.2.2.2.1∧t.2.2.2.2.2.2.2.2.2.2.1≤N+3
 step:0≤t.2.2.2.2.2.2.2.2.2.2.2.1∧t.2.2.2.2.2.2.2.2.2.2.2.1≤N
 kids:KOk t.2.2.2.2.2.2.2.2.2.2.2.2
 big:N≤562949953421312
 one:t.2.2.2.1≠0→t.2.2.2.2.2.2.2.2.2.1=0
theorem TOk.mono {N M:Int} {t:Tie} (h:TOk N t) (h1:N≤M) (h2:M≤562949953421312):TOk M t:=by
 obtain ⟨a1,a2,a3,a4,a5,a6,a7,a8,a9,a10,a11,a12,a13,a14,a15⟩:=h
 exact ⟨a1,a2,by omega,a4,a5,a6,a7,by omega,by omega,a10,by omega,by omega,a13,h2,a15⟩
theorem Qt2 {p:List Int} {x:Int} (h:(Qld p x).2=true):Qnc (p++[x])=true∧(Qld p x).1=p++[x]:=by
 unfold Qld at h ⊢
 split at h
 ·rename_i h1;rw [if_pos h1];exact ⟨h1,rfl⟩
 ·cases h
theorem Zhd {p:List Int} {x:Int} (h:Qnc (p++[x])=true):1≤Z9u p∧Z9u p≤8:=by
 have hm:=(Qom h).2
 unfold Z9u
 split
 ·omega
 ·rename_i h2
  have h3:p.length - 2<p.length:=by omega
  have:=hm _ (List.mem_append_left _ (List.getElem_mem h3))
  rw [Qkw h3]
  split<;>omega
structure MSm (m:Qk7):Prop where
 fr:1≤m.fr∧m.fr≤8
 inc:0≤m.inc∧m.inc≤1073741824
 ep:0≤m.ep∧m.ep≤1073741824
 ag:0≤m.ag∧m.ag≤1073741824
 pa:m.pa.length≤10
 lo:0≤m.lo∧m.lo≤1000000
 hi:0≤m.hi∧m.hi≤1000000
 tx:m.tx.size≤12
theorem Zg8 {N:Int} {t:Tie} (h:TOk N t) {s:Int} (hs:0≤s∧s≤N):TOk N (Zp0 t s):=by
 obtain ⟨id,inc,now,par,pinc,grand,path,ep,born,asked,til,step,kids⟩:=t
 obtain ⟨a1,a2,a3,a4,a5,a6,a7,a8,a9,a10,a11,a12,a13,a14,a15⟩:=h
 rw [Zp0]
 exact ⟨a1,a2,a3,by simp,by simp,a6,by simp,a8,a9,by simp,a11,hs,a13,a14,fun _=>rfl⟩
theorem Zmg {N:Int} {t:Tie} (h:TOk N t) (h1:N+1≤562949953421312):TOk (N+1) (Zcj t):=by
 obtain ⟨id,inc,now,par,pinc,grand,path,ep,born,asked,til,step,kids⟩:=t
 obtain ⟨a1,a2,a3,a4,a5,a6,a7,a8,a9,a10,a11,a12,a13,a14,a15⟩:=h
 simp only at a1 a2 a3 a4 a5 a6 a7 a8 a9 a10 a11 a12 a13 a15
 rw [Zcj]
 split
 ·split
  ·exact ⟨a1,a2,by simp only;omega,a4,a5,a6,a7,by simp only;omega,by simp only;omega,a10,by simp only;omega,by simp only;omega,a13.filter _,h1,a15⟩
  ·exact ⟨a1,a2,by simp only;omega,a4,a5,a6,a7,by simp only;omega,by simp only;omega,a10,by simp only;omega,by simp only;omega,a13.filter _,h1,a15⟩
 ·split
  ·exact ⟨a1,a2,by simp only;omega,by simp,by simp,a6,by simp,by simp only;omega,by simp only;omega,by simp,by simp only;omega,by simp only;omega,a13.filter _,h1,fun _=>rfl⟩
  ·exact ⟨a1,a2,by simp only;omega,a4,a5,a6,a7,by simp only;omega,by simp only;omega,a10,by simp only;omega,by simp only;omega,a13.filter _,h1,a15⟩
theorem Zqk {N:Int} {t:Tie} (h:TOk N t) (hs:t.2.2.2.2.2.2.2.2.2.2.2.1+1≤N):TOk N (Znr t).1:=by
 obtain ⟨id,inc,now,par,pinc,grand,path,ep,born,asked,til,step,kids⟩:=t
 have h':=h
 obtain ⟨a1,a2,a3,a4,a5,a6,a7,a8,a9,a10,a11,a12,a13,a14,a15⟩:=h
 simp only at a1 a2 a3 a4 a5 a6 a7 a8 a9 a10 a11 a12 a13 hs
 rw [Znr]
 split
 ·exact h'
 ·split
  ·exact h'
  ·simp only
   exact ⟨a1,a2,a3,a4,a5,a6,a7,a8,a9,by simp only;split<;>omega,by simp only;omega,by simp only;split<;>omega,a13,a14,fun e=>absurd e (by simp only;omega)⟩
theorem Zig {N:Int} {t:Tie} (h:TOk N t) (h1:N+1≤562949953421312):TOk (N+1) (Z9a t).1:=by
 have h0:=Zmg h h1
 unfold Z9a
 split
 ·exact h0
 ·refine Zqk h0 ?_
  obtain ⟨id,inc,now,par,pinc,grand,path,ep,born,asked,til,step,kids⟩:=t
  have:=h.step
  have:=h.now
  rw [Zcj]
  simp only at *
  split
  ·split<;>simp only<;>omega
  ·split<;>simp only<;>omega
theorem Zpe {N:Int} {t:Tie} (h:TOk N t) (h1:N+1≤562949953421312):TOk (N+1) (Zkj t).1:=Zig h h1
theorem Zm6 {N:Int} {t:Tie} {m:Qk7} (h:TOk N t) (hm:MSm m) (lo:Int) (h1:N+1≤562949953421312):TOk (N+1) (Z71 t m lo).1:=by
 have h':=h.mono (show N≤N+1 by omega) h1
 have h0:=h
 obtain ⟨id,inc,now,par,pinc,grand,path,ep,born,asked,til,step,kids⟩:=t
 obtain ⟨a1,a2,a3,a4,a5,a6,a7,a8,a9,a10,a11,a12,a13,a14,a15⟩:=h
 simp only at a1 a2 a3 a4 a5 a6 a7 a8 a9 a10 a11 a12 a13 a15
 obtain ⟨kd,fr,to,mi,me,ag,pa,l,hi,tx⟩:=m
 obtain ⟨m1,m2,m3,m4,m5,m6,m7,m8⟩:=hm
 dsimp only [Qk7.kd,Qk7.fr,Qk7.to,Qk7.inc,Qk7.ep,Qk7.ag,Qk7.pa,Qk7.lo,Qk7.hi,Qk7.tx] at m1 m2 m3 m4 m5 m6 m7 m8
 have hear:KOk (Z6b kids (fr,mi,now)):=a13.hear (by simp only;omega)
 have up:∀ {s:Int} {q:List Kid} {az:Int},0≤s∧s≤N+1→KOk q→(az=asked∨az=0)→TOk (N+1) (id,inc,now,par,pinc,grand,path,ep,born,az,til,s,q):=fun hs hq has=>⟨a1,a2,by simp only;omega,a4,a5,a6,a7,by simp only;omega,by simp only;omega,by simp only;omega,by simp only;omega,hs,hq,h1,fun e=>has.elim (fun x=>x.trans (a15 e)) (fun x=>x)⟩
 rw [Z71]
 split
 ·split
  ·exact h'
  ·exact up (by omega) hear (.inl rfl)
 ·split
  ·rw [Qxm]
   split
   ·exact h'
   ·split
    ·exact h'
    ·split
     ·exact up (by omega) a13 (.inr rfl)
     ·rename_i hb
      have hp:(Qld pa id).2=true:=by cases hc:(Qld pa id).2<;>simp [hc] at hb ⊢
      have hg:=Zhd (Qt2 hp).1
      have hl:=(Qom (Qt2 hp).1).1
      exact ⟨a1,a2,by simp only;omega,by simp only;omega,by simp only;omega,by simp only;omega,by simp only [(Qt2 hp).2];exact hl,by simp only;omega,by simp only;omega,by simp,by simp only;omega,by simp only;omega,a13,h1,fun _=>rfl⟩
  ·split
   ·split
    ·exact (Zg8 h0 (by omega)).mono (by omega) h1
    ·split
     ·exact up (by omega) a13 (.inr rfl)
     ·exact h'
   ·split
    ·split
     ·exact h'
     ·exact up (by omega) hear (.inl rfl)
    ·split
     ·split
      ·exact h'
      ·split
       ·exact Zg8 h' (by omega)
       ·rename_i hb
        have hp:(Qld pa id).2=true:=by cases hc:(Qld pa id).2<;>simp [hc] at hb ⊢
        have hg:=Zhd (Qt2 hp).1
        have hl:=(Qom (Qt2 hp).1).1
        split
        ·exact ⟨a1,a2,by simp only;omega,a4,a5,by simp only;omega,by simp only [(Qt2 hp).2];exact hl,by simp only;omega,by simp only;omega,a10,by simp only;omega,by simp only;omega,a13,h1,a15⟩
        ·exact ⟨a1,a2,by simp only;omega,a4,a5,by simp only;omega,by simp only [(Qt2 hp).2];exact hl,by simp only;omega,by simp only;omega,a10,by simp only;omega,by simp only;omega,a13,h1,a15⟩
     ·split
      ·exact up (by omega) (a13.filter _) (.inl rfl)
      ·exact h'
theorem Zf8 {N:Int} {t:Tie} {m:Qk7} (h:TOk N t) (hm:MSm m) (lo:Int) (h1:N+1≤562949953421312):TOk (N+1) (Qx6 t m lo).1:=by
 obtain ⟨id,inc,now,par,pinc,grand,path,ep,born,asked,til,step,kids⟩:=t
 obtain ⟨kd,fr,to,mi,me,ag,pa,l,hi,tx⟩:=m
 rw [Qx6]
 split
 ·exact h.mono (by omega) h1
 ·split
  ·exact Zm6 (Zg8 h (by have:=h.now;omega)) hm lo h1
  ·exact Zm6 h hm lo h1
end Go.PE
