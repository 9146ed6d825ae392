/-
  Plain lemmas on the functions.
  Conditions: none.
-/
import Derived.Test.YtmfiijdlhjajcaaGreatDoorNodeResumesPProgNode3
set_option linter.unusedVariables false
set_option linter.unusedSimpArgs false
set_option maxRecDepth 20000
namespace Go.PE
theorem Zqn:Qxo=some ((true,()),()):=by kernel_rfl
theorem Zr5 {a id lo:Int} {p:List Int} (ha:1≤a∧a≤8) (hid:1≤id∧id≤8) (hn:a≠id) (hp:Qnc p=true) (hlo:0≤lo∧lo≤1000000):Zi5 (2,a,id,9,0,0,p,lo,0,(⟨#[]⟩:ByteArray))=true:=by
 refine Za3 (Qkg.2 (by simp)) (Qkg.2 ha) (Qkg.2 hid) hn (Qkg.2 (by simp)) ?_
 unfold Qux
 rw [if_pos rfl]
 simp only [Bool.and_eq_true]
 exact ⟨⟨Qkg.2 (by simp [Qk7.ep]),Qkg.2 (by simp [Qk7.ag])⟩,hp,Qkg.2 hlo,Zpi _⟩
theorem Zqo {a id:Int} (ha:2≤a∧a≤8) (hid:2≤id∧id≤8) (hn:a≠id):Qnc [1,a]=true∧(Qld [1,a] id).2=true:=by
 have h1:a=2∨a=3∨a=4∨a=5∨a=6∨a=7∨a=8:=by omega
 have h2:id=2∨id=3∨id=4∨id=5∨id=6∨id=7∨id=8:=by omega
 rcases h1 with rfl | rfl | rfl | rfl | rfl | rfl | rfl<;>rcases h2 with rfl | rfl | rfl | rfl | rfl | rfl | rfl<;>first | exact absurd rfl hn | decide
theorem Zpu {id:Int} (hid:2≤id∧id≤8):Qnc [1]=true∧(Qld [1] id).2=true:=by
 have h2:id=2∨id=3∨id=4∨id=5∨id=6∨id=7∨id=8:=by omega
 rcases h2 with rfl | rfl | rfl | rfl | rfl | rfl | rfl<;>decide
theorem Zjw {n:Zio} (h:NOk 120 n) (hf0:n.2.2.2.2.1.1=0→n.2.2.2.2.1.2.1=0) (hid:2≤n.2.2.2.1.1) (ha:n.2.2.2.1.2.2.2.2.2.2.2.2.2.1≠0) (hne:n.2.2.2.1.2.2.2.2.2.2.2.2.2.1≠n.2.2.2.1.1) {p:List Int} (hp:Qnc p=true) (hp2:(Qld p n.2.2.2.1.1).2=true) (lo:Int) (hl:0≤lo∧lo<256) :
  Qnd ((n,()),()) ((Zeu (2,n.2.2.2.1.2.2.2.2.2.2.2.2.2.1,n.2.2.2.1.1,9,0,0,p,1+lo % 30,0,(⟨#[]⟩:ByteArray)),()),()) lo=some ((true,()),()):=by
 have hk:=h.tie.kids
 have h1:=h.tie.asked
 have h2:=h.tie.id
 have h3:=h.tie.one
 have hnx:=h.feed.next
 have hsm:=h.nsm
 have hmay:=Zr5 (lo:=1+lo % 30) ⟨by omega,h1.2⟩ h2 hne hp (by omega)
 have hput:=Zmk (2,n.2.2.2.1.2.2.2.2.2.2.2.2.2.1,n.2.2.2.1.1,9,0,0,p,1+lo % 30,0,(⟨#[]⟩:ByteArray))
 have hc:=Znv h (by decide) (Znc (2,n.2.2.2.1.2.2.2.2.2.2.2.2.2.1,n.2.2.2.1.1,9,0,0,p,1+lo % 30,0,(⟨#[]⟩:ByteArray))) (by omega) (Zom hmay) rfl
 have et:Int.tmod lo 30=lo % 30:=Int.tmod_eq_emod_of_nonneg (by omega)
 unfold Qnd
 dsimp only
 rw [hc,et,Qpx (x:=lo % 30) (by omega) (by omega),Qpx (x:=1+lo % 30) (by omega) (by omega),Qpx (x:=1+lo % 30 - 1) (by omega) (by omega)]
 clear hc hput
 obtain ⟨on,inc,name,⟨id,ti,now,par,pinc,grand,path,ep,born,asked,til,step,kids⟩,f,bad⟩:=n
 dsimp only at hk h1 h2 h3 hnx ha hne hp2 hmay hid hf0 ⊢
 have hpar:par=0:=by
  by_cases q:par=0
  ·exact q
  ·exact absurd (h3 q) ha
 subst hpar
 unfold Zhf
 dsimp only
 rw [if_neg (show ¬ (Qk7.kd (2,asked,id,9,0,0,p,1+lo % 30,0,(⟨#[]⟩:ByteArray))=8) from (by decide:¬ (2:Int)=8)),Qx6]
 dsimp only [Option.bind_some]
 by_cases ho:Zns kids asked 9=true
 ·rw [if_pos (.inl ho)]
  dsimp only
  rw [Qxc,if_pos (show ¬ (asked=0∧(9:Int)=pinc) from fun e=>ha e.1),Zou]
  rw [Znp (show (0:Int)≠asked by omega)]
  rw [Zot _ hsm]
  rfl
 ·rw [if_neg (show ¬ (Zns kids asked 9=true∨asked=0∧(9:Int)<pinc) from fun e=>e.elim ho (fun e=>ha e.1)),if_neg (show ¬ (asked=0∧pinc<(9:Int)) from fun e=>ha e.1),Z71,if_neg (by decide),if_pos rfl,Qxm,if_neg (show ¬ ((0:Int)≠0∧asked=0) from fun e=>e.1 rfl),if_neg (show ¬ (asked=0∨asked≠asked∨(0:Int)≠0) from fun e=>e.elim ha (fun e=>e.elim (fun e=>e rfl) (fun e=>e rfl))),if_neg (show ¬ ((Qld p id).2=false∨20<(0:Int)) by rw [hp2];simp)]
  dsimp only
  rw [Qxc,if_neg (show ¬ ¬ (asked=asked∧(9:Int)=9) from fun e=>e ⟨rfl,rfl⟩),if_pos (show (2:Int)=2∧(0:Int)≠asked from ⟨rfl,by omega⟩)]
  have hlog:(Qkm (Qws f (1+lo % 30)) (1+lo % 30 - 1)).2.2.2.2.1=f.2.2.2.2.1:=by
   rw [(Qxv _ _).2]
   unfold Qws
   split
   ·rw [(Qxv _ _).2]
   ·split<;>rfl
  rw [Zr3 hlog]
  simp only [dnM,List.append_nil]
  dsimp only [g3,g4,g5,g6,g7,g8,g9,g10,g11,g12,h3,h4,h5,h6,h7,h8,h9,h10,h11,h12,u0,u1,u2,u3,u4,u5,u6,u7,u8,u9,u10,u11,u12,e1,e2,e3,e4,e5,e6,e7,e8,e9,e10,e11,e12]
  rw [Zj4 (rfl:asked=asked),Zj4 (show (([]:List Qk7).length:Int)=0 from rfl),Zj4 (show ((Qkm (Qws f (1+lo % 30)) (1+lo % 30 - 1)).2.2.2.2.1.length:Int)=(f.2.2.2.2.1.length:Int) by rw [hlog])]
  by_cases h0:f.1=0
  ·have ht:=hf0 h0
   have e:Qkm (Qws f (1+lo % 30)) (1+lo % 30 - 1)=(1+lo % 30,max f.2.1 (1+lo % 30 - 1),f.2.2):=by
    unfold Qws
    rw [if_neg (show ¬ 0<f.1 by omega),if_pos (show 1≤1+lo % 30∧1+lo % 30≤1000000 by omega)]
    unfold Qkm
    dsimp only
    rw [if_pos (by omega)]
   rw [Z1t h0,e]
   dsimp only
   rw [Z1t rfl,show max f.2.1 (1+lo % 30 - 1)=1+lo % 30 - 1 by omega,beq_self_eq_true]
  ·have e:Qkm (Qws f (1+lo % 30)) (1+lo % 30 - 1)=(f.1,max f.2.1 (1+lo % 30 - 1),f.2.2):=by
    unfold Qws
    rw [if_pos (show 0<f.1 by omega)]
    unfold Qkm
    rw [if_pos (show 0<f.1∧1+lo % 30 - 1≤1000000 by omega)]
    dsimp only
    rw [if_pos (by omega),show max (max f.2.1 (1+lo % 30 - 1)) (1+lo % 30 - 1)=max f.2.1 (1+lo % 30 - 1) by omega]
   rw [Z1m h0,e]
   dsimp only
   rw [Z1t rfl,Zrm,beq_self_eq_true]
theorem Qzx {A:Nat} (picks:List Int) (who lo:Int) (h:Qhw [.val (.sl A (.int .u8)),.val (.int .u8),.val (.int .u8)] (picks,who,lo,())):Qmt picks who lo=some ((true,()),()):=by
 obtain ⟨w1,w2,w3,_⟩:=h
 have hb1:Qkj picks:=fun x hx=>Zqg.1 (w1.2 x hx)
 have hw:0≤who∧who<256:=Zqg.1 w2
 have hlo:0≤lo∧lo<256:=Zqg.1 w3
 unfold Qmt
 rw [Zqn]
 dsimp only [Option.bind_some]
 rw [nt,cond_false]
 by_cases a1:150<picks.length
 ·rw [cdp (by omega)]
 rw [cdn (by omega)]
 have e8:Int.tmod who 7=who % 7:=Int.tmod_eq_emod_of_nonneg (by omega)
 have et:Int.tmod lo 30=lo % 30:=Int.tmod_eq_emod_of_nonneg (by omega)
 rw [e8,et,Qpx (x:=who % 7) (by omega) (by omega),Qpx (x:=2+who % 7) (by omega) (by omega),Qpx (x:=lo % 30) (by omega) (by omega),Qpx (x:=1+lo % 30) (by omega) (by omega)]
 obtain ⟨n,en,hn,hid,hti,hbad,hf0⟩:=Zqe picks hb1 (by omega) (2+who % 7) (by omega)
 rw [en]
 dsimp only [Option.bind_some]
 have hask:=hn.tie.asked
 have hidr:=hn.tie.id
 rw [show g9 (g3 n)=n.2.2.2.1.2.2.2.2.2.2.2.2.2.1 from rfl,← hid]
 by_cases c1:n.2.2.2.1.2.2.2.2.2.2.2.2.2.1=0
 ·rw [Z1t c1]
 rw [Z1m c1]
 by_cases c2:n.2.2.2.1.2.2.2.2.2.2.2.2.2.1=n.2.2.2.1.1
 ·rw [Z1t c2]
 rw [Z1m c2,Zao]
 by_cases c3:n.2.2.2.1.2.2.2.2.2.2.2.2.2.1=1
 ·have hp:=Zpu (id:=n.2.2.2.1.1) (by omega)
  rw [if_pos c3,Z9n _ (by simp [Qk7.pa])]
  dsimp only [Option.bind_some]
  exact Zjw hn hf0 (by omega) c1 c2 hp.1 hp.2 lo hlo
 ·have hp:=Zqo (a:=n.2.2.2.1.2.2.2.2.2.2.2.2.2.1) (id:=n.2.2.2.1.1) (by omega) (by omega) c2
  rw [if_neg c3,Z9n _ (by simp [Qk7.pa])]
  dsimp only [Option.bind_some]
  exact Zjw hn hf0 (by omega) c1 c2 hp.1 hp.2 lo hlo
end Go.PE
