/-
  Plain lemmas on the functions.
  Conditions: none.
-/
import Derived.Test.YtmfiijdlhjajcaaGreatDoorNodeServesPNodeSame
set_option linter.unusedVariables false
set_option linter.unusedSimpArgs false
set_option maxRecDepth 20000
namespace Go.PE
theorem Zrb {i j:Nat} (h:i+j≤1000000000):IntKind.wrap .i64 (Int.fdiv (IntKind.wrap .u64 (IntKind.wrap .i64 ((i:Int)+(j:Int)))) (2 ^ 1))=(((i+j) / 2:Nat):Int):=by
 have e:((i:Int)+(j:Int))=((i+j:Nat):Int):=by omega
 rw [e,Qq3 (x:=((i+j:Nat):Int)) (by omega) (by omega),Zte (x:=((i+j:Nat):Int)) (by omega) (by omega),Int.fdiv_eq_ediv_of_nonneg _ (by decide)]
 have e2:((i+j:Nat):Int) / 2 ^ 1=(((i+j) / 2:Nat):Int):=by omega
 rw [e2,Qq3 (by omega) (by omega)]
theorem Zt9 (x y:Int):Qs3 x y=some (((if x<y then -1 else if y<x then 1 else 0:Int),()),()):=by
 unfold Qs3 Z0w
 simp only [bne_self_eq_false,Option.bind_some,cond_false,cp]
 by_cases h1:x<y
 ·simp [h1]
 ·by_cases h2:y<x
  ·simp [h1,h2]
  ·simp [h1,h2]
theorem Zco (l:List Kid) (h:l.length≤1073741824):Qnk l=some ((l,()),()):=by unfold Qnk;rw [cbp h]
theorem Qrz (l:List Qn4) (h:l.length≤1073741824):Qkk l=some ((l,()),()):=by unfold Qkk;rw [cbp h]
theorem Z5n (l:List Evt) (h:l.length≤1073741824):Ql9 l=some ((l,()),()):=by unfold Ql9;rw [cbp h]
theorem Zdg (l:List Int) (h:l.length≤1073741824):Qnm l=some ((l,()),()):=by unfold Qnm;rw [cbp h]
theorem Zb8 (n:Nat) (l:List Kid) (v:Int) (f:Kid × Int × Unit→Option (Int × Unit)) (key:Kid→Int) (hl:l.length≤1000000) (hr:Zb9 key l) (hf:∀ x∈l,f (x,v,())=some ((if key x<v then -1 else if v<key x then 1 else 0:Int),())):∀ (d m i j:Nat),j - i≤d→d<m→i≤Qxn key v l→Qxn key v l≤j→j≤l.length →
  Ql2 n m l v f (l.length:Int) (i:Int) (j:Int)=some ((((Qxn key v l:Nat):Int),decide (∃ h:Qxn key v l<l.length,key l[Qxn key v l]=v),()),())
 | d,0,i,j,_,h,_,_,_=>by omega
 | d,m+1,i,j,hd,hm,h1,h2,h3=>by
  show Ql3 (Ql2 n m) l v f (l.length:Int) (i:Int) (j:Int)=_
  unfold Ql3
  by_cases hij:i<j
  ·rw [cdp (by omega),Zrb (by omega)]
   have hh:(i+j) / 2<l.length:=by omega
   have hk:=Zh6 (key:=key) (v:=v) hr hh
   rw [ct (idx (by omega)),Qk9,Qkm hh,hf _ (List.getElem_mem hh)]
   dsimp only [Option.bind_some]
   by_cases hc:key l[(i+j) / 2]<v
   ·rw [if_pos hc,cdp (by decide),Qqh (by omega)]
    have:=hk.1 hc
    obtain ⟨d,rfl⟩:∃ d',d=d'+1:=⟨d - 1,by omega⟩
    exact Zb8 n l v f key hl hr hf d m ((i+j) / 2+1) j (by omega) (by omega) (by omega) h2 h3
   ·rw [if_neg hc,cdn (by split<;>omega)]
    have:¬ (i+j) / 2<Qxn key v l:=fun e=>hc (hk.2 e)
    obtain ⟨d,rfl⟩:∃ d',d=d'+1:=⟨d - 1,by omega⟩
    exact Zb8 n l v f key hl hr hf d m i ((i+j) / 2) (by omega) (by omega) h1 (by omega) (by omega)
  ·rw [cdn (by omega)]
   have e:i=Qxn key v l:=by omega
   rw [e]
   by_cases hp:Qxn key v l<l.length
   ·rw [cdp (by omega),ct (idx (by omega)),Qk9,Qkm hp,hf _ (List.getElem_mem hp)]
    dsimp only [Option.bind_some]
    have:=(Zh6 (key:=key) (v:=v) hr hp).1
    have hnl:¬ key l[Qxn key v l]<v:=fun e=>by have:=this e;omega
    rw [if_neg hnl]
    by_cases hq:v<key l[Qxn key v l]
    ·rw [if_pos hq,decide_eq_false (fun e=>by obtain ⟨_,e⟩:=e;omega)];rfl
    ·rw [if_neg hq,decide_eq_true ⟨hp,by omega⟩];rfl
   ·rw [cdn (by omega),decide_eq_false (fun e=>by obtain ⟨e,_⟩:=e;omega)]
theorem Zsb (l:List Kid) (v:Int) (f:Kid × Int × Unit→Option (Int × Unit)) (key:Kid→Int) (hl:l.length≤1000000) (hr:Zb9 key l) (hf:∀ x∈l,f (x,v,())=some ((if key x<v then -1 else if v<key x then 1 else 0:Int),())) :
  Qmu l v f=some ((((Qxn key v l:Nat):Int),decide (∃ h:Qxn key v l<l.length,key l[Qxn key v l]=v),()),()):=
 Zb8 1099511627776 l v f key hl hr hf l.length 1099511627776 0 l.length (by omega) (by omega) (by omega) (Zg6 key v l) (Nat.le_refl _)
theorem Z8t (n:Nat) (l:List Qn4) (v:Int) (f:Qn4 × Int × Unit→Option (Int × Unit)) (key:Qn4→Int) (hl:l.length≤1000000) (hr:Zb9 key l) (hf:∀ x∈l,f (x,v,())=some ((if key x<v then -1 else if v<key x then 1 else 0:Int),())):∀ (d m i j:Nat),j - i≤d→d<m→i≤Qxn key v l→Qxn key v l≤j→j≤l.length →
  Qks n m l v f (l.length:Int) (i:Int) (j:Int)=some ((((Qxn key v l:Nat):Int),decide (∃ h:Qxn key v l<l.length,key l[Qxn key v l]=v),()),())
 | d,0,i,j,_,h,_,_,_=>by omega
 | d,m+1,i,j,hd,hm,h1,h2,h3=>by
  show Qku (Qks n m) l v f (l.length:Int) (i:Int) (j:Int)=_
  unfold Qku
  by_cases hij:i<j
  ·rw [cdp (by omega),Zrb (by omega)]
   have hh:(i+j) / 2<l.length:=by omega
   have hk:=Zh6 (key:=key) (v:=v) hr hh
   rw [ct (idx (by omega)),Qk9,Qkm hh,hf _ (List.getElem_mem hh)]
   dsimp only [Option.bind_some]
   by_cases hc:key l[(i+j) / 2]<v
   ·rw [if_pos hc,cdp (by decide),Qqh (by omega)]
    have:=hk.1 hc
    obtain ⟨d,rfl⟩:∃ d',d=d'+1:=⟨d - 1,by omega⟩
    exact Z8t n l v f key hl hr hf d m ((i+j) / 2+1) j (by omega) (by omega) (by omega) h2 h3
   ·rw [if_neg hc,cdn (by split<;>omega)]
    have:¬ (i+j) / 2<Qxn key v l:=fun e=>hc (hk.2 e)
    obtain ⟨d,rfl⟩:∃ d',d=d'+1:=⟨d - 1,by omega⟩
    exact Z8t n l v f key hl hr hf d m i ((i+j) / 2) (by omega) (by omega) h1 (by omega) (by omega)
  ·rw [cdn (by omega)]
   have e:i=Qxn key v l:=by omega
   rw [e]
   by_cases hp:Qxn key v l<l.length
   ·rw [cdp (by omega),ct (idx (by omega)),Qk9,Qkm hp,hf _ (List.getElem_mem hp)]
    dsimp only [Option.bind_some]
    have:=(Zh6 (key:=key) (v:=v) hr hp).1
    have hnl:¬ key l[Qxn key v l]<v:=fun e=>by have:=this e;omega
    rw [if_neg hnl]
    by_cases hq:v<key l[Qxn key v l]
    ·rw [if_pos hq,decide_eq_false (fun e=>by obtain ⟨_,e⟩:=e;omega)];rfl
    ·rw [if_neg hq,decide_eq_true ⟨hp,by omega⟩];rfl
   ·rw [cdn (by omega),decide_eq_false (fun e=>by obtain ⟨e,_⟩:=e;omega)]
theorem Zp2 (l:List Qn4) (v:Int) (f:Qn4 × Int × Unit→Option (Int × Unit)) (key:Qn4→Int) (hl:l.length≤1000000) (hr:Zb9 key l) (hf:∀ x∈l,f (x,v,())=some ((if key x<v then -1 else if v<key x then 1 else 0:Int),())) :
  Ql5 l v f=some ((((Qxn key v l:Nat):Int),decide (∃ h:Qxn key v l<l.length,key l[Qxn key v l]=v),()),()):=
 Z8t 1099511627776 l v f key hl hr hf l.length 1099511627776 0 l.length (by omega) (by omega) (by omega) (Zg6 key v l) (Nat.le_refl _)
theorem Z3u (n:Nat) (l:List Kid) (f:Kid × Unit→Option (Bool × Unit)) (p:Kid→Bool) (hf:∀ x∈l,f (x,())=some (p x,())) (h6:l.length≤1000000000):∀ (k m i:Nat),i+k=l.length→k<m →
  Qlb n m l f (l.length:Int) (i:Int)=some ((if i+(l.drop i).findIdx p<l.length then ((i+(l.drop i).findIdx p:Nat):Int) else -1,()),())
 | k,0,i,_,h=>by omega
 | 0,m+1,i,hk,h=>by
  show Qm9 (Qlb n m) l f (l.length:Int) (i:Int)=_
  unfold Qm9
  rw [cdn (by omega),List.drop_eq_nil_of_le (by omega),if_neg (by simp;omega)]
 | k+1,m+1,i,hk,h=>by
  have hi:i<l.length:=by omega
  have e:Qlb n (m+1) l f (l.length:Int) (i:Int)=bif p l[i] then some (((i:Int),()),()) else Qlb n m l f (l.length:Int) ((i+1:Nat):Int):=by
   show Qm9 (Qlb n m) l f (l.length:Int) (i:Int)=_
   unfold Qm9
   rw [cdp (by omega),Zab,cdp (by omega),cdp (by omega),Qk9,Qkm hi,Qqh (by omega),hf _ (List.getElem_mem hi)]
   rfl
  rw [e,List.drop_eq_getElem_cons hi,List.findIdx_cons]
  cases hv:p l[i] with
  | true=>simp only [cond_true];rw [if_pos (by omega)];rfl
  | false=>
   simp only [cond_false]
   rw [Z3u n l f p hf h6 k m (i+1) (by omega) (by omega)]
   have e2:i+1+(l.drop (i+1)).findIdx p=i+((l.drop (i+1)).findIdx p+1):=by omega
   rw [e2]
theorem Zjq (l:List Kid) (f:Kid × Unit→Option (Bool × Unit)) (p:Kid→Bool) (hf:∀ x∈l,f (x,())=some (p x,())) (h6:l.length≤1000000000):Quu l f=some ((if l.findIdx p<l.length then ((l.findIdx p:Nat):Int) else -1,()),()):=by
 have:=Z3u 1099511627776 l f p hf h6 l.length 1099511627776 0 (by omega) (by omega)
 rw [List.drop_zero,Nat.zero_add] at this
 exact this
theorem Z20 (n:Nat) (l:List Qn4) (f:Qn4 × Unit→Option (Bool × Unit)) (p:Qn4→Bool) (hf:∀ x∈l,f (x,())=some (p x,())) (h6:l.length≤1000000000):∀ (k m i:Nat),i+k=l.length→k<m →
  Ql7 n m l f (l.length:Int) (i:Int)=some ((if i+(l.drop i).findIdx p<l.length then ((i+(l.drop i).findIdx p:Nat):Int) else -1,()),())
 | k,0,i,_,h=>by omega
 | 0,m+1,i,hk,h=>by
  show Qlx (Ql7 n m) l f (l.length:Int) (i:Int)=_
  unfold Qlx
  rw [cdn (by omega),List.drop_eq_nil_of_le (by omega),if_neg (by simp;omega)]
 | k+1,m+1,i,hk,h=>by
  have hi:i<l.length:=by omega
  have e:Ql7 n (m+1) l f (l.length:Int) (i:Int)=bif p l[i] then some (((i:Int),()),()) else Ql7 n m l f (l.length:Int) ((i+1:Nat):Int):=by
   show Qlx (Ql7 n m) l f (l.length:Int) (i:Int)=_
   unfold Qlx
   rw [cdp (by omega),Zab,cdp (by omega),cdp (by omega),Qk9,Qkm hi,Qqh (by omega),hf _ (List.getElem_mem hi)]
   rfl
  rw [e,List.drop_eq_getElem_cons hi,List.findIdx_cons]
  cases hv:p l[i] with
  | true=>simp only [cond_true];rw [if_pos (by omega)];rfl
  | false=>
   simp only [cond_false]
   rw [Z20 n l f p hf h6 k m (i+1) (by omega) (by omega)]
   have e2:i+1+(l.drop (i+1)).findIdx p=i+((l.drop (i+1)).findIdx p+1):=by omega
   rw [e2]
theorem Zhq (l:List Qn4) (f:Qn4 × Unit→Option (Bool × Unit)) (p:Qn4→Bool) (hf:∀ x∈l,f (x,())=some (p x,())) (h6:l.length≤1000000000):Qu0 l f=some ((if l.findIdx p<l.length then ((l.findIdx p:Nat):Int) else -1,()),()):=by
 have:=Z20 1099511627776 l f p hf h6 l.length 1099511627776 0 (by omega) (by omega)
 rw [List.drop_zero,Nat.zero_add] at this
 exact this
theorem Qw1 (n:Nat) (f:Kid × Unit→Option (Bool × Unit)) (p:Kid→Bool):∀ (k m i j:Nat) (s:List Kid),j+k=s.length→i≤j→k<m→s.length≤1000000000→(∀ x∈s.drop j,f (x,())=some (p x,())) →
  Qm0 n m f (i:Int) (j:Int) s=some ((s.take i++(s.drop j).filter (fun x=>!p x),()),())
 | k,0,i,j,s,_,_,h,_,_=>by omega
 | 0,m+1,i,j,s,hk,hij,h,h6,hf=>by
  show Qlu (Qm0 n m) f (i:Int) (j:Int) s=_
  unfold Qlu
  have e0:((i:Int) - 0).toNat=i:=by omega
  have e1:((s.length:Int) - (i:Int)).toNat=s.length - i:=by omega
  simp only [Qk9,Nat.zero_add,e0,e1]
  have hw:(Q6 (List.map some s) i (List.replicate (s.length - i) ((0,0,0):Kid))).length=s.length:=by
   rw [Z2 (by rw [List.length_replicate,List.length_map];omega),List.length_map]
  rw [cdn (by omega),List.drop_eq_nil_of_le (by omega)]
  repeat rw [ct (by simp only [Bool.and_eq_true,decide_eq_true_eq,Q2,hw,List.length_map];omega)]
  have e2:List.take i (Q6 (List.map some s) i (List.replicate (s.length - i) ((0,0,0):Kid)))=(s.take i).map some:=by
   refine List.ext_getElem? fun j=>?_
   rw [List.getElem?_take,List.map_take,List.getElem?_take,List.getElem?_map]
   by_cases hj:j<i
   ·rw [if_pos hj,if_pos hj,Qj (by rw [List.length_map];omega),if_pos hj,List.getElem?_map]
   ·rw [if_neg hj,if_neg hj]
  rw [e2,Q6l]
  simp
 | k+1,m+1,i,j,s,hk,hij,h,h6,hf=>by
  show Qlu (Qm0 n m) f (i:Int) (j:Int) s=_
  have hj:j<s.length:=by omega
  have hd:=List.drop_eq_getElem_cons hj
  have hfx:=hf s[j] (by rw [hd];exact List.mem_cons_self ..)
  have hfr:∀ x∈s.drop (j+1),f (x,())=some (p x,()):=fun x hx=>hf x (by rw [hd];exact List.mem_cons_of_mem _ hx)
  unfold Qlu
  rw [cdp (by omega),Zab,cdp (by omega),cdp (by omega),Zab,cdp (by omega),cdp (by omega),Qk9,Qkm hj,hfx,hd]
  dsimp only [Option.bind_some]
  cases hp:p s[j] with
  | true=>
   rw [nt,cond_false,Qqh (by omega),Qw1 n f p k m i (j+1) s (by omega) (by omega) (by omega) h6 hfr,List.filter_cons_of_neg (by simp [hp])]
  | false=>
   have hi:i<s.length:=by omega
   rw [nf,cond_true,Zab,cdp (by omega),cdp (by omega),Zab,cdp (by omega),cdp (by omega),Qqh (by omega),Qqh (by omega),Qk9]
   have hd2:(s.set i s[j]).drop (j+1)=s.drop (j+1):=by rw [List.drop_set,if_pos (by omega)]
   rw [Qw1 n f p k m (i+1) (j+1) (s.set i s[j]) (by rw [List.length_set];omega) (by omega) (by omega) (by rw [List.length_set];omega) (by rw [hd2];exact hfr),hd2,List.filter_cons_of_pos (by simp [hp])]
   have ht:(s.set i s[j]).take (i+1)=s.take i++[s[j]]:=by
    rw [List.take_set,List.take_succ_eq_append_getElem hi,List.set_append_right _ _ (by rw [List.length_take];omega),List.length_take,Nat.min_eq_left (by omega),Nat.sub_self];rfl
   rw [ht,List.append_assoc];rfl
theorem Zi0 (s:List Kid) (f:Kid × Unit→Option (Bool × Unit)) (p:Kid→Bool) (hf:∀ x∈s,f (x,())=some (p x,())) (h6:s.length≤1000000000) :
  Qtp s f=some ((s.filter (fun x=>!p x),()),()):=by
 show Qpi (Qm0 1099511627776 1099511627776) s f=_
 unfold Qpi
 rw [Zjq s f p hf h6]
 dsimp only [Option.bind_some]
 have hpre:(s.take (s.findIdx p)).filter (fun x=>!p x)=s.take (s.findIdx p):=by
  apply List.filter_eq_self.2
  intro x hx
  obtain ⟨j,hj,rfl⟩:=List.getElem_of_mem hx
  rw [List.length_take] at hj
  rw [List.getElem_take]
  have:=List.not_of_lt_findIdx (p:=p) (xs:=s) (i:=j) (by omega)
  simp [this]
 by_cases hc:s.findIdx p<s.length
 ·rw [if_pos hc,Z0t (by omega),Qqh (by omega)]
  rw [Qw1 1099511627776 f p (s.length - (s.findIdx p+1)) 1099511627776 (s.findIdx p) (s.findIdx p+1) s (by omega) (by omega) (by omega) h6 (fun x hx=>hf x (List.mem_of_mem_drop hx))]
  have hs:s=s.take (s.findIdx p)++s[s.findIdx p]::s.drop (s.findIdx p+1):=by rw [← List.drop_eq_getElem_cons hc,List.take_append_drop]
  have hpx:p s[s.findIdx p]=true:=List.findIdx_getElem (w:=hc)
  conv=>rhs;rw [hs]
  rw [List.filter_append,hpre,List.filter_cons_of_neg (by simp [hpx])]
 ·rw [if_neg hc,Z2n rfl]
  have:s.take (s.findIdx p)=s:=List.take_of_length_le (by omega)
  rw [this] at hpre
  rw [hpre]
theorem Znj {l:List Kid} (h:KOk l) (id:Int):Z5k l id=some ((((Qxn kid id l:Nat):Int),(Quk l id).isSome,()),()):=by
 have hl:=h.len
 unfold Z5k
 rw [Zsb l id _ kid (by omega) h.rise (fun x _=>by unfold Z49;rw [Zt9];rfl)]
 dsimp only [Option.bind_some]
 congr 3
 rcases Z5c (v:=id) h.rise with ⟨a,b⟩ | ⟨p,a,b⟩
 ·rw [show Quk l id=none from a,decide_eq_false (fun e=>by obtain ⟨e1,e2⟩:=e;have:=b e1;omega)];rfl
 ·rw [show Quk l id=some _ from a,decide_eq_true ⟨p,b⟩];rfl
theorem Zjr {l:List Kid} (h:KOk l) (id:Int):Qza l id=some ((match Quk l id with | some x=>(x,true,()) | none=>((0,0,0),false,())),()):=by
 unfold Qza
 rw [Znj h]
 dsimp only [Option.bind_some]
 rcases Z5c (v:=id) h.rise with ⟨a,b⟩ | ⟨p,a,b⟩
 ·rw [show Quk l id=none from a];rfl
 ·rw [show Quk l id=some _ from a]
  dsimp only [Option.isSome_some]
  rw [nt,cond_false,ct (idx (by omega)),Qk9,Qkm p]
theorem Zrh {l:List Kid} (h:KOk l) (id inc:Int):Zcs l id inc=some ((Zqb l id inc,()),()):=by
 unfold Zcs Zqb
 rw [Zjr h]
 cases Quk l id<;>rfl
theorem Zs3 {l:List Kid} (h:KOk l) (k:Kid):∃ b,Z7v l k=some ((Z56 l k,b,()),()):=by
 have hl:=h.len
 unfold Z7v Z56
 rw [Zco l (by omega),Zrh h]
 dsimp only [Option.bind_some]
 cases ho:Zqb l k.1 k.2.1 with
 | true=>rw [cond_true,if_pos rfl];exact ⟨_,rfl⟩
 | false=>
  rw [cond_false,if_neg (by simp),Znj h]
  dsimp only [Option.bind_some]
  rcases Z5c (key:=kid) (v:=k.1) h.rise with ⟨a,b⟩ | ⟨p,a,b⟩
  ·rw [show Quk l k.1=none from a]
   dsimp only [Option.isSome_none]
   rw [cond_false,show Qye l ((Qxn kid k.1 l:Nat):Int) [k]=Qeg l ((Qxn kid k.1 l:Nat):Int) [k] from rfl]
   unfold Qeg
   have hp:=Zg6 kid k.1 l
   rw [ct (by simp only [Bool.and_eq_true,decide_eq_true_eq,Q2,List.length_singleton];omega)]
   dsimp only [Option.bind_some]
   refine ⟨true,?_⟩
   have hn:=Qwf.1 a
   rw [Qk9,Zj2 hn,Zmd h.rise hn,List.append_assoc];rfl
  ·rw [show Quk l k.1=some _ from a]
   dsimp only [Option.isSome_some]
   rw [cond_true,ct (idx (by omega)),ct (idx (by omega)),Qk9]
   exact ⟨true,by rw [Zrj (key:=kid) h.rise p b]⟩
theorem Zs2 {l:List Kid} (h:KOk l) (id:Int):Z86 l id=some ((Qyz kid id l,()),()):=by
 have hl:=h.len
 unfold Z86
 rw [Zco l (by omega)]
 dsimp only [Option.bind_some]
 rw [Zi0 l _ (fun k=>k.1==id) (fun x _=>rfl) (by omega)]
 rfl
theorem Zq6 (p:List Int) (x:Int) (h6:p.length≤100000000):Zbn p x=some (((Qmh p x).1,(Qmh p x).2,()),()):=by
 unfold Zbn Qmh
 rw [Zdg p (by omega)]
 dsimp only [Option.bind_some]
 rw [cbp (by omega),Zei _ (by rw [List.length_append,List.length_singleton];omega)]
 dsimp only [Option.bind_some]
 cases Qpk (p++[x])<;>rfl
theorem Zro (p:List Int) (x:Int) (h6:p.length≤100000000):Zcr p x=some ((decide (x∈p),()),()):=by
 unfold Zcr
 rw [Zes _ _ (by omega)];rfl
theorem Zpr (p:List Int) (h:p.length≤1000000):Z5f p=some ((if p.length<2 then 0 else List.getD p (p.length - 2) 0,()),()):=by
 unfold Z5f
 by_cases h2:p.length<2
 ·rw [cdp (by omega),if_pos h2]
 ·rw [cdn (by omega),if_neg h2,Qq3 (by omega) (by omega),ct (bt (by omega) (by omega)),show ((p.length:Int) - 2).toNat=p.length - 2 by omega]
end Go.PE
