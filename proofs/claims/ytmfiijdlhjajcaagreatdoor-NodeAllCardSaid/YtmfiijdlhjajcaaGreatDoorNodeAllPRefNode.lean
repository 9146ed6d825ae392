/-
  Plain lemmas on the functions.
  Conditions: none.
-/
import Derived.Test.YtmfiijdlhjajcaaGreatDoorNodeAllPProgFeed2
set_option linter.unusedVariables false
set_option linter.unusedSimpArgs false
set_option maxRecDepth 20000
namespace Go.PE
theorem Zsa (n m1:Nat) (r1:Qrk) (a:List Evt) (h:∀ e∈a,X0n e) (k:a.length≤100000000) (i:Nat) (hi:i<a.length) (t1 t2 t3 t4 t5 t6:Int) (t7:List Int) (t8 t9 d f g:Int) (kids:List Kid) (hk:kids.length≤8):∀ (c m j:Nat) (b:List Qka),j+c=kids.length→c<m→b.length≤100000000*9+j →
  Qnl n m1 r1 m a (i:Int) (j:Int) t1 t2 t3 t4 t5 t6 t7 t8 t9 d f g kids b=r1 a (wJ ((i:Int)+1)) t1 t2 t3 t4 t5 t6 t7 t8 t9 d f g kids (b++(kids.drop j).map (Zov (t1,t2,t3,t4,t5,t6,t7,t8,t9,d,f,g,kids) a[i]))
 | c,0,j,b,_,hm,_=>by omega
 | 0,m+1,j,b,hc,hm,ha=>by
  show Qp3 (Qnl n m1 r1 m) r1 a (i:Int) (j:Int) t1 t2 t3 t4 t5 t6 t7 t8 t9 d f g kids b=_
  unfold Qp3
  rw [cdn (show ¬ ((j:Int)<(kids.length:Int)) by omega),List.drop_eq_nil_of_le (by omega),List.map_nil,List.append_nil]
 | c+1,m+1,j,b,hc,hm,ha=>by
  have hj:j<kids.length:=by omega
  have hI:(ix (i:Int) (a.length:Int))=true:=idx (by omega)
  have hJ:(ix (j:Int) (kids.length:Int))=true:=idx (by omega)
  have hw:=Qoq (i:=j) (by omega)
  have hb:Nat.ble (b.length+1) 1073741824=true:=Nat.ble_eq_true_of_le (by omega)
  have ih:=fun q=>Zsa n m1 r1 a h k i hi t1 t2 t3 t4 t5 t6 t7 t8 t9 d f g kids hk c m (j+1) (b++[q]) (by omega) (by omega) (by rw [List.length_append,List.length_singleton];omega)
  have he:=h _ (List.getElem_mem hi)
  show Qp3 (Qnl n m1 r1 m) r1 a (i:Int) (j:Int) t1 t2 t3 t4 t5 t6 t7 t8 t9 d f g kids b=_
  unfold Qp3 Qk9
  rw [cdp (show (j:Int)<(kids.length:Int) by omega)]
  simp only [hI,hJ,cond_true,Qkb,Qkq hi,Qkq hj,hw,hb,Option.bind_some]
  rw [List.drop_eq_getElem_cons hj,List.map_cons]
  by_cases k2:a[i].1=2
  ·rw [Z65 k2]
   refine Eq.trans (ih _) ?_
   rw [List.append_assoc,List.singleton_append,show Zov (t1,t2,t3,t4,t5,t6,t7,t8,t9,d,f,g,kids) a[i] kids[j]=(9,t1,kids[j].1,t2,0,0,[],a[i].2.1,a[i].2.2.1,ebA) by unfold Zov;rw [if_neg (by omega)]]
  ·have k1:a[i].1=1:=he.resolve_right k2
   rw [Z3n k2]
   refine Eq.trans (ih _) ?_
   rw [List.append_assoc,List.singleton_append,show Zov (t1,t2,t3,t4,t5,t6,t7,t8,t9,d,f,g,kids) a[i] kids[j]=(7,t1,kids[j].1,t2,0,0,[],a[i].2.1,0,a[i].2.2.2.1) by unfold Zov;rw [if_pos k1]]
theorem Zt4 (n:Nat) (hn:100<n) (a:List Evt) (h:∀ e∈a,X0n e) (j:a.length≤100000000) (t1 t2 t3 t4 t5 t6:Int) (t7:List Int) (t8 t9 d f g:Int) (kids:List Kid) (hk:kids.length≤8):∀ (c m i:Nat) (b:List Qka),i+c=a.length→c<m→b.length≤8*i →
  Qpa n m a (i:Int) t1 t2 t3 t4 t5 t6 t7 t8 t9 d f g kids b=some ((b++dnM (t1,t2,t3,t4,t5,t6,t7,t8,t9,d,f,g,kids) (a.drop i),()),())
 | c,0,i,b,_,hm,_=>by omega
 | 0,m+1,i,b,hc,hm,ha=>by
  show Qp2 (Qnl n m (Qpa n m) n) a (i:Int) t1 t2 t3 t4 t5 t6 t7 t8 t9 d f g kids b=_
  unfold Qp2
  rw [cdn (show ¬ ((i:Int)<(a.length:Int)) by omega),List.drop_eq_nil_of_le (by omega)]
  show _=some ((b++[],()),())
  rw [List.append_nil]
 | c+1,m+1,i,b,hc,hm,ha=>by
  have hi:i<a.length:=by omega
  show Qp2 (Qnl n m (Qpa n m) n) a (i:Int) t1 t2 t3 t4 t5 t6 t7 t8 t9 d f g kids b=_
  unfold Qp2
  rw [cdp (show (i:Int)<(a.length:Int) by omega)]
  refine Eq.trans (Zsa n m (Qpa n m) a h j i hi t1 t2 t3 t4 t5 t6 t7 t8 t9 d f g kids hk kids.length n 0 b (Nat.zero_add _) (by omega) (by omega)) ?_
  rw [Qoq (by omega),List.drop_zero]
  refine Eq.trans (Zt4 n hn a h j t1 t2 t3 t4 t5 t6 t7 t8 t9 d f g kids hk c m (i+1) _ (by omega) (by omega) (by rw [List.length_append,List.length_map];omega)) ?_
  rw [List.drop_eq_getElem_cons hi,List.append_assoc]
  rfl
theorem Zgv (t:Tie) (hk:t.2.2.2.2.2.2.2.2.2.2.2.2.length≤8) {a:List Evt} (b:∀ e∈a,X0n e) (c:a.length≤100000000):Qlp t a=some ((dnM t a,()),()):=by
 obtain ⟨t1,t2,t3,t4,t5,t6,t7,t8,t9,d,f,g,kids⟩:=t
 have:=fun q m hq hm=>Zt4 q hq a b c t1 t2 t3 t4 t5 t6 t7 t8 t9 d f g kids hk a.length m 0 [] (Nat.zero_add _) hm (Nat.zero_le _)
 exact this 1099511627776 1099511627776 (by decide) (by omega)
theorem Zqg {f g:Qo3} (h:Ext f g):(decide (0≤(f.2.2.2.2.1.length:Int))&&decide ((f.2.2.2.2.1.length:Int)≤(g.2.2.2.2.1.length:Int))&&decide ((g.2.2.2.2.1.length:Int)≤(g.2.2.2.2.1.length:Int)))=true∧List.drop ((f.2.2.2.2.1.length:Int).toNat) (List.take ((g.2.2.2.2.1.length:Int).toNat) g.2.2.2.2.1)=Zbt f g:=by
 have h1:=h.new.1
 have h2:f.2.2.2.2.1.length≤g.2.2.2.2.1.length:=by rw [h1,List.length_append];omega
 constructor
 ·rw [bt (by omega) (by omega),decide_eq_true (Int.le_refl _)];rfl
 ·rw [Int.toNat_natCast,Int.toNat_natCast,List.take_length];rfl
structure Zyx (l:Qmq) (n:Int):Prop where
 all:∀ s∈l,s.1≤s.2∧s.2<n
 low:∀ s∈l.dropLast,s.2+1<n
theorem Zyx.next {l:List (Int × Int)} {n:Int} (h:Zyx l n):Zyx l (n+1):=⟨fun s hs=>by have:=h.all s hs;omega,fun s hs=>by have:=h.low s hs;omega⟩
theorem Zyx.add {l:List (Int × Int)} {n:Int} (h:Zyx l n):Zyx (Zrz l n) (n+1):=by
 unfold Zrz
 split
 ·rename_i s hs
  have hm:s∈l:=List.mem_of_getLast? hs
  have h1:=h.all s hm
  split
  ·refine ⟨fun x hx=>?_,fun x hx=>?_⟩
   ·rcases List.mem_append.1 hx with hx | hx
    ·have:=h.all x (List.dropLast_subset _ hx);omega
    ·rw [List.mem_singleton.1 hx];dsimp only;omega
   ·rw [List.dropLast_concat] at hx
    have:=h.low x hx;omega
  ·refine ⟨fun x hx=>?_,fun x hx=>?_⟩
   ·rcases List.mem_append.1 hx with hx | hx
    ·have:=h.all x hx;omega
    ·rw [List.mem_singleton.1 hx];dsimp only;omega
   ·rw [List.dropLast_concat] at hx
    have:=h.all x hx;omega
 ·refine ⟨fun x hx=>?_,fun x hx=>by cases hx⟩
  rw [List.mem_singleton.1 hx];dsimp only;omega
theorem Zy8 (q m:Nat) (l:Qmq) (hl:l.length≤1000) (a b:Int) (c:Qmq) (hb:c.length≤1000) (i:Nat) (hi:i=l.length):Qmb q (m+1) l (i:Int) a b c []=some ((c++[(a,b)],()),()):=by
 show Qnq (Qmb q m) l (i:Int) a b c []=_
 unfold Qnq
 rw [cdn (show ¬ ((i:Int)<(l.length:Int)) by omega),cbp (by omega),cbp (by rw [List.length_append,List.length_singleton,List.length_nil];omega),List.append_nil]
theorem Zy0 (q:Nat) (l:Qmq) (hl:l.length≤1000) (n:Int) (hn:-1000000000≤n∧n≤1000000000) (h:Zyx l n) (h0:∀ s∈l,-1000000000≤s.2):∀ (c m i:Nat),i+(c+1)=l.length→c+1<m →
  Qmb q m l (i:Int) n n (l.take i) []=some ((Zrz l n,()),())
 | c,0,i,_,hm=>by omega
 | c,m+1,i,hc,hm=>by
  have hi:i<l.length:=by omega
  have hI:(ix (i:Int) (l.length:Int))=true:=idx (by omega)
  have hw:=Qoq (i:=i) (by omega)
  have hb:Nat.ble ((l.take i).length+1) 1073741824=true:=Nat.ble_eq_true_of_le (by rw [List.length_take];omega)
  have e0:=h.all _ (List.getElem_mem hi)
  have e1:=h0 _ (List.getElem_mem hi)
  have e2:wJ (l[i].2+1)=l[i].2+1:=Qor (by omega) (by omega)
  have e3:wJ (n+1)=n+1:=Qor (by omega) (by omega)
  show Qnq (Qmb q m) l (i:Int) n n (l.take i) []=_
  unfold Qnq
  rw [cdp (show (i:Int)<(l.length:Int) by omega)]
  simp only [hI,cond_true,Qkb,Qkq hi,hw,hb,e2,e3]
  obtain ⟨m,rfl⟩:∃ k,m=k+1:=⟨m - 1,by omega⟩
  by_cases a:l[i].2+1<n
  ·rw [cdp a,← List.take_succ_eq_append_getElem hi]
   cases c with
   | zero=>
    refine Eq.trans (Zy8 q m l hl n n _ (by rw [List.length_take];omega) (i+1) (by omega)) ?_
    have hg:l.getLast?=some l[i]:=by
     rw [List.getLast?_eq_getElem?,List.getElem?_eq_getElem (by omega)]
     congr 2
     omega
    unfold Zrz
    rw [hg]
    dsimp only
    rw [if_neg (by omega),List.take_of_length_le (by omega)]
   | succ c=>exact Zy0 q l hl n hn h h0 c (m+1) (i+1) (by omega) (by omega)
  ·rw [cdn a]
   have b:i+1=l.length:=by
    rcases Nat.lt_or_ge (i+1) l.length with h2 | h2
    ·have hd:i<l.dropLast.length:=by rw [List.length_dropLast];omega
     have:=h.low _ (List.getElem_mem hd)
     rw [List.getElem_dropLast] at this
     omega
    ·omega
   rw [cdn (show ¬ (l[i].1>n+1) by omega),if_pos (show l[i].1<n by omega),if_neg (show ¬ (l[i].2>n) by omega)]
   refine Eq.trans (Zy8 q m l hl l[i].1 n _ (by rw [List.length_take];omega) (i+1) b) ?_
   have hg:l.getLast?=some l[i]:=by
    rw [List.getLast?_eq_getElem?,List.getElem?_eq_getElem (by omega)]
    congr 2
    omega
   unfold Zrz
   rw [hg]
   dsimp only
   rw [if_pos (by omega),List.dropLast_eq_take]
   rw [show l.length - 1=i by omega]
theorem Zp1 {l:List (Int × Int)} (hl:l.length≤1000) {n:Int} (hn:1≤n∧n≤1000000) (h:Zyx l n) (h0:∀ s∈l,-1000000000≤s.2):Z0f l (n,n)=some ((Zrz l n,()),()):=by
 have key:∀ q m,10000<m→Qti (Qmb q m) l (n,n)=some ((Zrz l n,()),()):=by
  intro q m hm
  unfold Qti
  rw [Zpu]
  dsimp only [Option.bind_some]
  rw [decide_eq_true (show 1≤n∧n≤n∧n≤1000000 by omega),nt,cond_false]
  cases hc:l.length with
  | zero=>
   have:l=[]:=List.eq_nil_of_length_eq_zero hc
   subst this
   obtain ⟨m,rfl⟩:∃ k,m=k+1:=⟨m - 1,by omega⟩
   exact Zy8 q m [] hl n n [] (by simp) 0 rfl
  | succ c=>
   have:=Zy0 q l hl n (by omega) h h0 c m 0 (by omega) (by omega)
   rw [List.take_zero] at this
   exact this
 exact key 1099511627776 1099511627776 (by decide)
theorem Zdr (n:Nat) (lo hi nx top:Int) (ring win:List Qo4) (log:List Evt) (a b:Int) (hl:ring.length≤1000000) (h1:1≤lo∧lo≤900000000) (h2:hi≤1000000) (h3:1≤nx∧nx≤1000001):∀ (k m i:Nat) (d:List Qo4) (c:Qmq),i+k=8→k<m→d.length≤i→c.length≤i→Zyx c (lo+(i:Int))→(∀ s∈c,1≤s.2) →
  Qmg n m lo hi (i:Int) nx top ring win log a b d c=some (((Z0j ring (min hi (nx - 1)) k (lo+(i:Int)) d c).1,(Z0j ring (min hi (nx - 1)) k (lo+(i:Int)) d c).2,()),())
 | k,0,i,d,c,_,h,_,_,_,_=>by omega
 | 0,m+1,i,d,c,hk,h,_,_,_,_=>by
  show Qli (Qmg n m) lo hi (i:Int) nx top ring win log a b d c=_
  unfold Qli
  rw [cdn (show ¬ ((i:Int)<8) by omega)]
  rfl
 | k+1,m+1,i,d,c,hk,h,f,g,hs,hp=>by
  have e1:wJ (lo+(i:Int))=lo+(i:Int):=Qor (by omega) (by omega)
  have e2:lo+(i:Int)+1=lo+((i+1:Nat):Int):=by omega
  have hw:=Qoq (i:=i) (by omega)
  show Qli (Qmg n m) lo hi (i:Int) nx top ring win log a b d c=_
  unfold Qli
  rw [cdp (show (i:Int)<8 by omega),Z3n (show nx≠0 by omega),e1,hw]
  rw [Z0j]
  by_cases a1:lo+(i:Int)>hi
  ·rw [cdp a1,if_pos (by omega)]
  rw [cdn a1]
  by_cases a2:lo+(i:Int) ≥ nx
  ·rw [cdp a2,if_pos (by omega)]
  rw [cdn a2,if_neg (by omega),Zqf ring _ (by omega)]
  dsimp only [Option.bind_some]
  cases hg:Zuu ring (lo+(i:Int)) with
  | some x=>
   dsimp only
   rw [cond_true,cbp (by omega),e2]
   have hx:x=(lo+(i:Int),x.2):=by
    have:=(Zon hg).2
    simp only [Zet] at this
    rw [← this]
   rw [← hx]
   exact Zdr n lo hi nx top ring win log a b hl h1 h2 h3 k m (i+1) _ _ (by omega) (by omega) (by rw [List.length_append,List.length_singleton];omega) (by omega) (by rw [← e2];exact hs.next) hp
  | none=>
   dsimp only
   rw [cond_false,Zp1 (by omega) (by omega) hs (fun s e=>by have:=hp s e;omega)]
   dsimp only [Option.bind_some]
   rw [e2]
   refine Zdr n lo hi nx top ring win log a b hl h1 h2 h3 k m (i+1) _ _ (by omega) (by omega) (by omega) (by have:=Zrf c (lo+(i:Int));omega) (by rw [← e2];exact hs.add) ?_
   intro s e
   unfold Zrz at e
   split at e
   ·split at e
    ·rcases List.mem_append.1 e with q | q
     ·exact hp s (List.dropLast_subset _ q)
     ·rw [List.mem_singleton.1 q];dsimp only;omega
    ·rcases List.mem_append.1 e with q | q
     ·exact hp s q
     ·rw [List.mem_singleton.1 q];dsimp only;omega
   ·rw [List.mem_singleton.1 e];dsimp only;omega
theorem Zrj {f:Qo3} (h:FOk f) (lo hi:Int) (h1:1≤lo∧lo≤1000000) (h2:hi≤1000000):Z0v f lo hi=some (((Qoz f lo hi).1,(Qoz f lo hi).2,()),()):=by
 have hn:=h.next
 have hs:=h.sm
 have key:∀ n m,100<m→Qtd (Qmg n m) f lo hi=some (((Qoz f lo hi).1,(Qoz f lo hi).2,()),()):=by
  intro n m hm
  unfold Qtd Qoz
  by_cases a:f.1=0
  ·rw [if_pos a]
   obtain ⟨m,rfl⟩:∃ k,m=k+1:=⟨m - 1,by omega⟩
   show Qli (Qmg n m) lo hi 0 f.1 f.2.1 f.2.2.1 f.2.2.2.1 f.2.2.2.2.1 f.2.2.2.2.2.1 f.2.2.2.2.2.2 [] []=_
   unfold Qli
   rw [cdp (by decide),Z65 a]
  ·rw [if_neg a]
   have:=Zdr n lo hi f.1 f.2.1 f.2.2.1 f.2.2.2.1 f.2.2.2.2.1 f.2.2.2.2.2.1 f.2.2.2.2.2.2 (by have:=hs.ring;omega) (by omega) h2 (by omega) 8 m 0 [] [] (by omega) (by omega) (by simp) (by simp) ⟨fun s hs=>(by cases hs),fun s hs=>(by cases hs)⟩ (fun s hs=>by cases hs)
   rw [show lo+((0:Nat):Int)=lo by omega] at this
   exact this
 exact key 1099511627776 1099511627776 (by decide)
theorem Zt1 (n:Nat) (t1 t2 t3 t4 t5 t6:Int) (t7:List Int) (t8 t9 c d e:Int) (kids:List Kid) (kd fr mt mi me ma:Int) (mp:List Int) (ml mh:Int) (mx:ByteArray) (a:Qmq) (hl:a.length≤1000):∀ (k m i:Nat) (b:List Qka),i+k=a.length→k<m→b.length≤10000+i →
  Qmf n m (i:Int) t1 t2 t3 t4 t5 t6 t7 t8 t9 c d e kids kd fr mt mi me ma mp ml mh mx b a=some ((b++(a.drop i).map (ntM (t1,t2,t3,t4,t5,t6,t7,t8,t9,c,d,e,kids) fr),()),())
 | k,0,i,b,_,h,_=>by omega
 | 0,m+1,i,b,hk,h,ha=>by
  show Qnn (Qmf n m) (i:Int) t1 t2 t3 t4 t5 t6 t7 t8 t9 c d e kids kd fr mt mi me ma mp ml mh mx b a=_
  unfold Qnn
  rw [cdn (show ¬ ((i:Int)<(a.length:Int)) by omega),List.drop_eq_nil_of_le (by omega),List.map_nil,List.append_nil]
 | k+1,m+1,i,b,hk,h,ha=>by
  have hi:i<a.length:=by omega
  have hI:(ix (i:Int) (a.length:Int))=true:=idx (by omega)
  have hw:=Qoq (i:=i) (by omega)
  have hb:Nat.ble (b.length+1) 1073741824=true:=Nat.ble_eq_true_of_le (by omega)
  show Qnn (Qmf n m) (i:Int) t1 t2 t3 t4 t5 t6 t7 t8 t9 c d e kids kd fr mt mi me ma mp ml mh mx b a=_
  unfold Qnn Qk9
  rw [cdp (show (i:Int)<(a.length:Int) by omega)]
  simp only [hI,cond_true,Qkb,Qkq hi,hw,hb,Option.bind_some]
  refine Eq.trans (Zt1 n t1 t2 t3 t4 t5 t6 t7 t8 t9 c d e kids kd fr mt mi me ma mp ml mh mx a hl k m (i+1) _ (by omega) (by omega) (by rw [List.length_append,List.length_singleton];omega)) ?_
  rw [List.drop_eq_getElem_cons hi,List.map_cons,List.append_assoc];rfl
theorem Zsy (n q:Nat) (hq:2000<q) (t1 t2 t3 t4 t5 t6:Int) (t7:List Int) (t8 t9 d e f:Int) (kids:List Kid) (kd fr mt mi me ma:Int) (mp:List Int) (ml mh:Int) (mx:ByteArray) (a:List Qo4) (c:Qmq) (hl:c.length≤1000) (g:a.length≤1000):∀ (k m i:Nat) (b:List Qka),i+k=a.length→k<m→b.length≤i →
  Qnu q m (i:Int) t1 t2 t3 t4 t5 t6 t7 t8 t9 d e f kids kd fr mt mi me ma mp ml mh mx b a c=some ((b++(a.drop i).map (itM (t1,t2,t3,t4,t5,t6,t7,t8,t9,d,e,f,kids) fr)++c.map (ntM (t1,t2,t3,t4,t5,t6,t7,t8,t9,d,e,f,kids) fr),()),())
 | k,0,i,b,_,h,_=>by omega
 | 0,m+1,i,b,hk,h,ha=>by
  show Qo1 (Qnu q m) (Qmf q q) (i:Int) t1 t2 t3 t4 t5 t6 t7 t8 t9 d e f kids kd fr mt mi me ma mp ml mh mx b a c=_
  unfold Qo1
  rw [cdn (show ¬ ((i:Int)<(a.length:Int)) by omega),List.drop_eq_nil_of_le (by omega),List.map_nil,List.append_nil]
  have:=Zt1 q t1 t2 t3 t4 t5 t6 t7 t8 t9 d e f kids kd fr mt mi me ma mp ml mh mx c hl c.length q 0 b (by omega) (by omega) (by omega)
  rw [List.drop_zero] at this
  exact this
 | k+1,m+1,i,b,hk,h,ha=>by
  have hi:i<a.length:=by omega
  have hI:(ix (i:Int) (a.length:Int))=true:=idx (by omega)
  have hw:=Qoq (i:=i) (by omega)
  have hb:Nat.ble (b.length+1) 1073741824=true:=Nat.ble_eq_true_of_le (by omega)
  show Qo1 (Qnu q m) (Qmf q q) (i:Int) t1 t2 t3 t4 t5 t6 t7 t8 t9 d e f kids kd fr mt mi me ma mp ml mh mx b a c=_
  unfold Qo1 Qk9
  rw [cdp (show (i:Int)<(a.length:Int) by omega)]
  simp only [hI,cond_true,Qkb,Qkq hi,hw,hb,Option.bind_some]
  refine Eq.trans (Zsy n q hq t1 t2 t3 t4 t5 t6 t7 t8 t9 d e f kids kd fr mt mi me ma mp ml mh mx a c hl g k m (i+1) _ (by omega) (by omega) (by rw [List.length_append,List.length_singleton];omega)) ?_
  rw [List.drop_eq_getElem_cons hi,List.map_cons]
  simp only [List.append_assoc,List.singleton_append,List.cons_append];rfl
theorem Zrq (t:Tie) {f:Qo3} (hf:FOk f) {m:Qka} (h1:1≤m.lo∧m.lo≤1000000) (h2:m.hi≤1000000):Z11 t f m=some (((Qoz f m.lo m.hi).1.map (itM t m.fr)++(Qoz f m.lo m.hi).2.map (ntM t m.fr),()),()):=by
 have key:∀ q m',2000<q→2000<m'→Qtc (Qnu q m') t f m=some (((Qoz f m.lo m.hi).1.map (itM t m.fr)++(Qoz f m.lo m.hi).2.map (ntM t m.fr),()),()):=by
  intro q m' hq d
  unfold Qtc
  rw [show g7 m=m.lo from rfl,show g8 m=m.hi from rfl,Zrj hf _ _ h1 h2]
  dsimp only [Option.bind_some]
  have hl:=Zhg f m.lo m.hi
  obtain ⟨t1,t2,t3,t4,t5,t6,t7,t8,t9,a,b,c,kids⟩:=t
  have:=Zsy 0 q hq t1 t2 t3 t4 t5 t6 t7 t8 t9 a b c kids m.1 m.2.1 m.2.2.1 m.2.2.2.1 m.2.2.2.2.1 m.2.2.2.2.2.1 m.2.2.2.2.2.2.1 m.2.2.2.2.2.2.2.1 m.2.2.2.2.2.2.2.2.1 m.2.2.2.2.2.2.2.2.2 (Qoz f m.lo m.hi).1 (Qoz f m.lo m.hi).2 (by omega) (by omega) (Qoz f m.lo m.hi).1.length m' 0 [] (by omega) (by omega) (by simp)
  rw [List.drop_zero,List.nil_append] at this
  exact this
 exact key 1099511627776 1099511627776 (by decide) (by decide)
theorem Zqp (t:Tie) {m:Qka} (h5:m.kd=5) (lo:Int):(Z5o t m lo).1.2.2.2.1=t.2.2.2.1∨(Z5o t m lo).1.2.2.2.1=0:=by
 obtain ⟨id,inc,now,par,pc,gd,pt,ep,bn,asked,til,sp,kids⟩:=t
 obtain ⟨kd,fr,to,mi,me,ag,pa,l,hi,tx⟩:=m
 have a:kd=5:=h5
 subst a
 rw [Z5o,if_neg (by decide),if_neg (by decide),if_neg (by decide),if_neg (by decide),if_pos rfl]
 split
 ·exact .inl rfl
 ·split
  ·exact .inr rfl
  ·split
   ·exact .inl rfl
   ·exact .inl rfl
theorem Zu8 (t:Tie) {m:Qka} (h5:m.kd=5) (lo:Int):(Qt3 t m lo).1.2.2.2.1=t.2.2.2.1∨(Qt3 t m lo).1.2.2.2.1=0:=by
 obtain ⟨id,inc,now,par,pc,gd,pt,ep,bn,asked,til,sp,kids⟩:=t
 obtain ⟨kd,fr,to,mi,me,ag,pa,l,hi,tx⟩:=m
 rw [Qt3]
 split
 ·exact .inl rfl
 ·split
  ·rcases Zqp (Zus (id,inc,now,par,pc,gd,pt,ep,bn,asked,til,sp,kids) 0) h5 lo with e | e
   ·exact .inr e
   ·exact .inr e
  ·exact Zqp _ h5 lo
theorem X1b {α:Type} (c:Bool) (a:α):(bif c then a else a)=a:=by cases c<;>rfl
theorem Zp3 {N:Int} {n:Z27} (h:NOk N n) (hN:N+1≤562949953421312) {b:List Int} (hb:Qkf b) (hl:b.length≤100000000):Qnv n b=some (((Zg2 n b).1,(Zg2 n b).2,()),()):=by
 have B:=h.bad
 have e:(if 1073741824<wJ (n.2.2.2.2.2+1) then 1073741824 else wJ (n.2.2.2.2.2+1))=min (n.2.2.2.2.2+1) 1073741824:=by
  rw [Qor (by omega) (by omega)];split<;>omega
 have fin:(some (((e5 n (if 1073741824<wJ ((h5 n)+1) then 1073741824 else wJ ((h5 n)+1))),[],()),()):Option (((Z27) × (List Qka) × Unit) × Unit))=some ((X0y n,[],()),()):=by
  show some (((n.1,n.2.1,n.2.2.1,n.2.2.2.1,n.2.2.2.2.1,if 1073741824<wJ (n.2.2.2.2.2+1) then 1073741824 else wJ (n.2.2.2.2.2+1)),[],()),())=_
  rw [e];rfl
 unfold Zg2 Qnv
 rw [h.on,nt,cond_false,Zoq b hb hl]
 cases ht:Zjz b with
 | none=>exact fin
 | some m=>
  rw [show Zup (some m)=((m,true,()),()) from rfl]
  dsimp only [Option.bind_some]
  rw [nt,cond_false]
  by_cases i:m.to=n.2.2.2.1.1
  ·rw [if_pos i,Zqu (show m.2.2.1=(g3 n).1 from i)]
   have g:=(Z9n ht).1
   have hm:=(Z3w g).msm
   have E:=hm.fr
   have w:=hm.lo
   have I:=hm.tx
   have v:=hm.hi
   have p:m.kd=8→1≤m.lo:=by
    intro e
    unfold Zoz at g
    simp only [Bool.and_eq_true] at g
    have hf:=g.2.2.2.2
    unfold Qyr at hf
    have e':m.1=8:=e
    simp only [e'] at hf
    simp at hf
    exact (Qkt.1 hf.2.1.1).1
   have G:=h.feed.next
   have e1:(if 1>(g4 n).1 then 1 else (g4 n).1)=max n.2.2.2.2.1.1 1:=by show (if 1>n.2.2.2.2.1.1 then 1 else n.2.2.2.2.1.1)=_;split<;>omega
   rw [e1,show g3 n=n.2.2.2.1 from rfl,Zg8 h.tie hN hm]
   dsimp only [Option.bind_some]
   have hT:=Zda h.tie hm (max n.2.2.2.2.1.1 1) hN
   have A:=Zk9 n.2.2.2.1 m (max n.2.2.2.2.1.1 1)
   have y:=fun h5=>Zu8 n.2.2.2.1 (m:=m) h5 (max n.2.2.2.2.1.1 1)
   have ec:∀ r,Qt3 n.2.2.2.1 m (max n.2.2.2.2.1.1 1)=r→Zjm n m=((n.1,n.2.1,n.2.2.1,r.1,Qwj r.1 n.2.2.2.2.1 m n.2.2.2.1.2.2.2.1,n.2.2.2.2.2),(r.2++(if m.kd=8 then Qxk r.1 n.2.2.2.2.1 m else []))++dnM r.1 (Zbt n.2.2.2.2.1 (Qwj r.1 n.2.2.2.2.1 m n.2.2.2.1.2.2.2.1))):=by
    intro r hr;unfold Zjm;rw [hr]
   generalize hr:Qt3 n.2.2.2.1 m (max n.2.2.2.2.1.1 1)=r at *
   rw [ec r rfl]
   have D:=Zir (t:=r.1) h.feed (m:=m) n.2.2.2.1.2.2.2.1
   have u:=Zqk r.1 n.2.2.2.2.1 m n.2.2.2.1.2.2.2.1
   clear ec hr
   obtain ⟨K,hK⟩:∃ K:Qo3→Option (((Z27) × (List Qka) × Unit) × Unit),K=fun f=>some (((n.1,n.2.1,n.2.2.1,r.1,f,n.2.2.2.2.2),(r.2++(if m.kd=8 then Qxk r.1 n.2.2.2.2.1 m else []))++dnM r.1 (Zbt n.2.2.2.2.1 f),()),()):=⟨_,rfl⟩
   have H:=Zh8 r.1 n.2.2.2.2.1 m
   have dn:∀ f,Ext n.2.2.2.2.1 f→FOk f→Qlp r.1 (Zbt n.2.2.2.2.1 f)=some ((dnM r.1 (Zbt n.2.2.2.2.1 f),()),())∧(dnM r.1 (Zbt n.2.2.2.2.1 f)).length≤80000000:=by
    intro f he ho
    have:=ho.sm.log
    have F:(Zbt n.2.2.2.2.1 f).length≤10000000:=by unfold Zbt;rw [List.length_drop];omega
    have C:=Zk8 r.1 hT.kids.len (Zbt n.2.2.2.2.1 f)
    exact ⟨Zgv r.1 hT.kids.len he.new.2 (by omega),by omega⟩
   have J1:∀ f,Ext n.2.2.2.2.1 f→FOk f→m.kd≠8→Qm6 n ((f,()),()) ((r.1,r.2,()),())=K f:=by
    intro f he ho h8
    have hc:=Zqg he
    have hd:=dn f he ho
    unfold Qm6
    dsimp only [g3,g4,g5,g6,g7,g8,g9,g10,g11,h3,h4,h5,h6,h9,h12,u0,u1,u2,u3,u4,u5,u6,u7,u8,u9,u10,u11,e1,e2,e3,e5,e9,e12]
    rw [ct hc.1,hc.2,hd.1]
    dsimp only [Option.bind_some]
    rw [cbp (by omega),hK]
    dsimp only
    rw [if_neg h8,List.append_nil]
   have J2:m.kd≠8→Qlc n ((r.1,r.2,()),())=K n.2.2.2.2.1:=by
    intro h8
    have hc:=Zqg (Ext.refl n.2.2.2.2.1)
    have hd:=dn _ (Ext.refl _) h.feed
    unfold Qlc
    dsimp only [g3,g4,g5,g6,g7,g8,g9,g10,g11,h3,h4,h5,h6,h9,h12,u0,u1,u2,u3,u4,u5,u6,u7,u8,u9,u10,u11,e1,e2,e3,e5,e9,e12]
    rw [ct hc.1,hc.2,hd.1]
    dsimp only [Option.bind_some]
    rw [cbp (by omega),hK]
    dsimp only
    rw [if_neg h8,List.append_nil]
   have j:m.kd=8→Qxk r.1 n.2.2.2.2.1 m=[]→Qlc n ((r.1,r.2,()),())=K n.2.2.2.2.1:=by
    intro h8 hs
    have hc:=Zqg (Ext.refl n.2.2.2.2.1)
    have hd:=dn _ (Ext.refl _) h.feed
    unfold Qlc
    dsimp only [g3,g4,g5,g6,g7,g8,g9,g10,g11,h3,h4,h5,h6,h9,h12,u0,u1,u2,u3,u4,u5,u6,u7,u8,u9,u10,u11,e1,e2,e3,e5,e9,e12]
    rw [ct hc.1,hc.2,hd.1]
    dsimp only [Option.bind_some]
    rw [cbp (by omega),hK]
    dsimp only
    rw [if_pos h8,hs,List.append_nil]
   have J3:Qm8 ((m,true,()),()) ((r.1,r.2,()),()) n=K n.2.2.2.2.1:=by
    unfold Qm8
    dsimp only [Option.bind_some]
    rw [show m.1=m.kd from rfl,ceq]
    by_cases h8:m.kd=8
    ·rw [if_pos h8,show h12 r.1=r.1.2.2.2.2.2.2.2.2.2.2.2.2 from rfl,Zbm _ _ (by have:=hT.kids.len;omega),show m.2.1=m.fr from rfl]
     dsimp only [Option.bind_some]
     have eM:Qxk r.1 n.2.2.2.2.1 m=(match Qwx r.1.2.2.2.2.2.2.2.2.2.2.2.2 m.fr with | some k=>if k.2.1=m.inc then (Qoz n.2.2.2.2.1 m.lo m.hi).1.map (itM r.1 m.fr)++(Qoz n.2.2.2.2.1 m.lo m.hi).2.map (ntM r.1 m.fr) else [] | none=>[]):=rfl
     cases hf:Qwx r.1.2.2.2.2.2.2.2.2.2.2.2.2 m.fr with
     | none=>
      dsimp only
      rw [cond_false]
      exact j h8 (by rw [eM,hf])
     | some k=>
      rw [hf] at eM
      dsimp only at eM ⊢
      rw [cond_true,show g3 m=m.inc from rfl,ceq]
      by_cases o:k.2.1=m.inc
      ·rw [if_pos o] at eM ⊢
       have hc:=Zqg (Ext.refl n.2.2.2.2.1)
       have hd:=dn _ (Ext.refl _) h.feed
       rw [show g4 n=n.2.2.2.2.1 from rfl,Zrq r.1 h.feed ⟨p h8,w.2⟩ v.2,← eM]
       dsimp only [Option.bind_some]
       rw [cbp (by omega)]
       dsimp only [g3,g4,g5,g6,g7,g8,g9,g10,g11,h3,h4,h5,h6,h9,h12,u0,u1,u2,u3,u4,u5,u6,u7,u8,u9,u10,u11,e1,e2,e3,e5,e9,e12]
       rw [ct hc.1,hc.2,hd.1]
       dsimp only [Option.bind_some]
       rw [cbp (by rw [List.length_append];omega),hK]
       dsimp only
       rw [if_pos h8]
      ·rw [if_neg o] at eM ⊢
       exact j h8 eM
    ·rw [if_neg h8];exact J2 h8
   have J4:Qq6 ((m,true,()),()) ((r.1,r.2,()),()) n=if m.kd=9∧r.1.2.2.2.2.1=m.inc then K (Z40 n.2.2.2.2.1 m.lo m.hi) else K n.2.2.2.2.1:=by
    unfold Qq6
    rw [J3]
    dsimp only
    rw [show m.1=m.kd from rfl,show g4 r.1=r.1.2.2.2.2.1 from rfl,show g3 m=m.inc from rfl,show g4 n=n.2.2.2.2.1 from rfl,show g7 m=m.lo from rfl,show g8 m=m.hi from rfl,Zll h.feed,ceq,ceq]
    dsimp only [Option.bind_some]
    by_cases a:m.kd=9
    ·rw [if_pos a]
     by_cases c:r.1.2.2.2.2.1=m.inc
     ·rw [if_pos c,if_pos ⟨a,c⟩];exact J1 _ (Zqi _ _ _) (Zhy h.feed _ _).1 (by omega)
     ·rw [if_neg c,if_neg (fun e=>c e.2)]
    ·rw [if_neg a,if_neg (fun e=>a e.1)]
   have J5:Qpv ((m,true,()),()) ((r.1,r.2,()),()) n=if m.kd=7∧r.1.2.2.2.2.1=m.inc then K (Z60 n.2.2.2.2.1 (m.lo,m.tx)) else if m.kd=9∧r.1.2.2.2.2.1=m.inc then K (Z40 n.2.2.2.2.1 m.lo m.hi) else K n.2.2.2.2.1:=by
    unfold Qpv
    rw [J4]
    dsimp only
    rw [show m.1=m.kd from rfl,show g4 r.1=r.1.2.2.2.2.1 from rfl,show g3 m=m.inc from rfl,show g4 n=n.2.2.2.2.1 from rfl,show g7 m=m.lo from rfl,show h9 m=m.tx from rfl,Zlu h.feed _ (by show m.tx.size≤_;omega),ceq,ceq]
    dsimp only [Option.bind_some]
    by_cases a:m.kd=7
    ·rw [if_pos a]
     by_cases c:r.1.2.2.2.2.1=m.inc
     ·rw [if_pos c,if_pos (show m.kd=7∧r.1.2.2.2.2.1=m.inc from ⟨a,c⟩)];exact J1 _ (Zq2 _ _) (Zja h.feed _).1 (by omega)
     ·rw [if_neg c,if_neg (show ¬ (m.kd=7∧r.1.2.2.2.2.1=m.inc) from fun e=>c e.2)]
    ·rw [if_neg a,if_neg (show ¬ (m.kd=7∧r.1.2.2.2.2.1=m.inc) from fun e=>a e.1)]
   have J6:Qo2 ((m,true,()),()) ((r.1,r.2,()),()) n=if m.kd=5∧r.1.2.2.2.2.1=m.inc then K (Ql5 n.2.2.2.2.1 m.hi) else if m.kd=7∧r.1.2.2.2.2.1=m.inc then K (Z60 n.2.2.2.2.1 (m.lo,m.tx)) else if m.kd=9∧r.1.2.2.2.2.1=m.inc then K (Z40 n.2.2.2.2.1 m.lo m.hi) else K n.2.2.2.2.1:=by
    unfold Qo2
    rw [J5]
    dsimp only
    rw [show m.1=m.kd from rfl,show g4 r.1=r.1.2.2.2.2.1 from rfl,show g3 m=m.inc from rfl,show g4 n=n.2.2.2.2.1 from rfl,show g8 m=m.hi from rfl,Qyy,ceq,ceq]
    dsimp only [Option.bind_some]
    by_cases a:m.kd=5
    ·rw [if_pos a]
     by_cases c:r.1.2.2.2.2.1=m.inc
     ·rw [if_pos c,if_pos (show m.kd=5∧r.1.2.2.2.2.1=m.inc from ⟨a,c⟩)];exact J1 _ (Qzc _ _) (Qv9 h.feed _) (by omega)
     ·rw [if_neg c,if_neg (show ¬ (m.kd=5∧r.1.2.2.2.2.1=m.inc) from fun e=>c e.2)]
    ·rw [if_neg a,if_neg (show ¬ (m.kd=5∧r.1.2.2.2.2.1=m.inc) from fun e=>a e.1)]
   have s:Qpd ((m,true,()),()) ((r.1,r.2,()),()) n=K n.2.2.2.2.1:=by
    unfold Qpd Qtl Qtv Qu2
    simp only [J3,X1b]
   have l:(some ((((n.1,n.2.1,n.2.2.1,r.1,Qwj r.1 n.2.2.2.2.1 m n.2.2.2.1.2.2.2.1,n.2.2.2.2.2),(r.2++(if m.kd=8 then Qxk r.1 n.2.2.2.2.1 m else []))++dnM r.1 (Zbt n.2.2.2.2.1 (Qwj r.1 n.2.2.2.2.1 m n.2.2.2.1.2.2.2.1)),())),()):Option (((Z27) × (List Qka) × Unit) × Unit))=K (Qwj r.1 n.2.2.2.2.1 m n.2.2.2.1.2.2.2.1):=by rw [hK]
   refine Eq.trans ?_ l.symm
   rw [J6,s,show g3 r.1=r.1.2.2.2.1 from rfl,show m.2.1=m.fr from rfl,show m.1=m.kd from rfl,show g4 r.1=r.1.2.2.2.2.1 from rfl,show g3 m=m.inc from rfl,show g3 n.2.2.2.1=n.2.2.2.1.2.2.2.1 from rfl,show g4 n=n.2.2.2.2.1 from rfl,show g7 m=m.lo from rfl,Zl7 _ _ (by omega)]
   dsimp only [Option.bind_some]
   rw [Qor (x:=m.lo - 1) (by omega) (by omega),Qyy,Z8q,ceq,ceq,ceq,Z8q]
   dsimp only [Option.bind_some]
   have eF:Qwj r.1 n.2.2.2.2.1 m n.2.2.2.1.2.2.2.1=if ¬ (m.fr=r.1.2.2.2.1∧m.inc=r.1.2.2.2.2.1) then n.2.2.2.2.1 else if m.kd=2∧n.2.2.2.1.2.2.2.1≠m.fr then Ql5 (Z9x n.2.2.2.2.1 m.lo) (m.lo - 1) else if m.kd=5∧n.2.2.2.1.2.2.2.1=m.fr then Ql5 n.2.2.2.2.1 m.hi else if m.kd=7 then Z60 n.2.2.2.2.1 (m.lo,m.tx) else if m.kd=9 then Z40 n.2.2.2.2.1 m.lo m.hi else n.2.2.2.2.1:=by
    obtain ⟨kd,fr,to,mi,me,ag,pa,lo,hi,tx⟩:=m
    rw [Qwj]
    rfl
   rw [eF]
   by_cases c1:r.1.2.2.2.1=0
   ·rw [if_pos c1,if_pos (show ¬ (m.fr=r.1.2.2.2.1∧m.inc=r.1.2.2.2.2.1) from fun e=>by omega)]
   rw [if_neg c1]
   by_cases c2:r.1.2.2.2.1=m.fr
   ·rw [if_pos c2]
    by_cases c3:r.1.2.2.2.2.1=m.inc
    ·rw [if_neg (show ¬ ¬ (m.fr=r.1.2.2.2.1∧m.inc=r.1.2.2.2.2.1) from fun e=>e ⟨c2.symm,c3.symm⟩),if_pos c3]
     have z:m.kd=5→n.2.2.2.1.2.2.2.1=m.fr:=fun e=>by
      rcases y e with q | q
      ·exact q.symm.trans c2
      ·exact absurd q c1
     by_cases k2:m.kd=2
     ·rw [if_pos k2]
      by_cases d:n.2.2.2.1.2.2.2.1=m.fr
      ·rw [if_pos d,if_neg (show ¬ (m.kd=5∧r.1.2.2.2.2.1=m.inc) by omega),if_neg (show ¬ (m.kd=7∧r.1.2.2.2.2.1=m.inc) by omega),if_neg (show ¬ (m.kd=9∧r.1.2.2.2.2.1=m.inc) by omega),if_neg (show ¬ (m.kd=2∧n.2.2.2.1.2.2.2.1≠m.fr) from fun e=>e.2 d),if_neg (show ¬ (m.kd=5∧n.2.2.2.1.2.2.2.1=m.fr) by omega),if_neg (show ¬ m.kd=7 by omega),if_neg (show ¬ m.kd=9 by omega)]
      ·rw [if_neg d,if_pos (show m.kd=2∧n.2.2.2.1.2.2.2.1≠m.fr from ⟨k2,d⟩)]
       exact J1 _ ((Zpv _ _).trans (Qzc _ _)) (Qv9 (Zix h.feed _) _) (by omega)
     ·rw [if_neg k2,if_neg (show ¬ (m.kd=2∧n.2.2.2.1.2.2.2.1≠m.fr) from fun e=>k2 e.1)]
      by_cases k5:m.kd=5
      ·rw [if_pos (show m.kd=5∧r.1.2.2.2.2.1=m.inc from ⟨k5,c3⟩),if_pos (show m.kd=5∧n.2.2.2.1.2.2.2.1=m.fr from ⟨k5,z k5⟩)]
      ·rw [if_neg (show ¬ (m.kd=5∧r.1.2.2.2.2.1=m.inc) from fun e=>k5 e.1),if_neg (show ¬ (m.kd=5∧n.2.2.2.1.2.2.2.1=m.fr) from fun e=>k5 e.1)]
       by_cases k7:m.kd=7
       ·rw [if_pos (show m.kd=7∧r.1.2.2.2.2.1=m.inc from ⟨k7,c3⟩),if_pos k7]
       ·rw [if_neg (show ¬ (m.kd=7∧r.1.2.2.2.2.1=m.inc) from fun e=>k7 e.1),if_neg k7]
        by_cases k9:m.kd=9
        ·rw [if_pos (show m.kd=9∧r.1.2.2.2.2.1=m.inc from ⟨k9,c3⟩),if_pos k9]
        ·rw [if_neg (show ¬ (m.kd=9∧r.1.2.2.2.2.1=m.inc) from fun e=>k9 e.1),if_neg k9]
    ·rw [if_pos (show ¬ (m.fr=r.1.2.2.2.1∧m.inc=r.1.2.2.2.2.1) from fun e=>c3 e.2.symm),if_neg (show ¬ (m.kd=5∧r.1.2.2.2.2.1=m.inc) from fun e=>c3 e.2),if_neg (show ¬ (m.kd=7∧r.1.2.2.2.2.1=m.inc) from fun e=>c3 e.2),if_neg (show ¬ (m.kd=9∧r.1.2.2.2.2.1=m.inc) from fun e=>c3 e.2),if_neg c3]
     split<;>rfl
   ·rw [if_neg c2,if_pos (show ¬ (m.fr=r.1.2.2.2.1∧m.inc=r.1.2.2.2.2.1) from fun e=>c2 e.1.symm)]
  ·rw [if_neg i,Ztu (show m.2.2.1≠(g3 n).1 from i)]
   exact fin
theorem Zvn (n:Nat) (y1:Bool) (y2:Int) (y3:ByteArray) (s1 s2 s3 s4 s5 s6:Int) (s7:List Int) (s8 s9 d e f:Int) (b:List Kid) (f1 f2:Int) (f3 f4:List Qo4) (f5:List Evt) (f6 f7:Int) (yb:Int) (z1:Int) (z2:ByteArray) (z3 z4 z5 z6 z7 z8 z9 k o p r s t u v w:Int) (x:List Int) (y:List Kid) (z z22:List Qo4) (A:List Evt) (t1 t2 t3 t4 t5 t6:Int) (t7:List Int) (t8 t9 g h j:Int) (kids:List Kid) (l:List Qka) (hf:0≤f1∧f1≤1000001) (hl:l.length≤1000000):∀ (c m i:Nat) (a:List Qka),i+c=l.length→c<m→a.length≤i →
  Qll n m (i:Int) y1 y2 y3 s1 s2 s3 s4 s5 s6 s7 s8 s9 d e f b f1 f2 f3 f4 f5 f6 f7 yb z1 z2 z3 z4 z5 z6 z7 z8 z9 k o p r s t u v w x y z z22 A t1 t2 t3 t4 t5 t6 t7 t8 t9 g h j kids l a=Ql4 (Qll n 0) (l.length:Int) y1 y2 y3 s1 s2 s3 s4 s5 s6 s7 s8 s9 d e f b f1 f2 f3 f4 f5 f6 f7 yb z1 z2 z3 z4 z5 z6 z7 z8 z9 k o p r s t u v w x y z z22 A t1 t2 t3 t4 t5 t6 t7 t8 t9 g h j kids l (a++(l.drop i).map (hiM (max 0 (f1 - 1))))
 | c,0,i,a,_,hm,_=>by omega
 | 0,m+1,i,a,hc,hm,ha=>by
  have hi:i=l.length:=by omega
  subst hi
  rw [List.drop_eq_nil_of_le (by omega),List.map_nil,List.append_nil]
  show Ql4 (Qll n m) (l.length:Int) y1 y2 y3 s1 s2 s3 s4 s5 s6 s7 s8 s9 d e f b f1 f2 f3 f4 f5 f6 f7 yb z1 z2 z3 z4 z5 z6 z7 z8 z9 k o p r s t u v w x y z z22 A t1 t2 t3 t4 t5 t6 t7 t8 t9 g h j kids l a=_
  unfold Ql4
  rw [cdn (show ¬ ((l.length:Int)<(l.length:Int)) by omega),cdn (show ¬ ((l.length:Int)<(l.length:Int)) by omega)]
 | c+1,m+1,i,a,hc,hm,ha=>by
  have hi:i<l.length:=by omega
  have hI:(ix (i:Int) (l.length:Int))=true:=idx (by omega)
  have hw:=Qoq (i:=i) (by omega)
  have hb:Nat.ble (a.length+1) 1073741824=true:=Nat.ble_eq_true_of_le (by omega)
  have ih:=fun q=>Zvn n y1 y2 y3 s1 s2 s3 s4 s5 s6 s7 s8 s9 d e f b f1 f2 f3 f4 f5 f6 f7 yb z1 z2 z3 z4 z5 z6 z7 z8 z9 k o p r s t u v w x y z z22 A t1 t2 t3 t4 t5 t6 t7 t8 t9 g h j kids l hf hl c m (i+1) (a++[q]) (by omega) (by omega) (by rw [List.length_append,List.length_singleton];omega)
  have hx:=Zzt (max 0 (f1 - 1)) l[i]
  show Ql4 (Qll n m) (i:Int) y1 y2 y3 s1 s2 s3 s4 s5 s6 s7 s8 s9 d e f b f1 f2 f3 f4 f5 f6 f7 yb z1 z2 z3 z4 z5 z6 z7 z8 z9 k o p r s t u v w x y z z22 A t1 t2 t3 t4 t5 t6 t7 t8 t9 g h j kids l a=_
  rw [Ql4]
  rw [cdp (show (i:Int)<(l.length:Int) by omega)]
  simp only [hI,cond_true,Qkb,Qkq hi,hw,hb,X1l f1 (by omega)]
  rw [List.drop_eq_getElem_cons hi,List.map_cons]
  by_cases k5:l[i].1=5
  ·rw [Z65 k5]
   rw [if_pos k5] at hx
   refine Eq.trans (ih _) ?_
   rw [List.append_assoc,List.singleton_append,hx]
  ·rw [Z3n k5]
   rw [if_neg k5] at hx
   refine Eq.trans (ih l[i]) ?_
   rw [List.append_assoc,List.singleton_append,hx]
theorem Zt8 {N:Int} {n:Z27} (h:NOk N n) (hN:N+1≤562949953421312):Qxh n=some (((Zjd n).1,(Zjd n).2,()),()):=by
 have key:∀ q m,100<m→Qro (Qll q m) n=some (((Zjd n).1,(Zjd n).2,()),()):=by
  intro q m hm
  have hf:=h.feed
  have k:=hf.next
  have hT:=Zay h.tie hN
  have d:=Zn2 h.tie hN
  have b:=hT.now
  unfold Qro
  rw [h.on,nt,cond_false,show g3 n=n.2.2.2.1 from rfl,Zit h.tie hN]
  dsimp only [Option.bind_some]
  unfold Zjd
  generalize hr:Qxr n.2.2.2.1=r at *
  refine Eq.trans (Zvn q _ _ _ _ _ _ _ _ _ _ _ _ _ _ _ _ n.2.2.2.2.1.1 _ _ _ _ _ _ _ _ _ _ _ _ _ _ _ _ _ _ _ _ _ _ _ _ _ _ _ _ _ _ _ _ _ _ _ _ _ _ _ _ _ _ _ r.2 (by omega) (by omega) r.2.length m 0 [] (by omega) (by omega) (Nat.le_refl _)) ?_
  rw [List.drop_zero,List.nil_append]
  rw [Ql4,cdn (show ¬ ((r.2.length:Int)<(r.2.length:Int)) by omega),ceq]
  by_cases hp:r.1.2.2.2.1=0
  ·rw [if_pos hp,if_pos hp,h.on]
  ·rw [if_neg hp,if_neg hp]
   have e:=Zig hf b.1 (show r.1.2.2.1≤1125899906842624 by omega)
   have a:=Zsg n.2.2.2.2.1 r.1.2.2.1
   rw [show Qs6 (n.2.2.2.2.1.1,n.2.2.2.2.1.2.1,n.2.2.2.2.1.2.2.1,n.2.2.2.2.1.2.2.2.1,n.2.2.2.2.1.2.2.2.2.1,n.2.2.2.2.1.2.2.2.2.2.1,n.2.2.2.2.1.2.2.2.2.2.2) r.1.2.2.1=_ from Zns hf r.1.2.2.1 ⟨b.1,by omega⟩]
   dsimp only [Option.bind_some]
   have g:=e.1.sm.log
   have j:(Zbt n.2.2.2.2.1 (Z6r n.2.2.2.2.1 r.1.2.2.1).1).length≤10000000:=by unfold Zbt;rw [List.length_drop];omega
   have c:=Zgv r.1 hT.kids.len a.new.2 (by omega)
   have f:=Zk8 r.1 hT.kids.len (Zbt n.2.2.2.2.1 (Z6r n.2.2.2.2.1 r.1.2.2.1).1)
   have i:(r.2.map (hiM (max 0 (n.2.2.2.2.1.1 - 1)))).length≤10:=by rw [List.length_map];exact d
   have hc:=Zqg a
   cases hs:(Z6r n.2.2.2.2.1 r.1.2.2.1).2 with
   | none=>
    dsimp only [g3,g4,g5,g6,g7,g8,g9,g10,g11,h3,h4,h5,h6,h9,h12,u0,u1,u2,u3,u4,u5,u6,u7,u8,u9,u10,u11,e1,e2,e3,e5,e9,e12]
    rw [cond_false,ct hc.1,hc.2,show Qlp _ _=_ from c]
    dsimp only [Option.bind_some]
    rw [cbp (by omega),X0q,List.append_nil,h.on]
   | some s=>
    unfold Qk9
    dsimp only [g3,g4,g5,g6,g7,g8,g9,g10,g11,h3,h4,h5,h6,h9,h12,u0,u1,u2,u3,u4,u5,u6,u7,u8,u9,u10,u11,e1,e2,e3,e5,e9,e12]
    rw [cond_true]
    dsimp only [Option.bind_some]
    rw [cbp (by omega),ct hc.1,hc.2,show Qlp _ _=_ from c]
    dsimp only [Option.bind_some]
    rw [cbp (by rw [List.length_append,List.length_singleton];omega),h.on]
    rfl
 exact key 1099511627776 1099511627776 (by decide)
theorem Zv0 {N:Int} {n:Z27} (h:NOk N n) (s:ByteArray) (hs:s.size≤1000000):Z0o n s=some (((Zwx n s).1,(Zwx n s).2.1,(Zwx n s).2.2,()),()):=by
 unfold Z0o
 rw [show g4 n=n.2.2.2.2.1 from rfl,Zw1 h.feed s hs]
 dsimp only [Option.bind_some]
 rw [h.on,nt,cond_false,Z8q,show (g3 n).1=n.2.2.2.1.1 from rfl]
 unfold Zwx
 by_cases h1:n.2.2.2.1.1=1
 ·rw [if_pos h1,if_neg (fun e=>e h1)]
  cases hg:Zyc n.2.2.2.2.1 s with
  | none=>rfl
  | some g=>
   have a:=Zvv hg
   have b:=(Zrm h.feed (h.rootw h1) hg).1
   have c:=b.sm.log
   have hc:=Zqg a
   dsimp only [g3,g4,g5,g6,g7,g8,g9,g10,g11,h3,h4,h5,h6,h9,h12,u0,u1,u2,u3,u4,u5,u6,u7,u8,u9,u10,u11,e1,e2,e3,e5,e9,e12]
   rw [nt,cond_false,ct hc.1,hc.2,Zgv n.2.2.2.1 h.tie.kids.len a.new.2 (by unfold Zbt;rw [List.length_drop];omega)]
   rfl
 ·rw [if_neg h1,if_pos h1]
theorem Zj8 {N:Int} {n:Z27} (h:NOk N n):Qto n=some ((Zdk n,()),()):=by
 unfold Qto
 rw [h.on];rfl
theorem Zug {N:Int} {n:Z27} (h:NOk N n):Z0b n=some ((Zdk n,Zgh n.2.2.2.1,()),()):=by
 unfold Z0b
 rw [Zj8 h,show g3 n=n.2.2.2.1 from rfl,Zri h.tie,h.on]
 rfl
theorem Zt9 (n:Nat) (l:List Qka) (hp:∀ x∈l,x.pa.length≤1000) (hl:l.length≤1000000000):∀ (k m i:Nat),i+k=l.length→k<m→Qmk n m l l (i:Int)=some ((true,()),())
 | k,0,i,_,h=>by omega
 | 0,m+1,i,hk,h=>by
  show Qmm (Qmk n m) l l (i:Int)=_
  unfold Qmm
  rw [cdn (by omega)]
 | k+1,m+1,i,hk,h=>by
  have hi:i<l.length:=by omega
  have hI:(ix (i:Int) (l.length:Int))=true:=idx (by omega)
  have hx:=hp _ (List.getElem_mem hi)
  show Qmm (Qmk n m) l l (i:Int)=_
  unfold Qmm
  rw [cdp (by omega)]
  simp only [hI,cond_true,Qkb,Qkq hi]
  rw [show Qkd _ _=_ from Zo9 l[i] l[i] (by omega) (by omega),Zz2]
  dsimp only [Option.bind_some]
  rw [nt,cond_false,Qoq (by omega)]
  exact Zt9 n l hp hl k m (i+1) (by omega) (by omega)
theorem Zn4 (l:List Qka) (hp:∀ x∈l,x.pa.length≤1000) (hl:l.length≤1000000000):Qqf l l=some ((true,()),()):=by
 show Qrr (Qmk 1099511627776 1099511627776) l l=_
 unfold Qrr
 rw [Zqu rfl]
 exact Zt9 1099511627776 l hp hl l.length 1099511627776 0 (by omega) (by omega)
def Zx9 (l:List Qka):Prop:=(∀ x∈l,x.pa.length≤1000)∧l.length≤1000000000
theorem Zx9.nil:Zx9 []:=⟨fun x hx=>(by cases hx),by simp⟩
theorem Zyb (t:Tie) (m:Qka):∀ x∈(Qyq t m).2,x.pa.length≤10:=by
 obtain ⟨id,inc,now,par,pc,gd,pt,ep,bn,asked,til,sp,kids⟩:=t
 obtain ⟨kd,fr,to,mi,me,ag,pa,l,hi,tx⟩:=m
 rw [Qyq]
 repeat' split
 all_goals first
  | (intro x hx;cases hx;done)
  | (intro x hx;rcases List.mem_singleton.1 hx with rfl;exact Nat.zero_le _)
theorem Zvf (t:Tie) (h:t.2.2.2.2.2.2.1.length≤10) (m:Qka) (lo:Int):∀ x∈(Z5o t m lo).2,x.pa.length≤10:=by
 obtain ⟨id,inc,now,par,pc,gd,pt,ep,bn,asked,til,sp,kids⟩:=t
 obtain ⟨kd,fr,to,mi,me,ag,pa,l,hi,tx⟩:=m
 rw [Z5o]
 repeat' split
 all_goals first
  | exact Zyb _ _
  | (intro x hx;cases hx;done)
  | (intro x hx;rcases List.mem_singleton.1 hx with rfl;exact Nat.zero_le _)
  | (intro x hx;rcases List.mem_singleton.1 hx with rfl;exact h)
theorem Zx4 (t:Tie) (h:t.2.2.2.2.2.2.1.length≤10) (m:Qka) (lo:Int):∀ x∈(Qt3 t m lo).2,x.pa.length≤10:=by
 obtain ⟨id,inc,now,par,pc,gd,pt,ep,bn,asked,til,sp,kids⟩:=t
 obtain ⟨kd,fr,to,mi,me,ag,pa,l,hi,tx⟩:=m
 rw [Qt3]
 split
 ·intro x hx;cases hx
 ·split
  ·exact Zvf (Zus (id,inc,now,par,pc,gd,pt,ep,bn,asked,til,sp,kids) 0) (Nat.zero_le _) _ _
  ·exact Zvf _ h _ _
theorem Zvh (t:Tie):∀ (l:List Evt),∀ x∈dnM t l,x.pa.length≤10
 | [],x,hx=>by cases hx
 | e::r,x,hx=>by
  rcases List.mem_append.1 (show x∈dnK t e _++dnM t r from hx) with h | h
  ·obtain ⟨k,_,rfl⟩:=List.mem_map.1 (show x∈List.map (Zov t e) _ from h)
   unfold Zov
   split<;>exact Nat.zero_le _
  ·exact Zvh t r x h
theorem Zwr (t:Tie) (f:Qo3) (m:Qka):∀ x∈Qxk t f m,x.pa.length≤10:=by
 unfold Qxk
 intro x hx
 split at hx
 ·split at hx
  ·rcases List.mem_append.1 hx with h | h
   ·obtain ⟨_,_,rfl⟩:=List.mem_map.1 h;exact Nat.zero_le _
   ·obtain ⟨_,_,rfl⟩:=List.mem_map.1 h;exact Nat.zero_le _
  ·cases hx
 ·cases hx
theorem Zui {f g:Qo3} (hg:FOk g) (t:Tie) (hk:t.2.2.2.2.2.2.2.2.2.2.2.2.length≤8):(dnM t (Zbt f g)).length≤80000000:=by
 have:=Zk8 t hk (Zbt f g)
 have hl:=hg.sm.log
 have:(Zbt f g).length≤10000000:=by unfold Zbt;rw [List.length_drop];omega
 omega
theorem Zy1 {N:Int} {t:Tie} (h:TOk N t):Zx9 (Zgh t):=by
 have hk:=h.kids.len
 unfold Zgh
 refine ⟨fun x hx=>?_,?_⟩
 ·rcases List.mem_append.1 hx with h | h
  ·split at h
   ·rw [List.mem_singleton.1 h];exact Nat.zero_le _
   ·cases h
  ·obtain ⟨_,_,rfl⟩:=List.mem_map.1 h;exact Nat.zero_le _
 ·rw [List.length_append,List.length_map]
  have:(if t.2.2.2.1≠0 then [Zwg t 6 t.2.2.2.1] else []).length≤1:=by split<;>simp
  omega
theorem X0v (h:Int) (m:Qka):(hiM h m).pa=m.pa:=by
 obtain ⟨kd,fr,to,mi,me,ag,pa,lo,hi,tx⟩:=m
 rw [hiM]
 split<;>rfl
theorem Zzl (t:Tie):∀ x∈(Qzq t).2,x.pa.length≤10:=by
 unfold Qzq
 split
 ·intro x hx;cases hx
 ·generalize Zcj t=u
  obtain ⟨id,inc,now,par,pc,gd,pt,ep,bn,asked,til,sp,kids⟩:=u
  rw [Zs1]
  split
  ·intro x hx;cases hx
  ·split
   ·intro x hx;cases hx
   ·intro x hx
    rw [List.mem_singleton.1 hx];exact Nat.zero_le _
theorem Zz8 {N:Int} {t:Tie} (h:TOk N t) (hN:N+1≤562949953421312):∀ x∈(Qxr t).2,x.pa.length≤10:=by
 have hp:=(Zay h hN).pt
 intro x hx
 rcases List.mem_append.1 (show x∈(Qzq t).2++Zju (Qzq t).1 from hx) with q | q
 ·exact Zzl t x q
 ·unfold Zju at q
  split at q
  ·rcases List.mem_append.1 q with q | q
   ·split at q
    ·rw [List.mem_singleton.1 q];exact Nat.zero_le _
    ·cases q
   ·split at q
    ·obtain ⟨_,_,rfl⟩:=List.mem_map.1 q;exact hp
    ·cases q
  ·cases q
theorem Zzh {N:Int} {n:Z27} (h:NOk N n) (hN:N+1≤562949953421312):Zx9 (Zjd n).2:=by
 have hT:=Zay h.tie hN
 have c:=Zn2 h.tie hN
 have b:=Zz8 h.tie hN
 have a:=hT.now
 have hA:∀ x∈(Qxr n.2.2.2.1).2.map (hiM (max 0 (n.2.2.2.2.1.1 - 1))),x.pa.length≤1000:=by
  intro x hx
  obtain ⟨y,hy,rfl⟩:=List.mem_map.1 hx
  rw [X0v];have:=b y hy;omega
 unfold Zjd
 split
 ·exact ⟨hA,by rw [List.length_map];omega⟩
 ·have hn:=Zyu (Qxr n.2.2.2.1).1 (Z6r n.2.2.2.2.1 (Qxr n.2.2.2.1).1.2.2.1).2
  have hd:=Zui (f:=n.2.2.2.2.1) (Zig h.feed a.1 (show (Qxr n.2.2.2.1).1.2.2.1≤1125899906842624 by omega)).1 (Qxr n.2.2.2.1).1 hT.kids.len
  refine ⟨fun x hx=>?_,by rw [List.length_append,List.length_append,List.length_map];omega⟩
  rcases List.mem_append.1 hx with hx | hx
  ·rcases List.mem_append.1 hx with hx | hx
   ·exact hA x hx
   ·cases hq:(Z6r n.2.2.2.2.1 (Qxr n.2.2.2.1).1.2.2.1).2 with
    | none=>rw [hq] at hx;cases hx
    | some s=>rw [hq] at hx;rw [List.mem_singleton.1 hx];exact Nat.zero_le _
  ·have:=Zvh _ _ x hx;omega
theorem X0f {N:Int} {n:Z27} (h:NOk N n) (s:ByteArray):Zx9 (Zwx n s).2.1:=by
 unfold Zwx
 split
 ·exact Zx9.nil
 ·rename_i h1
  split
  ·rename_i g hg
   have a:=(Zrm h.feed (h.rootw (Decidable.not_not.1 h1)) hg).1
   have hd:=Zui (f:=n.2.2.2.2.1) a n.2.2.2.1 h.tie.kids.len
   exact ⟨fun x hx=>by have:=Zvh _ _ x hx;omega,by show (dnM _ _).length≤_;omega⟩
  ·exact Zx9.nil
theorem Zxb {N:Int} {n:Z27} (h:NOk N n) (hN:N+1≤562949953421312) (b:List Int):Zx9 (Zg2 n b).2:=by
 unfold Zg2
 split
 ·rename_i m hm
  split
  ·have c:=(Z3w (Z9n hm).1).msm
   have hT:=Zda h.tie c (max n.2.2.2.2.1.1 1) hN
   have g:=Zk9 n.2.2.2.1 m (max n.2.2.2.2.1.1 1)
   have d:=Zx4 n.2.2.2.1 h.tie.pt m (max n.2.2.2.2.1.1 1)
   unfold Zjm
   dsimp only
   generalize Qt3 n.2.2.2.1 m (max n.2.2.2.2.1.1 1)=r at *
   have a:=Zir (t:=r.1) h.feed (m:=m) n.2.2.2.1.2.2.2.1
   have hd:=Zui (f:=n.2.2.2.2.1) a r.1 hT.kids.len
   have e:=Zh8 r.1 n.2.2.2.2.1 m
   have hS:(if m.kd=8 then Qxk r.1 n.2.2.2.2.1 m else []).length≤16:=by
    split
    ·exact e
    ·exact Nat.zero_le _
   refine ⟨fun x hx=>?_,by rw [List.length_append,List.length_append];omega⟩
   rcases List.mem_append.1 hx with hx | hx
   ·rcases List.mem_append.1 hx with hx | hx
    ·have:=d x hx;omega
    ·split at hx
     ·have:=Zwr _ _ _ x hx;omega
     ·cases hx
   ·have:=Zvh _ _ x hx;omega
  ·exact Zx9.nil
 ·exact Zx9.nil
theorem Zzs (x:Z27) (l:List Qka) (hx:NSm x) (hl:Zx9 l) (L:Qko) (b:List Int) (id i:Int) (r:(Int × Unit) × (Z4n × Unit)) :
  Qn8 ((x,l,()),()) ((x,l,()),()) L b id i r=L b id (wJ (i+1)) x.1 x.2.1 x.2.2.1 x.2.2.2.1.1 x.2.2.2.1.2.1 x.2.2.2.1.2.2.1 x.2.2.2.1.2.2.2.1 x.2.2.2.1.2.2.2.2.1 x.2.2.2.1.2.2.2.2.2.1 x.2.2.2.1.2.2.2.2.2.2.1 x.2.2.2.1.2.2.2.2.2.2.2.1 x.2.2.2.1.2.2.2.2.2.2.2.2.1 x.2.2.2.1.2.2.2.2.2.2.2.2.2.1 x.2.2.2.1.2.2.2.2.2.2.2.2.2.2.1 x.2.2.2.1.2.2.2.2.2.2.2.2.2.2.2.1 x.2.2.2.1.2.2.2.2.2.2.2.2.2.2.2.2 x.2.2.2.2.1.1 x.2.2.2.2.1.2.1 x.2.2.2.2.1.2.2.1 x.2.2.2.2.1.2.2.2.1 x.2.2.2.2.1.2.2.2.2.1 x.2.2.2.2.1.2.2.2.2.2.1 x.2.2.2.2.1.2.2.2.2.2.2 x.2.2.2.2.2 x.1 x.2.1 x.2.2.1 x.2.2.2.1.1 x.2.2.2.1.2.1 x.2.2.2.1.2.2.1 x.2.2.2.1.2.2.2.1 x.2.2.2.1.2.2.2.2.1 x.2.2.2.1.2.2.2.2.2.1 x.2.2.2.1.2.2.2.2.2.2.1 x.2.2.2.1.2.2.2.2.2.2.2.1 x.2.2.2.1.2.2.2.2.2.2.2.2.1 x.2.2.2.1.2.2.2.2.2.2.2.2.2.1 x.2.2.2.1.2.2.2.2.2.2.2.2.2.2.1 x.2.2.2.1.2.2.2.2.2.2.2.2.2.2.2.1 x.2.2.2.1.2.2.2.2.2.2.2.2.2.2.2.2 x.2.2.2.2.1.1 x.2.2.2.2.1.2.1 x.2.2.2.2.1.2.2.1 x.2.2.2.2.1.2.2.2.1 x.2.2.2.2.1.2.2.2.2.1 x.2.2.2.2.1.2.2.2.2.2.1 x.2.2.2.2.1.2.2.2.2.2.2 x.2.2.2.2.2 r.2.1.1 r.2.1.2:=by
 unfold Qn8
 dsimp only
 rw [Zn4 l hl.1 hl.2]
 dsimp only [Option.bind_some]
 rw [nt,cond_false,Zj9 x hx]
 dsimp only [Option.bind_some]
 rw [nt,cond_false]
theorem Zzq {N:Int} (on:Bool) (inc:Int) (a:ByteArray) (t1 t2 t3 t4 t5 t6:Int) (t7:List Int) (t8 t9 b c d:Int) (kids:List Kid) (f1 f2:Int) (f3 f4:List Qo4) (f5:List Evt) (f6 f7:Int) (bd:Int) (h:NOk N (on,inc,a,(t1,t2,t3,t4,t5,t6,t7,t8,t9,b,c,d,kids),(f1,f2,f3,f4,f5,f6,f7),bd)):Qs1 on inc a t1 t2 t3 t4 t5 t6 t7 t8 t9 b c d kids f1 f2 f3 f4 f5 f6 f7 bd on inc a t1 t2 t3 t4 t5 t6 t7 t8 t9 b c d kids f1 f2 f3 f4 f5 f6 f7 bd=some ((true,()),()):=by
 have hl:=Zy1 h.tie
 unfold Qs1
 rw [X0i h,Zug h]
 dsimp only [Option.bind_some]
 rw [Zn4 _ hl.1 hl.2]
 dsimp only [Option.bind_some]
 rw [cond_true,Zj9 _ (Zpm _)]
 dsimp only [Option.bind_some]
 rw [cond_true,Zs4 h,Zj8 h]
 dsimp only [Option.bind_some]
 rw [Zj9 _ (Zpm _)]
 rfl
theorem X0u {N:Int} (hN:N+1≤562949953421312) (on:Bool) (inc:Int) (a:ByteArray) (t1 t2 t3 t4 t5 t6:Int) (t7:List Int) (t8 t9 d f g:Int) (kids:List Kid) (f1 f2:Int) (f3 f4:List Qo4) (f5:List Evt) (f6 f7:Int) (bd:Int) (h:NOk N (on,inc,a,(t1,t2,t3,t4,t5,t6,t7,t8,t9,d,f,g,kids),(f1,f2,f3,f4,f5,f6,f7),bd)) (L:Qko) (b:List Int) (hb:Qkf b∧b.length≤100000000) (id:Int) (i:Nat) (hi:i≤1000) (hL:∀ (s:List Int × Int) (x:Z27),Zce s→NOk (N+1) x→L b id ((i+1:Nat):Int) x.1 x.2.1 x.2.2.1 x.2.2.2.1.1 x.2.2.2.1.2.1 x.2.2.2.1.2.2.1 x.2.2.2.1.2.2.2.1 x.2.2.2.1.2.2.2.2.1 x.2.2.2.1.2.2.2.2.2.1 x.2.2.2.1.2.2.2.2.2.2.1 x.2.2.2.1.2.2.2.2.2.2.2.1 x.2.2.2.1.2.2.2.2.2.2.2.2.1 x.2.2.2.1.2.2.2.2.2.2.2.2.2.1 x.2.2.2.1.2.2.2.2.2.2.2.2.2.2.1 x.2.2.2.1.2.2.2.2.2.2.2.2.2.2.2.1 x.2.2.2.1.2.2.2.2.2.2.2.2.2.2.2.2 x.2.2.2.2.1.1 x.2.2.2.2.1.2.1 x.2.2.2.2.1.2.2.1 x.2.2.2.2.1.2.2.2.1 x.2.2.2.2.1.2.2.2.2.1 x.2.2.2.2.1.2.2.2.2.2.1 x.2.2.2.2.1.2.2.2.2.2.2 x.2.2.2.2.2 x.1 x.2.1 x.2.2.1 x.2.2.2.1.1 x.2.2.2.1.2.1 x.2.2.2.1.2.2.1 x.2.2.2.1.2.2.2.1 x.2.2.2.1.2.2.2.2.1 x.2.2.2.1.2.2.2.2.2.1 x.2.2.2.1.2.2.2.2.2.2.1 x.2.2.2.1.2.2.2.2.2.2.2.1 x.2.2.2.1.2.2.2.2.2.2.2.2.1 x.2.2.2.1.2.2.2.2.2.2.2.2.2.1 x.2.2.2.1.2.2.2.2.2.2.2.2.2.2.1 x.2.2.2.1.2.2.2.2.2.2.2.2.2.2.2.1 x.2.2.2.1.2.2.2.2.2.2.2.2.2.2.2.2 x.2.2.2.2.1.1 x.2.2.2.2.1.2.1 x.2.2.2.2.1.2.2.1 x.2.2.2.2.1.2.2.2.1 x.2.2.2.2.1.2.2.2.2.1 x.2.2.2.2.1.2.2.2.2.2.1 x.2.2.2.2.1.2.2.2.2.2.2 x.2.2.2.2.2 s.1 s.2=some ((true,()),()))
  (p:Int) (s:List Int × Int) (hs:Zce s) (c:List Int) (hc:Qkf c∧c.length≤100000000):Qlv ((p,()),(s,())) on inc a t1 t2 t3 t4 t5 t6 t7 t8 t9 d f g kids f1 f2 f3 f4 f5 f6 f7 bd b on inc a t1 t2 t3 t4 t5 t6 t7 t8 t9 d f g kids f1 f2 f3 f4 f5 f6 f7 bd L id (i:Int) ((c,()),())=some ((true,()),()):=by
 obtain ⟨q,s',e,hq,k⟩:=Qne hs 9 (by omega)
 unfold Qlv
 dsimp only
 rw [e]
 dsimp only [Option.bind_some]
 have key:∀ c:List Int,Qkf c∧c.length≤100000000→(Option.bind (Qx7 (on,inc,a,(t1,t2,t3,t4,t5,t6,t7,t8,t9,d,f,g,kids),(f1,f2,f3,f4,f5,f6,f7),bd) c) fun l=>Option.bind (Qnv (on,inc,a,(t1,t2,t3,t4,t5,t6,t7,t8,t9,d,f,g,kids),(f1,f2,f3,f4,f5,f6,f7),bd) c) fun m=>Qn8 l m L b id (i:Int) (((q:Int),()),(s',())))=some ((true,()),()):=by
  intro c hc
  rw [Zwc h hN hc.1 (by omega),Zp3 h hN hc.1 hc.2]
  dsimp only [Option.bind_some]
  have j:=Zxv h hN c
  rw [Zzs _ _ j.nsm (Zxb h hN c),Qoq (by omega)]
  exact hL s' _ k j
 rw [ceq]
 split
 ·exact key b hb
 ·exact key c hc
theorem X15:∀ p:Nat,p<3→(List.getD [(⟨#[97]⟩:ByteArray),(⟨#[98,99]⟩:ByteArray),(⟨#[116,104,105,114,116,101,101,110,32,98,121,116,101]⟩:ByteArray)] p zB).size≤1000000:=by
 intro p hp
 have:p=0∨p=1∨p=2:=by omega
 rcases this with rfl | rfl | rfl<;>decide
theorem Zvr (q0:Nat) (b:List Int) (hb:Qkf b∧b.length≤100000000) (id:Int) (q:1≤id∧id≤8):∀ (c m i:Nat) (s:List Int × Int) (n:Z27),i+c=12→c<m→Zce s→NOk (120+(i:Int)) n →
  Qkp q0 m b id (i:Int) n.1 n.2.1 n.2.2.1 n.2.2.2.1.1 n.2.2.2.1.2.1 n.2.2.2.1.2.2.1 n.2.2.2.1.2.2.2.1 n.2.2.2.1.2.2.2.2.1 n.2.2.2.1.2.2.2.2.2.1 n.2.2.2.1.2.2.2.2.2.2.1 n.2.2.2.1.2.2.2.2.2.2.2.1 n.2.2.2.1.2.2.2.2.2.2.2.2.1 n.2.2.2.1.2.2.2.2.2.2.2.2.2.1 n.2.2.2.1.2.2.2.2.2.2.2.2.2.2.1 n.2.2.2.1.2.2.2.2.2.2.2.2.2.2.2.1 n.2.2.2.1.2.2.2.2.2.2.2.2.2.2.2.2 n.2.2.2.2.1.1 n.2.2.2.2.1.2.1 n.2.2.2.2.1.2.2.1 n.2.2.2.2.1.2.2.2.1 n.2.2.2.2.1.2.2.2.2.1 n.2.2.2.2.1.2.2.2.2.2.1 n.2.2.2.2.1.2.2.2.2.2.2 n.2.2.2.2.2 n.1 n.2.1 n.2.2.1 n.2.2.2.1.1 n.2.2.2.1.2.1 n.2.2.2.1.2.2.1 n.2.2.2.1.2.2.2.1 n.2.2.2.1.2.2.2.2.1 n.2.2.2.1.2.2.2.2.2.1 n.2.2.2.1.2.2.2.2.2.2.1 n.2.2.2.1.2.2.2.2.2.2.2.1 n.2.2.2.1.2.2.2.2.2.2.2.2.1 n.2.2.2.1.2.2.2.2.2.2.2.2.2.1 n.2.2.2.1.2.2.2.2.2.2.2.2.2.2.1 n.2.2.2.1.2.2.2.2.2.2.2.2.2.2.2.1 n.2.2.2.1.2.2.2.2.2.2.2.2.2.2.2.2 n.2.2.2.2.1.1 n.2.2.2.2.1.2.1 n.2.2.2.2.1.2.2.1 n.2.2.2.2.1.2.2.2.1 n.2.2.2.2.1.2.2.2.2.1 n.2.2.2.2.1.2.2.2.2.2.1 n.2.2.2.2.1.2.2.2.2.2.2 n.2.2.2.2.2 s.1 s.2=some ((true,()),())
 | c,0,i,s,n,_,hm,_,_=>by omega
 | 0,m+1,i,s,n,hc,hm,hs,h=>by
  obtain ⟨on,inc,a,⟨t1,t2,t3,t4,t5,t6,t7,t8,t9,d,e,f,kids⟩,⟨f1,f2,f3,f4,f5,f6,f7⟩,bd⟩:=n
  show Qnb (Qkp q0 m) b id (i:Int) on inc a t1 t2 t3 t4 t5 t6 t7 t8 t9 d e f kids f1 f2 f3 f4 f5 f6 f7 bd on inc a t1 t2 t3 t4 t5 t6 t7 t8 t9 d e f kids f1 f2 f3 f4 f5 f6 f7 bd s.1 s.2=_
  unfold Qnb
  rw [cdn (show ¬ ((i:Int)<12) by omega)]
  exact Zzq on inc a t1 t2 t3 t4 t5 t6 t7 t8 t9 d e f kids f1 f2 f3 f4 f5 f6 f7 bd h
 | c+1,m+1,i,s,n,hc,hm,hs,h=>by
  obtain ⟨on,inc,a,⟨t1,t2,t3,t4,t5,t6,t7,t8,t9,d,e,f,kids⟩,⟨f1,f2,f3,f4,f5,f6,f7⟩,bd⟩:=n
  have hN:120+(i:Int)+1≤562949953421312:=by omega
  have ih:∀ (s:List Int × Int) (x:Z27),Zce s→NOk (120+(i:Int)+1) x→Qkp q0 m b id ((i+1:Nat):Int) x.1 x.2.1 x.2.2.1 x.2.2.2.1.1 x.2.2.2.1.2.1 x.2.2.2.1.2.2.1 x.2.2.2.1.2.2.2.1 x.2.2.2.1.2.2.2.2.1 x.2.2.2.1.2.2.2.2.2.1 x.2.2.2.1.2.2.2.2.2.2.1 x.2.2.2.1.2.2.2.2.2.2.2.1 x.2.2.2.1.2.2.2.2.2.2.2.2.1 x.2.2.2.1.2.2.2.2.2.2.2.2.2.1 x.2.2.2.1.2.2.2.2.2.2.2.2.2.2.1 x.2.2.2.1.2.2.2.2.2.2.2.2.2.2.2.1 x.2.2.2.1.2.2.2.2.2.2.2.2.2.2.2.2 x.2.2.2.2.1.1 x.2.2.2.2.1.2.1 x.2.2.2.2.1.2.2.1 x.2.2.2.2.1.2.2.2.1 x.2.2.2.2.1.2.2.2.2.1 x.2.2.2.2.1.2.2.2.2.2.1 x.2.2.2.2.1.2.2.2.2.2.2 x.2.2.2.2.2 x.1 x.2.1 x.2.2.1 x.2.2.2.1.1 x.2.2.2.1.2.1 x.2.2.2.1.2.2.1 x.2.2.2.1.2.2.2.1 x.2.2.2.1.2.2.2.2.1 x.2.2.2.1.2.2.2.2.2.1 x.2.2.2.1.2.2.2.2.2.2.1 x.2.2.2.1.2.2.2.2.2.2.2.1 x.2.2.2.1.2.2.2.2.2.2.2.2.1 x.2.2.2.1.2.2.2.2.2.2.2.2.2.1 x.2.2.2.1.2.2.2.2.2.2.2.2.2.2.1 x.2.2.2.1.2.2.2.2.2.2.2.2.2.2.2.1 x.2.2.2.1.2.2.2.2.2.2.2.2.2.2.2.2 x.2.2.2.2.1.1 x.2.2.2.2.1.2.1 x.2.2.2.2.1.2.2.1 x.2.2.2.2.1.2.2.2.1 x.2.2.2.2.1.2.2.2.2.1 x.2.2.2.2.1.2.2.2.2.2.1 x.2.2.2.2.1.2.2.2.2.2.2 x.2.2.2.2.2 s.1 s.2=some ((true,()),()):=fun s x hs hx=>
   Zvr q0 b hb id q c m (i+1) s x (by omega) (by omega) hs (by rw [show (120:Int)+((i+1:Nat):Int)=120+(i:Int)+1 by omega];exact hx)
  show Qnb (Qkp q0 m) b id (i:Int) on inc a t1 t2 t3 t4 t5 t6 t7 t8 t9 d e f kids f1 f2 f3 f4 f5 f6 f7 bd on inc a t1 t2 t3 t4 t5 t6 t7 t8 t9 d e f kids f1 f2 f3 f4 f5 f6 f7 bd s.1 s.2=_
  unfold Qnb
  rw [cdp (show (i:Int)<12 by omega),Zty]
  dsimp only [Option.bind_some]
  by_cases h0:(s.1.length:Int)≤s.2
  ·rw [decide_eq_true h0,nt,cond_false];exact Zzq on inc a t1 t2 t3 t4 t5 t6 t7 t8 t9 d e f kids f1 f2 f3 f4 f5 f6 f7 bd h
  rw [decide_eq_false h0,nf,cond_true]
  obtain ⟨p0,s1,e1,A,l⟩:=Qne hs 5 (by omega)
  rw [e1]
  dsimp only [Option.bind_some]
  rw [ceq]
  by_cases a0:(p0:Int)=0
  ·rw [if_pos a0,Zz4 h hN,Zt8 h hN]
   dsimp only [Option.bind_some]
   have g:=Zyw h hN
   rw [Zzs _ _ g.nsm (Zzh h hN),Qoq (by omega)]
   exact ih s1 _ l g
  rw [if_neg a0,ceq]
  by_cases a1:(p0:Int)=1
  ·rw [if_pos a1]
   obtain ⟨p1,s2,e2,v,o⟩:=Qne l 3 (by omega)
   rw [e2]
   dsimp only [Option.bind_some]
   have hz:=X15 p1 (by omega)
   rw [ct (bt (show 0≤(p1:Int) by omega) (show (p1:Int)<3 by omega)),ct (bt (show 0≤(p1:Int) by omega) (show (p1:Int)<3 by omega)),Qkb]
   generalize List.getD [(⟨#[97]⟩:ByteArray),(⟨#[98,99]⟩:ByteArray),(⟨#[116,104,105,114,116,101,101,110,32,98,121,116,101]⟩:ByteArray)] p1 zB=tx at hz
   rw [X0c h tx hz,Zv0 h tx hz]
   dsimp only [Option.bind_some]
   have g:=(X0e h tx).mono (show 120+(i:Int)≤120+(i:Int)+1 by omega) hN
   have t:=X0f h tx
   rw [beq_self_eq_true,nt,cond_false,Zn4 _ t.1 t.2]
   dsimp only [Option.bind_some]
   rw [nt,cond_false,Zj9 _ g.nsm]
   dsimp only [Option.bind_some]
   rw [nt,cond_false,Qoq (by omega)]
   exact ih s2 _ o g
  rw [if_neg a1]
  obtain ⟨w,s2,e2,r,D,_,o⟩:=Zvu l id q
  rw [e2]
  dsimp only [Option.bind_some]
  have C:=(Z3w r).pl
  have j:∀ x:Qka,x.pa=w.pa→Qlg x=some ((Zfu x,()),()):=fun x hx=>Zgb x (by rw [hx];omega)
  have u:∀ x:Qka,Qkf (Zfu x)∧(Zfu x).length≤100000000:=fun x=>⟨Zpi x,by have:=Zvw x;omega⟩
  have J:∀ (p:Int) (s:List Int × Int) (x:Qka),Zce s→Qlv ((p,()),(s,())) on inc a t1 t2 t3 t4 t5 t6 t7 t8 t9 d e f kids f1 f2 f3 f4 f5 f6 f7 bd b on inc a t1 t2 t3 t4 t5 t6 t7 t8 t9 d e f kids f1 f2 f3 f4 f5 f6 f7 bd (Qkp q0 m) id (i:Int) ((Zfu x,()),())=some ((true,()),()):=fun p s x hs=>
   X0u hN on inc a t1 t2 t3 t4 t5 t6 t7 t8 t9 d e f kids f1 f2 f3 f4 f5 f6 f7 bd h (Qkp q0 m) b hb id i (by omega) ih p s hs (Zfu x) (u x)
  obtain ⟨p1,s3,e3,v,y⟩:=Qne o 2 (by omega)
  rw [e3]
  dsimp only [Option.bind_some]
  obtain ⟨p2,s4,e4,B,k⟩:=Qne y 3 (by omega)
  have J3:0<kids.length→(Option.bind (Qlg (u3 (u1 w ((List.getD kids 0 (0,0,0)).1)) (((List.getD kids 0 (0,0,0)).2).1))) fun z=>Qlv (((p2:Int),()),(s4,())) on inc a t1 t2 t3 t4 t5 t6 t7 t8 t9 d e f kids f1 f2 f3 f4 f5 f6 f7 bd b on inc a t1 t2 t3 t4 t5 t6 t7 t8 t9 d e f kids f1 f2 f3 f4 f5 f6 f7 bd (Qkp q0 m) id (i:Int) z)=some ((true,()),()):=by
   intro _
   rw [j (u3 (u1 w ((List.getD kids 0 (0,0,0)).1)) (((List.getD kids 0 (0,0,0)).2).1)) rfl]
   exact J _ _ _ k
  have J6:Qrs (((p1:Int),()),(s3,())) kids ((w,()),(s2,())) on inc a t1 t2 t3 t4 t5 t6 t7 t8 t9 d e f kids f1 f2 f3 f4 f5 f6 f7 bd b on inc a t1 t2 t3 t4 t5 t6 t7 t8 t9 d e f f1 f2 f3 f4 f5 f6 f7 bd (Qkp q0 m) id (i:Int)=some ((true,()),()):=by
   unfold Qrs Qvn Qrq
   dsimp only
   rw [e4]
   dsimp only [Option.bind_some]
   rw [j w rfl,ceq]
   dsimp only [Option.bind_some]
   split
   ·by_cases hk:0<kids.length
    ·rw [cdp (show ((kids.length:Int)>0) by omega),cdp (show (0<(kids.length:Int)) by omega),cdp (show (0<(kids.length:Int)) by omega)]
     exact J3 hk
    ·rw [cdn (show ¬ ((kids.length:Int)>0) by omega)]
     exact J _ _ _ k
   ·exact J _ _ _ k
  rw [ceq]
  by_cases b1:(p1:Int)=0
  ·rw [if_pos b1,Z8q]
   by_cases b2:t4=0
   ·rw [if_pos b2];exact J6
   ·rw [if_neg b2,e4]
    dsimp only [Option.bind_some]
    unfold Qrq Qvm
    dsimp only
    rw [j (u3 (u1 w t4) t5) rfl,ceq]
    dsimp only [Option.bind_some]
    split
    ·by_cases hk:0<kids.length
     ·rw [cdp (show ((kids.length:Int)>0) by omega),cdp (show (0<(kids.length:Int)) by omega),cdp (show (0<(kids.length:Int)) by omega)]
      exact J3 hk
     ·rw [cdn (show ¬ ((kids.length:Int)>0) by omega)]
      exact J _ _ _ k
    ·exact J _ _ _ k
  ·rw [if_neg b1];exact J6
theorem X0d:Z2e=some ((true,()),()):=by kernel_rfl
theorem Zap {A B C:Nat} (a c:List Int) (d:Int) (b:List Int) (h:Qho [.val (.sl A (.int .u8)),.val (.sl B (.int .u8)),.val (.int .u8),.val (.sl C (.int .u8))] (a,c,d,b,())):Quy a c d b=some ((true,()),()):=by
 obtain ⟨w1,w2,w3,w4,_⟩:=h
 have e:Qkf a:=fun x hx=>Zyy.1 (w1.2 x hx)
 have f:Qkf c:=fun x hx=>Zyy.1 (w2.2 x hx)
 have g:Qkf b:=fun x hx=>Zyy.1 (w4.2 x hx)
 have hw:0≤d∧d<256:=Zyy.1 w3
 have key:∀ q m,100<m→Qso (Qkp q m) a c d b=some ((true,()),()):=by
  intro q m hm
  unfold Qso
  rw [X0d]
  dsimp only [Option.bind_some]
  rw [nt,cond_false]
  by_cases a1:150<a.length
  ·rw [cdp (by omega)]
  rw [cdn (by omega)]
  by_cases a2:100<c.length
  ·rw [cdp (by omega)]
  rw [cdn (by omega)]
  by_cases a3:60<b.length
  ·rw [cdp (by omega)]
  rw [cdn (by omega)]
  have e8:Int.tmod d 8=d % 8:=Int.tmod_eq_emod_of_nonneg (by omega)
  rw [e8,Qor (x:=d % 8) (by omega) (by omega),Qor (x:=1+d % 8) (by omega) (by omega)]
  obtain ⟨n,en,hn,k,l,i,j⟩:=Zzz a e (by omega) (1+d % 8) (by omega)
  rw [en,show Qwa c=some (((c,0),()),()) from rfl]
  dsimp only [Option.bind_some]
  exact Zvr q b ⟨g,by omega⟩ (1+d % 8) (by omega) 12 m 0 (c,0) n (by omega) (by omega) (Zyi f (by omega)) (by rw [show (120:Int)+((0:Nat):Int)=120 by omega];exact hn)
 exact key 1099511627776 1099511627776 (by decide)
end Go.PE
