/-
  Plain lemmas on the functions.
  Conditions: none.
-/
import Derived.Test.YtmfiijdlhjajcaaGreatDoorNodeDownPNodeSpec
set_option linter.unusedVariables false
set_option linter.unusedSimpArgs false
set_option maxRecDepth 20000
namespace Go.PE
theorem Zqj {n:Zbs} (h:NSm n):Qr4 n=some ((n,()),()):=by
 have hp:=h.path
 have hk:=h.kids
 obtain ⟨_,h1,h2,h3⟩:=h.feed
 unfold Qr4
 rw [Zb2 _ (by show n.2.2.2.1.2.2.2.2.2.2.1.length≤_;omega)]
 dsimp only [Option.bind_some]
 rw [Zak _ (by show n.2.2.2.1.2.2.2.2.2.2.2.2.2.2.2.2.length≤_;omega)]
 dsimp only [Option.bind_some]
 rw [Qr7 _ (by show n.2.2.2.2.1.2.2.1.length≤_;omega)]
 dsimp only [Option.bind_some]
 rw [Qr7 _ (by show n.2.2.2.2.1.2.2.2.1.length≤_;omega)]
 dsimp only [Option.bind_some]
 rw [Z3d _ (by show n.2.2.2.2.1.2.2.2.2.1.length≤_;omega)]
 rfl
theorem Zpa {f g:Qni} (h:Ext f g) (hg:FSm g):Z7m g f=some ((Ze5 f g,()),()):=by
 obtain ⟨e,_⟩:=h.new
 have hl:=hg.log
 have h1:f.2.2.2.2.1.length≤g.2.2.2.2.1.length:=by rw [e,List.length_append];omega
 unfold Z7m
 have e0:(if ((g4 g).length:Int)<((g4 f).length:Int) then ((g4 g).length:Int) else ((g4 f).length:Int))=(f.2.2.2.2.1.length:Int):=by
  show (if (g.2.2.2.2.1.length:Int)<(f.2.2.2.2.1.length:Int) then (g.2.2.2.2.1.length:Int) else (f.2.2.2.2.1.length:Int))=_
  rw [if_neg (by omega)]
 rw [e0,ct (by rw [Bool.and_eq_true,Bool.and_eq_true,decide_eq_true_eq,decide_eq_true_eq,decide_eq_true_eq];show (0≤(f.2.2.2.2.1.length:Int)∧(f.2.2.2.2.1.length:Int)≤(g.2.2.2.2.1.length:Int))∧(g.2.2.2.2.1.length:Int)≤(g.2.2.2.2.1.length:Int);omega),Int.toNat_natCast,Int.toNat_natCast]
 rw [show List.take (g4 g).length (g4 g)=g.2.2.2.2.1 from List.take_length,Z3d _ (by rw [List.length_drop];omega)]
 rfl
theorem Zjq (n:Nat) (m1:Nat) (L) (n':Zbs) (i j:Int) (e:Evt) (evs:List Evt) (hk:n'.2.2.2.1.2.2.2.2.2.2.2.2.2.2.2.2.length≤8):∀ (c m q:Nat) (acc:List Qk7),q+c=n'.2.2.2.1.2.2.2.2.2.2.2.2.2.2.2.2.length→c<m→acc.length≤100000000+q →
  Qt6 n m1 L m i j n'.2.2.2.1.2.2.2.2.2.2.2.2.2.2.2.2 (n'.2.2.2.1.2.2.2.2.2.2.2.2.2.2.2.2.length:Int) (q:Int) n'.1 n'.2.1 n'.2.2.1 n'.2.2.2.1.1 n'.2.2.2.1.2.1 n'.2.2.2.1.2.2.1 n'.2.2.2.1.2.2.2.1 n'.2.2.2.1.2.2.2.2.1 n'.2.2.2.1.2.2.2.2.2.1 n'.2.2.2.1.2.2.2.2.2.2.1 n'.2.2.2.1.2.2.2.2.2.2.2.1 n'.2.2.2.1.2.2.2.2.2.2.2.2.1 n'.2.2.2.1.2.2.2.2.2.2.2.2.2.1 n'.2.2.2.1.2.2.2.2.2.2.2.2.2.2.1 n'.2.2.2.1.2.2.2.2.2.2.2.2.2.2.2.1 n'.2.2.2.1.2.2.2.2.2.2.2.2.2.2.2.2 n'.2.2.2.2.1.1 n'.2.2.2.2.1.2.1 n'.2.2.2.2.1.2.2.1 n'.2.2.2.2.1.2.2.2.1 n'.2.2.2.2.1.2.2.2.2.1 n'.2.2.2.2.1.2.2.2.2.2.1 n'.2.2.2.2.1.2.2.2.2.2.2 n'.2.2.2.2.2 acc e.1 e.2.1 e.2.2.1 e.2.2.2.1 e.2.2.2.2 evs =
   L i (IntKind.wrap .i64 (j+1)) n'.1 n'.2.1 n'.2.2.1 n'.2.2.2.1.1 n'.2.2.2.1.2.1 n'.2.2.2.1.2.2.1 n'.2.2.2.1.2.2.2.1 n'.2.2.2.1.2.2.2.2.1 n'.2.2.2.1.2.2.2.2.2.1 n'.2.2.2.1.2.2.2.2.2.2.1 n'.2.2.2.1.2.2.2.2.2.2.2.1 n'.2.2.2.1.2.2.2.2.2.2.2.2.1 n'.2.2.2.1.2.2.2.2.2.2.2.2.2.1 n'.2.2.2.1.2.2.2.2.2.2.2.2.2.2.1 n'.2.2.2.1.2.2.2.2.2.2.2.2.2.2.2.1 n'.2.2.2.1.2.2.2.2.2.2.2.2.2.2.2.2 n'.2.2.2.2.1.1 n'.2.2.2.2.1.2.1 n'.2.2.2.2.1.2.2.1 n'.2.2.2.2.1.2.2.2.1 n'.2.2.2.2.1.2.2.2.2.1 n'.2.2.2.2.1.2.2.2.2.2.1 n'.2.2.2.2.1.2.2.2.2.2.2 n'.2.2.2.2.2 (acc++dnK n'.2.2.2.1 e (n'.2.2.2.1.2.2.2.2.2.2.2.2.2.2.2.2.drop q)) evs
 | c,0,q,acc,_,h,_=>by omega
 | 0,m+1,q,acc,hc,h,ha=>by
  show Qv2 (Qt6 n m1 L m) L i j _ _ (q:Int) _ _ _ _ _ _ _ _ _ _ _ _ _ _ _ _ _ _ _ _ _ _ _ _ acc _ _ _ _ _ evs=_
  unfold Qv2
  rw [cdn (by omega),List.drop_eq_nil_of_le (by omega)];simp [dnK]
 | c+1,m+1,q,acc,hc,h,ha=>by
  show Qv2 (Qt6 n m1 L m) L i j _ _ (q:Int) _ _ _ _ _ _ _ _ _ _ _ _ _ _ _ _ _ _ _ _ _ _ _ _ acc _ _ _ _ _ evs=_
  have hq:q<n'.2.2.2.1.2.2.2.2.2.2.2.2.2.2.2.2.length:=by omega
  unfold Qv2 Z6b
  rw [cdp (by omega),ct (idx (by omega)),Qk9,Qkl hq,ceq]
  have e2:∀ x,acc++[x]++dnK n'.2.2.2.1 e (n'.2.2.2.1.2.2.2.2.2.2.2.2.2.2.2.2.drop (q+1))=acc++(x::dnK n'.2.2.2.1 e (n'.2.2.2.1.2.2.2.2.2.2.2.2.2.2.2.2.drop (q+1))):=fun x=>by rw [List.append_assoc];rfl
  have e3:dnK n'.2.2.2.1 e (n'.2.2.2.1.2.2.2.2.2.2.2.2.2.2.2.2.drop q)=Zcm n'.2.2.2.1 e n'.2.2.2.1.2.2.2.2.2.2.2.2.2.2.2.2[q]::dnK n'.2.2.2.1 e (n'.2.2.2.1.2.2.2.2.2.2.2.2.2.2.2.2.drop (q+1)):=by rw [List.drop_eq_getElem_cons hq];rfl
  rw [e3,← e2]
  have ih:=fun x=>Zjq n m1 L n' i j e evs hk c m (q+1) (acc++[x]) (by omega) (by omega) (by rw [List.length_append,List.length_singleton];omega)
  unfold Zcm
  by_cases k1:e.1=1
  ·rw [if_pos k1,if_pos k1]
   unfold Qtm
   dsimp only [Option.bind_some]
   rw [cbp (by omega),Qr9 (by omega)]
   exact ih _
  ·rw [if_neg k1,if_neg k1]
   unfold Qtm
   dsimp only [Option.bind_some]
   rw [cbp (by omega),Qr9 (by omega)]
   exact ih _
theorem Zkc (t:Tie) (hk:t.2.2.2.2.2.2.2.2.2.2.2.2.length≤8):∀ l:List Evt,(dnM t l).length≤8*l.length
 | []=>by simp [dnM]
 | e::r=>by
  have:=Zkc t hk r
  show (dnK t e _++dnM t r).length≤_
  rw [List.length_append,List.length_cons]
  unfold dnK
  rw [List.length_map];omega
theorem Zj2 (n:Nat) (hn:100<n) (n':Zbs) (evs:List Evt) (hl:evs.length≤10000000) (hk:n'.2.2.2.1.2.2.2.2.2.2.2.2.2.2.2.2.length≤8):∀ (c m q:Nat) (acc:List Qk7),q+c=evs.length→c<m→acc.length≤8*q →
  Qt4 n m (evs.length:Int) (q:Int) n'.1 n'.2.1 n'.2.2.1 n'.2.2.2.1.1 n'.2.2.2.1.2.1 n'.2.2.2.1.2.2.1 n'.2.2.2.1.2.2.2.1 n'.2.2.2.1.2.2.2.2.1 n'.2.2.2.1.2.2.2.2.2.1 n'.2.2.2.1.2.2.2.2.2.2.1 n'.2.2.2.1.2.2.2.2.2.2.2.1 n'.2.2.2.1.2.2.2.2.2.2.2.2.1 n'.2.2.2.1.2.2.2.2.2.2.2.2.2.1 n'.2.2.2.1.2.2.2.2.2.2.2.2.2.2.1 n'.2.2.2.1.2.2.2.2.2.2.2.2.2.2.2.1 n'.2.2.2.1.2.2.2.2.2.2.2.2.2.2.2.2 n'.2.2.2.2.1.1 n'.2.2.2.2.1.2.1 n'.2.2.2.2.1.2.2.1 n'.2.2.2.2.1.2.2.2.1 n'.2.2.2.2.1.2.2.2.2.1 n'.2.2.2.2.1.2.2.2.2.2.1 n'.2.2.2.2.1.2.2.2.2.2.2 n'.2.2.2.2.2 acc evs=some ((acc++dnM n'.2.2.2.1 (evs.drop q),()),())
 | c,0,q,acc,_,h,_=>by omega
 | 0,m+1,q,acc,hc,h,ha=>by
  show Qve (Qt6 n m (Qt4 n m) n) _ (q:Int) _ _ _ _ _ _ _ _ _ _ _ _ _ _ _ _ _ _ _ _ _ _ _ _ acc evs=_
  unfold Qve
  rw [cdn (by omega),List.drop_eq_nil_of_le (by omega)];simp [dnM]
 | c+1,m+1,q,acc,hc,h,ha=>by
  show Qve (Qt6 n m (Qt4 n m) n) _ (q:Int) _ _ _ _ _ _ _ _ _ _ _ _ _ _ _ _ _ _ _ _ _ _ _ _ acc evs=_
  have hq:q<evs.length:=by omega
  unfold Qve
  rw [cdp (by omega),ct (idx (by omega)),ct (idx (by omega)),Qk9,Qkl hq]
  have:=Zjq n m (Qt4 n m) n' (evs.length:Int) (q:Int) evs[q] evs hk n'.2.2.2.1.2.2.2.2.2.2.2.2.2.2.2.2.length n 0 acc (by omega) (by omega) (by omega)
  refine Eq.trans this ?_
  rw [Qr9 (by omega),List.drop_zero,Zj2 n hn n' evs hl hk c m (q+1) _ (by omega) (by omega) (by rw [List.length_append];unfold dnK;rw [List.length_map];omega),List.drop_eq_getElem_cons hq,List.append_assoc];rfl
theorem Zq1 {n':Zbs} {f:Qni} (h:Ext f n'.2.2.2.2.1) (hs:FSm n'.2.2.2.2.1) (hk:n'.2.2.2.1.2.2.2.2.2.2.2.2.2.2.2.2.length≤8):Z6h n' f=some ((dnM n'.2.2.2.1 (Ze5 f n'.2.2.2.2.1),()),()):=by
 have hl:(Ze5 f n'.2.2.2.2.1).length≤10000000:=by unfold Ze5;rw [List.length_drop];have:=hs.log;omega
 have key:∀ n m,100<n→20000000<m→Z50 (Qt4 n m) n' f=some ((dnM n'.2.2.2.1 (Ze5 f n'.2.2.2.2.1),()),()):=by
  intro n m hn hm
  unfold Z50
  rw [show g4 n'=n'.2.2.2.2.1 from rfl,Zpa h hs]
  dsimp only [Option.bind_some]
  have:=Zj2 n hn n' (Ze5 f n'.2.2.2.2.1) hl hk (Ze5 f n'.2.2.2.2.1).length m 0 [] (by omega) (by omega) (by simp)
  rw [List.drop_zero,List.nil_append] at this
  exact this
 exact key 1099511627776 1099511627776 (by decide) (by decide)
end Go.PE
