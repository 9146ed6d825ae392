/-
  Plain lemmas on the functions.
  Conditions: none.
-/
import Derived.Test.YtmfiijdlhjajcaaGreatDoorNodeServesPNodeSpec
set_option linter.unusedVariables false
set_option linter.unusedSimpArgs false
set_option maxRecDepth 20000
namespace Go.PE
theorem Zsx {n:Zih} (h:NSm n):Qs1 n=some ((n,()),()):=by
 have hp:=h.path
 have hk:=h.kids
 obtain ⟨_,h1,h2,h3⟩:=h.feed
 unfold Qs1
 rw [Zdg _ (by show n.2.2.2.1.2.2.2.2.2.2.1.length≤_;omega)]
 dsimp only [Option.bind_some]
 rw [Zco _ (by show n.2.2.2.1.2.2.2.2.2.2.2.2.2.2.2.2.length≤_;omega)]
 dsimp only [Option.bind_some]
 rw [Qrz _ (by show n.2.2.2.2.1.2.2.1.length≤_;omega)]
 dsimp only [Option.bind_some]
 rw [Qrz _ (by show n.2.2.2.2.1.2.2.2.1.length≤_;omega)]
 dsimp only [Option.bind_some]
 rw [Z5n _ (by show n.2.2.2.2.1.2.2.2.2.1.length≤_;omega)]
 rfl
theorem Zqj {f g:Qo0} (h:Ext f g) (hg:FSm g):Z98 g f=some ((Zk2 f g,()),()):=by
 obtain ⟨e,_⟩:=h.new
 have hl:=hg.log
 have h1:f.2.2.2.2.1.length≤g.2.2.2.2.1.length:=by rw [e,List.length_append];omega
 unfold Z98
 have e0:(if ((g4 g).length:Int)<((g4 f).length:Int) then ((g4 g).length:Int) else ((g4 f).length:Int))=(f.2.2.2.2.1.length:Int):=by
  show (if (g.2.2.2.2.1.length:Int)<(f.2.2.2.2.1.length:Int) then (g.2.2.2.2.1.length:Int) else (f.2.2.2.2.1.length:Int))=_
  rw [if_neg (by omega)]
 rw [e0,ct (by rw [Bool.and_eq_true,Bool.and_eq_true,decide_eq_true_eq,decide_eq_true_eq,decide_eq_true_eq];show (0≤(f.2.2.2.2.1.length:Int)∧(f.2.2.2.2.1.length:Int)≤(g.2.2.2.2.1.length:Int))∧(g.2.2.2.2.1.length:Int)≤(g.2.2.2.2.1.length:Int);omega),Int.toNat_natCast,Int.toNat_natCast]
 rw [show List.take (g4 g).length (g4 g)=g.2.2.2.2.1 from List.take_length,Z5n _ (by rw [List.length_drop];omega)]
 rfl
theorem Zks (n:Nat) (m1:Nat) (L) (n':Zih) (i j:Int) (e:Evt) (evs:List Evt) (hk:n'.2.2.2.1.2.2.2.2.2.2.2.2.2.2.2.2.length≤8):∀ (c m q:Nat) (acc:List Qk7),q+c=n'.2.2.2.1.2.2.2.2.2.2.2.2.2.2.2.2.length→c<m→acc.length≤100000000+q →
  Qts n m1 L m i j n'.2.2.2.1.2.2.2.2.2.2.2.2.2.2.2.2 (n'.2.2.2.1.2.2.2.2.2.2.2.2.2.2.2.2.length:Int) (q:Int) n'.1 n'.2.1 n'.2.2.1 n'.2.2.2.1.1 n'.2.2.2.1.2.1 n'.2.2.2.1.2.2.1 n'.2.2.2.1.2.2.2.1 n'.2.2.2.1.2.2.2.2.1 n'.2.2.2.1.2.2.2.2.2.1 n'.2.2.2.1.2.2.2.2.2.2.1 n'.2.2.2.1.2.2.2.2.2.2.2.1 n'.2.2.2.1.2.2.2.2.2.2.2.2.1 n'.2.2.2.1.2.2.2.2.2.2.2.2.2.1 n'.2.2.2.1.2.2.2.2.2.2.2.2.2.2.1 n'.2.2.2.1.2.2.2.2.2.2.2.2.2.2.2.1 n'.2.2.2.1.2.2.2.2.2.2.2.2.2.2.2.2 n'.2.2.2.2.1.1 n'.2.2.2.2.1.2.1 n'.2.2.2.2.1.2.2.1 n'.2.2.2.2.1.2.2.2.1 n'.2.2.2.2.1.2.2.2.2.1 n'.2.2.2.2.1.2.2.2.2.2.1 n'.2.2.2.2.1.2.2.2.2.2.2 n'.2.2.2.2.2 acc e.1 e.2.1 e.2.2.1 e.2.2.2.1 e.2.2.2.2 evs =
   L i (IntKind.wrap .i64 (j+1)) n'.1 n'.2.1 n'.2.2.1 n'.2.2.2.1.1 n'.2.2.2.1.2.1 n'.2.2.2.1.2.2.1 n'.2.2.2.1.2.2.2.1 n'.2.2.2.1.2.2.2.2.1 n'.2.2.2.1.2.2.2.2.2.1 n'.2.2.2.1.2.2.2.2.2.2.1 n'.2.2.2.1.2.2.2.2.2.2.2.1 n'.2.2.2.1.2.2.2.2.2.2.2.2.1 n'.2.2.2.1.2.2.2.2.2.2.2.2.2.1 n'.2.2.2.1.2.2.2.2.2.2.2.2.2.2.1 n'.2.2.2.1.2.2.2.2.2.2.2.2.2.2.2.1 n'.2.2.2.1.2.2.2.2.2.2.2.2.2.2.2.2 n'.2.2.2.2.1.1 n'.2.2.2.2.1.2.1 n'.2.2.2.2.1.2.2.1 n'.2.2.2.2.1.2.2.2.1 n'.2.2.2.2.1.2.2.2.2.1 n'.2.2.2.2.1.2.2.2.2.2.1 n'.2.2.2.2.1.2.2.2.2.2.2 n'.2.2.2.2.2 (acc++dnK n'.2.2.2.1 e (n'.2.2.2.1.2.2.2.2.2.2.2.2.2.2.2.2.drop q)) evs
 | c,0,q,acc,_,h,_=>by omega
 | 0,m+1,q,acc,hc,h,ha=>by
  show Qw6 (Qts n m1 L m) L i j _ _ (q:Int) _ _ _ _ _ _ _ _ _ _ _ _ _ _ _ _ _ _ _ _ _ _ _ _ acc _ _ _ _ _ evs=_
  unfold Qw6
  rw [cdn (by omega),List.drop_eq_nil_of_le (by omega)];simp [dnK]
 | c+1,m+1,q,acc,hc,h,ha=>by
  show Qw6 (Qts n m1 L m) L i j _ _ (q:Int) _ _ _ _ _ _ _ _ _ _ _ _ _ _ _ _ _ _ _ _ _ _ _ _ acc _ _ _ _ _ evs=_
  have hq:q<n'.2.2.2.1.2.2.2.2.2.2.2.2.2.2.2.2.length:=by omega
  unfold Qw6 Z8s
  rw [cdp (by omega),ct (idx (by omega)),Qk9,Qkm hq,ceq]
  have e2:∀ x,acc++[x]++dnK n'.2.2.2.1 e (n'.2.2.2.1.2.2.2.2.2.2.2.2.2.2.2.2.drop (q+1))=acc++(x::dnK n'.2.2.2.1 e (n'.2.2.2.1.2.2.2.2.2.2.2.2.2.2.2.2.drop (q+1))):=fun x=>by rw [List.append_assoc];rfl
  have e3:dnK n'.2.2.2.1 e (n'.2.2.2.1.2.2.2.2.2.2.2.2.2.2.2.2.drop q)=Zrp n'.2.2.2.1 e n'.2.2.2.1.2.2.2.2.2.2.2.2.2.2.2.2[q]::dnK n'.2.2.2.1 e (n'.2.2.2.1.2.2.2.2.2.2.2.2.2.2.2.2.drop (q+1)):=by rw [List.drop_eq_getElem_cons hq];rfl
  rw [e3,← e2]
  have ih:=fun x=>Zks n m1 L n' i j e evs hk c m (q+1) (acc++[x]) (by omega) (by omega) (by rw [List.length_append,List.length_singleton];omega)
  unfold Zrp
  by_cases k1:e.1=1
  ·rw [if_pos k1,if_pos k1]
   unfold Qua
   dsimp only [Option.bind_some]
   rw [cbp (by omega),Qqh (by omega)]
   exact ih _
  ·rw [if_neg k1,if_neg k1]
   unfold Qua
   dsimp only [Option.bind_some]
   rw [cbp (by omega),Qqh (by omega)]
   exact ih _
theorem Zq1 (t:Tie) (hk:t.2.2.2.2.2.2.2.2.2.2.2.2.length≤8):∀ l:List Evt,(dnM t l).length≤8*l.length
 | []=>by simp [dnM]
 | e::r=>by
  have:=Zq1 t hk r
  show (dnK t e _++dnM t r).length≤_
  rw [List.length_append,List.length_cons]
  unfold dnK
  rw [List.length_map];omega
theorem Zlc (n:Nat) (hn:100<n) (n':Zih) (evs:List Evt) (hl:evs.length≤10000000) (hk:n'.2.2.2.1.2.2.2.2.2.2.2.2.2.2.2.2.length≤8):∀ (c m q:Nat) (acc:List Qk7),q+c=evs.length→c<m→acc.length≤8*q →
  Qtz n m (evs.length:Int) (q:Int) n'.1 n'.2.1 n'.2.2.1 n'.2.2.2.1.1 n'.2.2.2.1.2.1 n'.2.2.2.1.2.2.1 n'.2.2.2.1.2.2.2.1 n'.2.2.2.1.2.2.2.2.1 n'.2.2.2.1.2.2.2.2.2.1 n'.2.2.2.1.2.2.2.2.2.2.1 n'.2.2.2.1.2.2.2.2.2.2.2.1 n'.2.2.2.1.2.2.2.2.2.2.2.2.1 n'.2.2.2.1.2.2.2.2.2.2.2.2.2.1 n'.2.2.2.1.2.2.2.2.2.2.2.2.2.2.1 n'.2.2.2.1.2.2.2.2.2.2.2.2.2.2.2.1 n'.2.2.2.1.2.2.2.2.2.2.2.2.2.2.2.2 n'.2.2.2.2.1.1 n'.2.2.2.2.1.2.1 n'.2.2.2.2.1.2.2.1 n'.2.2.2.2.1.2.2.2.1 n'.2.2.2.2.1.2.2.2.2.1 n'.2.2.2.2.1.2.2.2.2.2.1 n'.2.2.2.2.1.2.2.2.2.2.2 n'.2.2.2.2.2 acc evs=some ((acc++dnM n'.2.2.2.1 (evs.drop q),()),())
 | c,0,q,acc,_,h,_=>by omega
 | 0,m+1,q,acc,hc,h,ha=>by
  show Qwk (Qts n m (Qtz n m) n) _ (q:Int) _ _ _ _ _ _ _ _ _ _ _ _ _ _ _ _ _ _ _ _ _ _ _ _ acc evs=_
  unfold Qwk
  rw [cdn (by omega),List.drop_eq_nil_of_le (by omega)];simp [dnM]
 | c+1,m+1,q,acc,hc,h,ha=>by
  show Qwk (Qts n m (Qtz n m) n) _ (q:Int) _ _ _ _ _ _ _ _ _ _ _ _ _ _ _ _ _ _ _ _ _ _ _ _ acc evs=_
  have hq:q<evs.length:=by omega
  unfold Qwk
  rw [cdp (by omega),ct (idx (by omega)),ct (idx (by omega)),Qk9,Qkm hq]
  have:=Zks n m (Qtz n m) n' (evs.length:Int) (q:Int) evs[q] evs hk n'.2.2.2.1.2.2.2.2.2.2.2.2.2.2.2.2.length n 0 acc (by omega) (by omega) (by omega)
  refine Eq.trans this ?_
  rw [Qqh (by omega),List.drop_zero,Zlc n hn n' evs hl hk c m (q+1) _ (by omega) (by omega) (by rw [List.length_append];unfold dnK;rw [List.length_map];omega),List.drop_eq_getElem_cons hq,List.append_assoc];rfl
theorem Zrt {n':Zih} {f:Qo0} (h:Ext f n'.2.2.2.2.1) (hs:FSm n'.2.2.2.2.1) (hk:n'.2.2.2.1.2.2.2.2.2.2.2.2.2.2.2.2.length≤8):Z8k n' f=some ((dnM n'.2.2.2.1 (Zk2 f n'.2.2.2.2.1),()),()):=by
 have hl:(Zk2 f n'.2.2.2.2.1).length≤10000000:=by unfold Zk2;rw [List.length_drop];have:=hs.log;omega
 have key:∀ n m,100<n→20000000<m→Z5u (Qtz n m) n' f=some ((dnM n'.2.2.2.1 (Zk2 f n'.2.2.2.2.1),()),()):=by
  intro n m hn hm
  unfold Z5u
  rw [show g4 n'=n'.2.2.2.2.1 from rfl,Zqj h hs]
  dsimp only [Option.bind_some]
  have:=Zlc n hn n' (Zk2 f n'.2.2.2.2.1) hl hk (Zk2 f n'.2.2.2.2.1).length m 0 [] (by omega) (by omega) (by simp)
  rw [List.drop_zero,List.nil_append] at this
  exact this
 exact key 1099511627776 1099511627776 (by decide) (by decide)
end Go.PE
