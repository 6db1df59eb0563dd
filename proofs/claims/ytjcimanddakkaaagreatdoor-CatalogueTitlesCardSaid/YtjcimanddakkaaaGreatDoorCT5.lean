/- Lemmas. -/
import Derived.Test.YtjcimanddakkaaaGreatDoorCT3
import Derived.StillTailTactics
set_option maxRecDepth 100000
set_option maxHeartbeats 8000000
namespace Go.Proofs.YtjcimanddakkaaaGreatDoor
open Go.Value renaming int→J,bool→a2
open Go.IntKind renaming u8→a0,i64→U
open Go.Ending renaming returned→a1
open Go.Lib renaming hid→Z
open _root_.Option renaming none→Y,some→X
open Tryz
open _root_.List renaming take_succ_eq_append_getElem→aa,length→ad,take_of_length_le→al
open _root_.Nat renaming zero_le→ao
section
open Go.RowKit Go.Maps Go.Shelf
theorem c8{c:UInt8}(h:digitB c=true):48<=c.toNat/\c.toNat<=57:=by
 unfold digitB at h;simp only[Bool.and_eq_true,decide_eq_true_eq]at h;exact h
theorem o6{p:UInt8->Bool}(s:Bs)(k:Nat)(h:k<s):(s.take (k+1)).all p=((s.take k).all p&&p s[k]):=by
 rw[aa h,List.all_append];simp
theorem BN(s:Bs)(c:UInt8)(w:World)(m:s.length<=1000000000):Calls prog 147 #[S s,J a0 c] w λe w'=>e=a1 (a2 (s.contains c))/\w=w':=by
 obtain⟨r,f⟩:=Qe (s.contains c);rw[f];have g:=Z f;clear f;go_enter func147,ntmps147;go_wp2_with fail;go_loop [5] (λi=>∃k:Nat,k<=s/\i=J U k/\∀x∈s.take k,x≠c) (λi=>s-(intOf i).toNat)
 case atStart=>exact⟨0,ao _,rfl,by simp⟩
 obtain⟨k,l,rfl,hn⟩:=hrel;have d:=Z hn;clear hn;by_cases hlt:k<s;rotate_left
 .go_wp2_with fail;go_ret;refine⟨am ?_,rfl⟩;rw[al (by omega)]at d;rw[eq_comm,Bool.eq_false_iff];exactλh=>d c (List.contains_iff_mem.1 (g.trans h)) rfl
 by_cases hc:s[k]=c
 .have j:(s[k].toNat:Int)=(c.toNat:Int):=by rw[hc]
  have b:Hid (r=true):=g.symm.trans (List.contains_iff_mem.2 (hc▸List.getElem_mem hlt));clear hc;go_wp2_with fail;go_ret;exact⟨am b.symm,rfl⟩
 have j:¬(s[k].toNat:Int)=(c.toNat:Int):=λh=>hc (UInt8.toNat_inj.1 (by omega));have b:=Z hc;clear hc;go_wp2_with fail;go_round
 case rel=>
  refine⟨k+1,hlt,by go_num,λx a=>?_⟩;rw[aa hlt]at a;rcases List.mem_append.1 a with a|a
  .exact d x a
  rw[List.mem_singleton]at a;rw[a];exact b.o
 simp[intOf];omega
theorem mN(s:Bs)(w:World)(n:s.length<=1000000000):Calls prog 144 #[S s] w λe w'=>e=a1 (a2 (s.all digitB))/\w=w':=by
 go_enter func144,ntmps144;go_wp2_with fail;go_loop [3] (λi=>∃k:Nat,k<=s/\i=J U k/\(s.take k).all digitB=true) (λi=>s-(intOf i).toNat)
 case atStart=>exact⟨0,ao _,rfl,rfl⟩
 obtain⟨k,m,rfl,hn⟩:=hrel;have c:=Z hn;clear hn;by_cases hlt:k<s;rotate_left
 .go_wp2_with fail;go_ret;refine⟨am ?_,rfl⟩;rw[al (by omega)]at c;exact c.symm
 have f:=Z (o6 (p:=digitB) s k hlt);have d:Hid (s[k]∈s):=List.getElem_mem hlt;by_cases hc:digitB s[k]=true
 .have b:=Z hc;obtain⟨g,a⟩:=c8 hc;have j:¬(s[k].toNat:Int)<48:=by omega
  have l:¬(57:Int)<(s[k].toNat:Int):=by omega
  clear hc g a;go_wp2_with fail;go_round
  case rel=>exact⟨k+1,hlt,by go_num,by rw[f.o,c.o,b.o];rfl⟩
  simp[intOf];omega
 have b:Hid (s.all digitB=false):=by unfold Hid;rw[Bool.eq_false_iff];exactλh=>hc (List.all_eq_true.1 h _ d.o)
 have a:(s[k].toNat:Int)<48∨(57:Int)<(s[k].toNat:Int):=by unfold digitB at hc;simp only[Bool.and_eq_true,decide_eq_true_eq]at hc;omega
 clear hc;rcases a with a|a
 .go_wp2_with fail;go_ret;exact⟨am b.symm,rfl⟩
 have j:¬(s[k].toNat:Int)<48:=by omega
 go_wp2_with fail;go_ret;exact⟨am b.symm,rfl⟩
theorem mE:∀(l:List Bs)(a:Bs),joinR (l++[a])=if l=[]then a else joinR l++[32]++a
 |[],a=>rfl
 |[b],a=>rfl
 |b::c::l,a=>by
  have h:=mE (c::l) a
  rw[if_neg (by simp)]at h ⊢
  show b++[32]++joinR (c::l++[a])=b++[32]++joinR (c::l)++[32]++a
  rw[h]
  simp[List.append_assoc]
theorem sn:∀(l:List Bs),(joinR l).length<=(l.map λa=>a.length+1).sum
 |[]=>Nat.le_refl _
 |[a]=>by simp[joinR]
 |a::b::l=>by
  have h:=sn (b::l)
  simp only[joinR,List.map_cons,List.sum_cons,List.length_append,List.length_cons,List.length_nil]at h ⊢
  omega
theorem sh(v:Value)(l:List Bs)(F:Nat)(w:World)(h:aL 0 F w v l (l.map λs=>S s))(G:l.length<=100000000)(z:(l.map λa=>a.length+1).sum<=100000000000):
 Calls prog 148 #[v] w λe w'=>e=a1 (S (joinR l))/\w=w':=by
 obtain⟨a,I,rfl,y⟩:=h;have A:=Z y;have B:=Z z;obtain⟨n,hn⟩:=Qe l.length;have q:=Z hn;rw[hn]at G;rw[hn];clear y hn z;go_enter func148,ntmps148;go_wp2_with fail;go_loop [3,4] (λo i=>∃k:Nat,k<=n/\i=J U k/\o=S (joinR (l.take k))) (λ_ i=>n-(intOf i).toNat)
 case atStart=>exact⟨0,ao _,rfl,by simp;rfl⟩
 obtain⟨k,M,rfl,rfl⟩:=hrel;by_cases hlt:k<n;rotate_left
 .go_wp2_with fail;go_ret;rw[al (by rw[q.o];omega)];exact⟨rfl,rfl⟩
 have c:k<l:=by rw[q.o];exact hlt
 obtain⟨b,H,rfl,_,_,j⟩:=A.o (by intro e;have:=congrArg ad e;simp at this;rw[this]at c;simp at c);have r:w.cell? ⟨b,H+k,Y⟩=X (S l[k]):=j k _ (by rw[List.getElem?_map,List.getElem?_eq_getElem c];rfl);have d:Hid (joinR (l.take (k+1))=if l.take k=[]then l[k]else joinR (l.take k)++[32]++l[k]):=by unfold Hid;rw[aa c,mE]
 have m:(joinR (l.take k)).length+(l[k].length+1)<=100000000000:=by
  have L:=sn (l.take k);have u:((l.take (k+1)).map λa=>a.length+1).sum<=(l.map λa=>a.length+1).sum:=by
   conv=>rhs;rw[<- List.take_append_drop (k+1) l]
   rw[List.map_append,List.sum_append];omega
  rw[aa c,List.map_append,List.sum_append]at u;simp only[List.map_cons,List.map_nil,List.sum_cons,List.sum_nil]at u;have:=B.o;omega
 obtain⟨x,p⟩:=Qe (l[k]);rw[p]at r d m;have f:l.take k=[]↔k=0:=by
  rw[List.take_eq_nil_iff];constructor
  .rintro(h|h)
   .exact h
   rw[h]at c;simp at c
  exact .inl
 by_cases hk0:k=0
 .subst hk0;rw[if_pos (f.2 rfl)]at d;simp only[Nat.add_zero]at r;clear p f j;have C:¬9223372036854775807<ad x:=by omega
  have E:¬9223372036854775807<0+ad x:=by omega
  have t:joinR (l.take 0)=[]:=rfl;rw[t];clear m t;go_wp2_with fail;go_round
  case rel=>exact⟨1,hlt,by go_num,by rw[d.o]⟩
  simp[intOf];omega
 rw[if_neg (λh=>hk0 (f.1 h))]at d;have N:(0:Int)<(k:Int):=by omega
 obtain⟨D,g⟩:=Qe (joinR (l.take k));rw[g]at d m;rw[g];have C:¬9223372036854775807<ad D+1:=by omega
 have E:¬9223372036854775807<ad D+(1+ad x):=by omega
 have K:¬9223372036854775807<ad D+(ad x+1):=by omega
 clear p f j g;go_wp2_with fail;go_round
 case rel=>exact⟨k+1,hlt,by go_num,by rw[d.o];simp⟩
 simp[intOf];omega
end
section
open Go.RowKit Go.Shelf
section
variable {P:Program} {ops:Array Oper} {Q:Exit->Act->World->Prop}
theorem rE{n:Nat}{a:String}{args:Array Value}{w:World}{R:Value->World->Prop}(h:Rows P a args w R):RowsIn Fence.wide n P a args w R:=
 λc b _=>let ⟨v,w',r,s⟩:=h c b;⟨v,w',r,stepsIn_wide.2 s⟩
theorem tH{n l:Nat}(hn:1<=n){o:Oper}{a:Act}{K:Act->World->Prop}{r:Result Next}(h:o.upon P a K Q r):o.uponIn (Fence.wide.inRound l) n P a K Q r:=by
 cases r with
 |ok x w'=>
  cases x<;>simp only[Oper.upon,Oper.uponIn]at h ⊢ <;>
   first
    |exact h
    |exact⟨λ_=>hn,CallsIn.inRound l (callsIn_wide.2 h)⟩
    |exact⟨λ_=>hn,rE h⟩
 |halt x w'=>cases x<;>simp only[Oper.upon,Oper.uponIn]at h ⊢ <;>exact h
def lC(ops:Array Oper):Bool:=ops.toList.all λo=>match o.op with| .defer _=>false|_=>true
theorem pX(h:lC ops=true){i:Nat}{o:Oper}(a:ops[i]?=X o):∀c,o.op≠ .defer c:=λc e=>by
 unfold lC at h;rw[List.all_eq_true]at h;have b:o∈ops.toList:=by rw[<- Array.getElem?_toList]at a;exact List.mem_of_getElem? a
 have:=h o b;rw[e]at this;cases this
theorem yg{n l:Nat}(hn:1<=n){e:Region.Mode}(j:lC ops=true)(m:¬LetsOut Q):∀(c:Nat)(d:Array Bool)(a:Act)(w:World),
 wpAny P e ops Q c d a w->wpAnyIn (Fence.wide.inRound l) n P e ops Q c d a w:=by
 intro c;induction c with
 |zero=>intro d a w h;exact h
 |succ c ih=>
  rintro d a w⟨f,g⟩;refine⟨f,λi k=>?_⟩;have b:=g i k;unfold wpOp at b;unfold wpOpIn;cases ho:ops[i]? with
  |none=>rw[ho]at b;exact ih _ _ _ b
  |some o=>
   rw[ho]at b;simp only at b ⊢;by_cases hw:Region.wanted o (yielded ops a.tmps)=true
   .rw[if_pos hw]at b ⊢;refine⟨λ_ _=>trivial,?_⟩;rw[Oper.semAt_eq _ _ _ (pX j ho)];rcases b with b|b
    .exact tH hn (Oper.wp_mono (λa w=>ih _ a w) b)
    exact absurd b.2 m
   rw[if_neg hw]at b ⊢;exact⟨λ_ _=>trivial,ih _ _ _ b⟩
theorem ns{id m l:Nat}{b:List Oper}{a:Act}{w:World}(S:World->Prop)(z:Nat)(e:P.follows .mixedOrders=true)(c:1<=m)(d:lC b.toArray=true)(f:¬LetsOut Q)
 (h:anyT P .any b.toArray Q S z b.toArray.size (Array.replicate b.toArray.size false) a w.drew):(Code.region id b.toArray true).wpIn (Fence.wide.inRound l) m P Q a w:=
 wpIn_region_any e (yg c d f _ _ _ _ (nc _ _ _ _ h))
end
end
end Go.Proofs.YtjcimanddakkaaaGreatDoor
