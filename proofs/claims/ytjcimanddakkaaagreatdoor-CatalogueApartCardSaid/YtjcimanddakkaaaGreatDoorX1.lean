/- Lemmas. -/
import Derived.Test.YtjcimanddakkaaaGreatDoorX0
import Derived.Test.YtjcimanddakkaaaGreatDoorProg
import Derived.Deep.RegionHeld3
import Derived.Deep.RegionWith
import Derived.Deep.DrawnRows
import Derived.Laws.IdiomStrings
import Derived.Shelf.Strings.Builder1
import Derived.Shelf.Strings.SlTrimAscii
import Derived.Shelf.Unicode.DecodeAny
import Derived.OneCell
import Derived.Lib.AppendStr
import Derived.Lib.UnsafeStr
import Derived.Deep.DeepCutAuto
import Derived.Defers
import Derived.Recover
set_option maxRecDepth 100000
set_option maxHeartbeats 8000000
namespace Go.Proofs.YtjcimanddakkaaaGreatDoor
open Go.Proofs.Tryz renaming prog→a0a
open _root_.Nat renaming le_refl→a0b,zero_le→a0s,le_trans→a0v
open Go.Lib renaming hid→a0c,byteCells→a0j,cell_of_heap→a0l,frozen_of_heap→a0A,trimS→a0D
open Go.Value renaming slice→a0d,int→a0C
open Go renaming World→a0e,Value→a0k,Calls→a0m
open _root_.List renaming take_of_length_le→a0f,take_succ_eq_append_getElem→a0q,getElem_mem→a0w,length→a0y,length_append→a0z,eq_nil_of_length_eq_zero→a0B
open Go.RowKit.Below renaming refl→a0g,heap_setCell→a0H
open _root_.Bool renaming eq_iff_iff→a0h
open _root_.UInt8 renaming ofNat→a0i
open Go.RowKit renaming Below→a0n
open _root_.ByteArray renaming size→a0o
open Go.Obj renaming cells→a0p
open Go.Calls renaming mono→a0r
open _root_.Array renaming getElem?_modify→a0t
open Go.Addr renaming add→a0u
open Go.World renaming cell?_of_block→a0x,setCell→a0E,ownsRow_nil→a0I
open _root_.Decidable renaming not_not→a0F
open Go.IntKind renaming u8→a0G
section
open Go.RowKit
theorem jl (c:UInt8) (w:a0e):a0m a0a 109 #[.int .u8 c.toNat] w λe w'=>e= .returned (.bool (letterB c))/\w=w':=by
 go_enter Tryz.func109,Tryz.ntmps109;go_wp2;all_goals (go_ret;refine ⟨ap ?_,rfl⟩;rw [a0h];simp [letterB];try omega)
theorem jk (c:UInt8) (w:a0e):a0m a0a 165 #[.int .u8 c.toNat] w λe w'=>e= .returned (.bool (letterB c))/\w=w':=by
 go_enter Tryz.func165,Tryz.ntmps165;go_wp2;all_goals (go_ret;refine ⟨ap ?_,rfl⟩;rw [a0h];simp [letterB];try omega)
theorem xJ (c:UInt8) (w:a0e):a0m a0a 228 #[.int .u8 c.toNat] w λe w'=>e= .returned (.bool (digitB c))/\w=w':=by
 go_enter Tryz.func228,Tryz.ntmps228;go_wp2;all_goals (go_ret;refine ⟨ap ?_,rfl⟩;rw [a0h];simp [digitB];try omega)
theorem nT (c:UInt8) (w:a0e):a0m a0a 159 #[.int .u8 c.toNat] w λe w'=>e= .returned (.bool (eE c))/\w=w':=by
 go_enter Tryz.func159,Tryz.ntmps159;go_wp2;all_goals (go_ret;refine ⟨ap ?_,rfl⟩;rw [a0h];simp [eE];try omega)
theorem yp (c:UInt8) (w:a0e):a0m a0a 219 #[.int .u8 c.toNat] w λe w'=>e= .returned (.bool (eE c))/\w=w':=by
 go_enter Tryz.func219,Tryz.ntmps219;go_wp2;all_goals (go_ret;refine ⟨ap ?_,rfl⟩;rw [a0h];simp [eE];try omega)
theorem qH (c:UInt8) (w:a0e):a0m a0a 156 #[.int .u8 c.toNat] w λe w'=>e= .returned (.bool (fC c))/\w=w':=by
 go_enter Tryz.func156,Tryz.ntmps156;go_wp2_with (go_at_call 159;refine (nT _ _).mono ?_;rintro e w' ⟨rfl,rfl⟩)
 all_goals (go_ret;refine ⟨ap ?_,rfl⟩;rw [a0h];simp [fC,eE];try omega)
theorem Ao (n m:Int):(n.tmod m+m)%m=n.emod m:=by
 rw [Int.add_emod_right];rw [Int.tmod_def];exact Int.sub_mul_emod_self_left n m _
theorem jj (n m:Int) (w:a0e) (c:1<=m) (d:m<=1000000):
 a0m a0a 24 #[.int .i64 n, .int .i64 m] w λe w'=>e= .returned (.int .i64 (n.emod m))/\w=w':=by
 have a:n.tmod m<m:=Int.tmod_lt_of_pos n (by omega);have b: -m<n.tmod m:=by have:=Int.lt_tmod_of_pos n (show 0<m by omega);omega
 go_enter Tryz.func24,Tryz.ntmps24;go_wp2;go_ret;exact ⟨aG (Ao n m),rfl⟩
open Go.RowKit
theorem yH (x:Ch) (c:UInt8) (b:Nat) (w:a0e) (a:jw x) (h:rD w b x):
 a0m a0a 229 #[.pointer (some ⟨b,0,none⟩), .int .u8 c.toNat] w (lN x c b w):=by
 obtain ⟨d,c1,c2,e,f,g⟩:=h;obtain ⟨k,l,j⟩:=a;have i:=mA c;go_enter Tryz.func229,Tryz.ntmps229;go_wp2;all_goals go_ret
 all_goals go_tidy
 all_goals (try simp only [beq_iff_eq,beq_eq_false_iff_ne] at *)
 all_goals first
  |(refine xd (by repeat' (with_reducible (first |exact aq.refl _ _|refine aq.setCell ?_ _ _))) rfl ?_;first |exact zA (by omega) (by omega)|exact ke (by omega) (by omega))
  |(first
   |refine ec (Ay (by omega) (by omega)) (by repeat' (with_reducible (first |exact aq.refl _ _|refine aq.setCell ?_ _ _))) rfl ?_
   |refine ec (qZ (by omega) (by omega)) (by repeat' (with_reducible (first |exact aq.refl _ _|refine aq.setCell ?_ _ _))) rfl ?_
   |refine ec (xU (by omega) (by omega)) (by repeat' (with_reducible (first |exact aq.refl _ _|refine aq.setCell ?_ _ _))) rfl ?_
   |refine ec (zU (by omega) (by omega)) (by repeat' (with_reducible (first |exact aq.refl _ _|refine aq.setCell ?_ _ _))) rfl ?_
   |refine ec (zT (by omega) (by omega)) (by repeat' (with_reducible (first |exact aq.refl _ _|refine aq.setCell ?_ _ _))) rfl ?_
   |refine ec (zS (by omega) (by omega)) (by repeat' (with_reducible (first |exact aq.refl _ _|refine aq.setCell ?_ _ _))) rfl ?_
   |refine ec (zR (by omega) (by omega)) (by repeat' (with_reducible (first |exact aq.refl _ _|refine aq.setCell ?_ _ _))) rfl ?_
   |refine ec (zQ (by omega) (by omega)) (by repeat' (with_reducible (first |exact aq.refl _ _|refine aq.setCell ?_ _ _))) rfl ?_
   |refine ec (zP (by omega) (by omega)) (by repeat' (with_reducible (first |exact aq.refl _ _|refine aq.setCell ?_ _ _))) rfl ?_)
 all_goals constructor
 all_goals go_simp
 all_goals (first |omega|(refine World.cell?_setCell_same' _ _ _ ?_;go_simp;done))
theorem jo (l:Bs) (w:a0e) (u:l.length<=1000000):
 a0m a0a 218 #[S l] w λe w'=>e= .returned (.bool (aP l))/\a0n w.heap.size w w':=by
 go_enter Tryz.func218,Tryz.ntmps218;go_wp2_with fail
 go_loopw [4,5] (λi f wr=>∃(k:Nat) (y:Ch),k<=l.length/\i= .int .i64 k/\chRun ch0 (l.take k)=some y/\jw y/\rD wr w.heap.size y/\a0n w.heap.size w wr) (λi _ _=>l.length - (intOf i).toNat)
 case atStart=>exact ⟨0,ch0,a0s _,rfl,rfl,xW,xX w 297,(a0g _ _).alloc (a0b _) _⟩
 case round=>
  obtain ⟨k,y,t,rfl,h,d,c,b⟩:=hrel;have a:=a0c h;clear h;by_cases hlt:k<l.length
  · have m:=a0c (uo l k hlt);go_wp2_with (go_at_call 229;refine (yH y l[k] w.heap.size wr d c).mono ?_;rintro e v ⟨g,⟨o,rfl⟩|⟨z,j,rfl,n⟩⟩)
    · go_ret;exact ⟨ap (qE (sW l k y hlt ch0 a.out o.out)).symm,b.trans (g.below (a0b _))⟩
    · go_roundw
      case rel=>exact ⟨k+1,z,by omega,by go_num,by rw [m.out,sV _ _ _ _ a.out];exact j.out,re d j.out,n,b.trans (g.below (a0b _))⟩
      case measure=>simp [intOf];omega
  · obtain ⟨p,c1,c2,q,r,s⟩:=c;go_wp2_with fail
    go_ret;refine ⟨ap ?_,b⟩;rw [sI (by rw [<- a.out,a0f (by omega)]),a0h];simp;try omega
open Go.RowKit
attribute [local go_sem ↓] Go.wp_at_zero Go.wp_at_succ
theorem eB (l:Bs) (w:a0e) (a:2<=l.length):
 a0m a0a 217 #[S l] w λe w'=>e= .returned (.bool (fa l))/\w=w':=by
 go_enter Tryz.func217,Tryz.ntmps217;go_wp2;go_ret;exact ⟨ap (by unfold fa;rw [a0h];simp),rfl⟩
theorem eZ (l:Bs) (w:a0e):
 a0m a0a 176 #[S l] w λe w'=>e= .returned (.bool (bp l))/\w=w':=by
 by_cases h:l.length=3
 · obtain ⟨a,b,c,rfl⟩:∃a b c,l=[a,b,c]:=by
    match l,h with
    |[a,b,c],_=>exact ⟨a,b,c,rfl⟩
   have d:∀x,x=bp [a,b,c]->Ending.returned (.bool x)= .returned (.bool (bp [a,b,c])):=λx h=>by rw [h]
   have f:=a0c d;clear h d;cases ha:digitB a<;>cases hb:digitB b<;>cases hc:digitB c
   all_goals
    go_enter Tryz.func176,Tryz.ntmps176
    go_wp2_with (go_at_call 228;refine (xJ _ _).mono ?_;rintro e w' ⟨rfl,rfl⟩)
    go_ret
    refine ⟨f _ ?_,rfl⟩
    rw [a0h]
    simp [bp,ha,hb,hc]
   all_goals (by_cases x:a=48<;>by_cases y:b=48<;>by_cases z:c=48<;>simp [x,y,z])
 · have g:((l.length:Int)==3)=false:=by simp;omega
   have d:bp l=false:=by simp [bp,h]
   go_enter Tryz.func176,Tryz.ntmps176;go_wp2_with fail
   go_ret;exact ⟨ap d.symm,rfl⟩
theorem vJ (w:a0e) (b:Nat) (c:Int) (h:w.cell? ⟨b,0,none⟩=some (.int .u8 c)) (d:0<=c/\c<256):
 (convert 76 9 (.slice (some ⟨b,0,none⟩) 1 1)).run a0a w= .ok (S [a0i c.toNat]) w:=by
 have:=run_convert_bytes_back (P:=a0a) w 76 9 5 ⟨b,0,none⟩ 1 [a0i c.toNat] Tryz.underlying76 Tryz.underlying5 Tryz.underlying9
  (λj a=>by
   have:j=0:=by simpa using a
   subst this
   simp [a0u,h]
   omega)
 simpa using this
open Go.RowKit
attribute [local go_sem ↓] Go.wp_at_zero Go.wp_at_succ
theorem ri (f:af) (d:a0k) (w:a0e) (z:az 0 w.heap.size w d f.subs) (r:(fieldBytes f).length<=1000000) (P:f.subs.length<=1000000):
 a0m a0a 123 #[fieldV f d] w λe w'=>e= .returned (S (fieldBytes f))/\a0n w.heap.size w w':=by
 obtain ⟨u,l,j,c⟩:=f;have N:j.length+l.length<=1000000:=by simp [fieldBytes] at r;omega
 have x:=a0c r;have D:=a0c z;obtain ⟨a,m,rfl,_⟩:=z;clear r;unfold fieldV;go_enter Tryz.func123,Tryz.ntmps123;go_wp2_with fail
 go_loopw [3,4] (λs i wr=>∃(k:Nat) (g:Bs),k<=c.length/\i= .int .i64 k/\s=S g/\Hid (g=j++l++(c.take k).flatMap aQ)/\g.length<1000000/\
  a0n (w.heap.size+1) (w.alloc (a0p #[S u,S l,S j,a0d a c.length m] 123)) wr) (λ_ i _=>c.length - (intOf i).toNat)
 case atStart=>exact ⟨0,j++l,a0s _,rfl,rfl,(by simp [Hid]),(by have:=bI ⟨u,l,j,c⟩ 0;have:=x.out;simp at *;omega),a0g _ _⟩
 case round=>
  obtain ⟨k,g,M,rfl,rfl,v,L,n⟩:=hrel;have q:wr.cell? ⟨w.heap.size,3,none⟩=some (a0d a c.length m):=by rw [n.cell (p:=⟨w.heap.size,3,none⟩) (by simp)];go_simp
  by_cases hlt:k<c.length
  · have E:az 0 w.heap.size wr (a0d a c.length m) c:=(D.out.kept (bd ((a0g _ w).alloc (a0b _) _) (a0b _))).kept (bd n (by omega));obtain ⟨b,t,K,F,_,_,A,B⟩:=E.sub k hlt;cases F;have y:Hid (g++(31::c[k].code::c[k].text)=j++l++(c.take (k+1)).flatMap aQ):=by rw [js _ _ _ hlt,v.out];simp [Hid,aQ]
    have O:g.length+2+c[k].text.length<1000000:=by have:=bI ⟨u,l,j,c⟩ (k+1);simp only at this;rw [<- y.out] at this;have:=x.out;simp at *;omega
    have Q:=λW b (h:W.cell? ⟨b,0,none⟩=some (.int .u8 c[k].code.toNat))=>vJ W b _ h ⟨wi _,mA _⟩;generalize c[k].text=T at *;generalize c[k].code=C at *;have H:∀o,(wr.alloc o).cell? ⟨w.heap.size,3,none⟩=some (a0d (some ⟨b,t,none⟩) c.length m):=λo=>by rw [aR _ _ _ _ (bq q)];exact q
    have I:∀o,(wr.alloc o).cell? ⟨b,t+k * 2,none⟩=some (.int .u8 C.toNat):=λo=>by rw [aR _ _ _ _ (bq A)];exact A
    have J:∀o,(wr.alloc o).cell? ⟨b,t+k * 2+1,none⟩=some (S T):=λo=>by rw [aR _ _ _ _ (bq B)];exact B
    have G:¬9223372036854775807<a0y g+1:=by omega
    have R:¬9223372036854775807<a0y g+1+1:=by omega
    have U:¬9223372036854775807<a0y g+1+1+a0y T:=by omega
    go_wp2_with fail
    go_region;go_wp2_with fail
    go_roundw
    case rel=>
     refine ⟨k+1,g++(31::C::T),by omega,by go_num,?_,y,by simp;omega,?_⟩
     · simp
     · exact (n.alloc (by have:w.heap.size<wr.heap.size:=bq q;omega) _).drew
    case measure=>simp [intOf];omega
  · have G:¬9223372036854775807<a0y g+1:=by omega
    go_wp2_with fail
    go_ret;refine ⟨tL ?_,btr ((a0g _ w).alloc (a0b _) _) n (by omega)⟩;rw [v.out,a0f (by omega)];rfl
end
section
open Go.RowKit
theorem lA (l:Bs) (w:a0e):∃c w1,(convert 9 76 (S l)).run a0a w= .ok (.slice (some ⟨w.heap.size,0,none⟩) l.length c) w1/\w1.heap.size=w.heap.size+1/\l.length<=c/\a0n w.heap.size w w1/\
 (∀k (h:k<l.length),w1.cell? ⟨w.heap.size,k,none⟩=some (.int .u8 l[k].toNat))/\(∀k,k<l.length->w1.frozen? ⟨w.heap.size,k,none⟩=false):=by
 have e:l.length<=grownCap w l.length 0 5:=grownCap_ge w l.length 0 5;refine ⟨_,_,run_bytes_of_string w 9 76 5 ⟨l.toArray⟩ Tryz.underlying9 Tryz.underlying76 Tryz.underlying5,by simp,e,((a0g _ w).drew).alloc (by simp) _,?_,?_⟩
 · intro k h;refine (World.cell?_alloc_mark w.drew _ _ _ k).trans ?_;have a:k<(Array.map (λb:UInt8=>a0C a0G ↑b.toNat) (⟨l.toArray⟩:ByteArray).data).size:=by simpa using h
   unfold bytesRow;rw [Array.getElem?_append_left a];simp [h]
 · intro k h;refine (World.frozen?_alloc_mark w.drew _ _ _ _ k).trans ?_;have a:k<(bytesRow ⟨l.toArray⟩ (grownCap w l.length 0 5)).size:=by unfold bytesRow;simp;omega
   have d:(decide ((bytesRow ⟨l.toArray⟩ (grownCap w l.length 0 5)).size<=k))=false:=by simpa using a
   show (decide ((bytesRow ⟨l.toArray⟩ (grownCap w l.length 0 5)).size<=k)&&_)=false;rw [d];rfl
def ol (p s:Bs):Bool:=decide (s.take p.length=p)
theorem oJ (s p:Bs) (w:a0e):a0m a0a 273 #[S s,S p] w λe w'=>e= .returned (.bool (ol p s))/\w=w':=by
 go_enter Tryz.func273,Tryz.ntmps273;go_wp2;all_goals go_ret
 all_goals refine ⟨ap ?_,rfl⟩
 · rw [ol,a0h];simp
 · rename_i h;symm;rw [ol,decide_eq_false_iff_not]
   intro a;apply h;rw [<- a];simp;omega
theorem fD (s p:Bs) (w:a0e):a0m a0a 205 #[S s,S p] w λe w'=>e= .returned (.bool (ol p s))/\w=w':=by
 go_enter Tryz.func205,Tryz.ntmps205;go_wp2_with (go_at_call 273;refine (oJ _ _ _).mono ?_;rintro e w' ⟨rfl,rfl⟩)
 go_ret;exact ⟨rfl,rfl⟩
theorem lr (l:Bs) (w:a0e):a0m a0a 154 #[S l] w λe w'=>e= .returned (.bool (fa l))/\w=w':=by
 go_enter Tryz.func154,Tryz.ntmps154;go_wp2_with (go_at_call 205;refine (fD _ [48,48] _).mono ?_;rintro e w' ⟨rfl,rfl⟩)
 go_ret;exact ⟨rfl,rfl⟩
open Go.Shelf
def qr:Go.Shelf.Ren:=⟨λ|160=>204|232=>267|231=>266|227=>268|234=>270|233=>269|236=>272|235=>271|228=>307|271=>308|151=>235|197=>278|120=>330|152=>284|260=>310|137=>246|119=>312|224=>313|225=>314|217=>291|266=>323|n=>n,λ|9=>9|4=>4|3=>3|5=>5|117=>328|116=>327|0=>0|124=>331|21=>21|105=>334|46=>218|119=>383|139=>386|138=>385|n=>n,λ|3=>0|4=>1|n=>n⟩
theorem yU:Go.Proofs.Lays.n160 a0a qr:={
 mixed:=by kernel_rfl
 f119:=Tryz.func312.trans (congrArg some (by kernel_rfl))
 f120:=Tryz.func330.trans (congrArg some (by kernel_rfl))
 f137:=Tryz.func246.trans (congrArg some (by kernel_rfl))
 f151:=Tryz.func235.trans (congrArg some (by kernel_rfl))
 f152:=Tryz.func284.trans (congrArg some (by kernel_rfl))
 f160:=Tryz.func204.trans (congrArg some (by kernel_rfl))
 f197:=Tryz.func278.trans (congrArg some (by kernel_rfl))
 f217:=Tryz.func291.trans (congrArg some (by kernel_rfl))
 f224:=Tryz.func313.trans (congrArg some (by kernel_rfl))
 f225:=Tryz.func314.trans (congrArg some (by kernel_rfl))
 f227:=Tryz.func268.trans (congrArg some (by kernel_rfl))
 f228:=Tryz.func307.trans (congrArg some (by kernel_rfl))
 f231:=Tryz.func266.trans (congrArg some (by kernel_rfl))
 f232:=Tryz.func267.trans (congrArg some (by kernel_rfl))
 f233:=Tryz.func269.trans (congrArg some (by kernel_rfl))
 f234:=Tryz.func270.trans (congrArg some (by kernel_rfl))
 f235:=Tryz.func271.trans (congrArg some (by kernel_rfl))
 f236:=Tryz.func272.trans (congrArg some (by kernel_rfl))
 f260:=Tryz.func310.trans (congrArg some (by kernel_rfl))
 f266:=Tryz.func323.trans (congrArg some (by kernel_rfl))
 f271:=Tryz.func308.trans (congrArg some (by kernel_rfl))
 t0:=Tryz.underlying0
 a0:=Tryz.isAgg0
 z0:=Tryz.sizeOf0
 v0:=Tryz.zeroValue0
 t3:=Tryz.underlying3
 a3:=Tryz.isAgg3
 z3:=Tryz.sizeOf3
 v3:=Tryz.zeroValue3
 t4:=Tryz.underlying4
 a4:=Tryz.isAgg4
 z4:=Tryz.sizeOf4
 v4:=Tryz.zeroValue4
 t5:=Tryz.underlying5
 a5:=Tryz.isAgg5
 z5:=Tryz.sizeOf5
 v5:=Tryz.zeroValue5
 t9:=Tryz.underlying9
 a9:=Tryz.isAgg9
 z9:=Tryz.sizeOf9
 v9:=Tryz.zeroValue9
 t21:=Tryz.underlying21
 a21:=Tryz.isAgg21
 z21:=Tryz.sizeOf21
 v21:=Tryz.zeroValue21
 t46:=Tryz.underlying218
 a46:=Tryz.isAgg218
 z46:=Tryz.sizeOf218
 v46:=Tryz.zeroValue218
 t105:=Tryz.underlying334
 a105:=Tryz.isAgg334
 z105:=Tryz.sizeOf334
 v105:=Tryz.zeroValue334
 t116:=Tryz.underlying327
 a116:=Tryz.isAgg327
 z116:=Tryz.sizeOf327
 t117:=Tryz.underlying328
 a117:=Tryz.isAgg328
 z117:=Tryz.sizeOf328
 v117:=Tryz.zeroValue328
 t119:=Tryz.underlying383
 a119:=Tryz.isAgg383
 z119:=Tryz.sizeOf383
 t124:=Tryz.underlying331
 a124:=Tryz.isAgg331
 z124:=Tryz.sizeOf331
 v124:=Tryz.zeroValue331
 t138:=Tryz.underlying385
 a138:=Tryz.isAgg385
 z138:=Tryz.sizeOf385
 v138:=Tryz.zeroValue385
 t139:=Tryz.underlying386
 a139:=Tryz.isAgg386
 z139:=Tryz.sizeOf386
 v139:=Tryz.zeroValue386
 g3:=by kernel_rfl
 g4:=by kernel_rfl}
def jG:Go.Shelf.Ren:=⟨λ|240=>161|276=>207|n=>n,λ|0=>0|4=>4|9=>9|20=>20|70=>185|72=>187|164=>282|37=>76|5=>5|n=>n,λ|n=>n⟩
theorem tS:Go.Proofs.Lays.n240 a0a jG:={
 mixed:=by kernel_rfl
 f240:=Tryz.func161.trans (congrArg some (by kernel_rfl))
 f276:=Tryz.func207.trans (congrArg some (by kernel_rfl))
 t0:=Tryz.underlying0
 a0:=Tryz.isAgg0
 z0:=Tryz.sizeOf0
 v0:=Tryz.zeroValue0
 t4:=Tryz.underlying4
 a4:=Tryz.isAgg4
 z4:=Tryz.sizeOf4
 v4:=Tryz.zeroValue4
 t9:=Tryz.underlying9
 a9:=Tryz.isAgg9
 z9:=Tryz.sizeOf9
 v9:=Tryz.zeroValue9
 t20:=Tryz.underlying20
 a20:=Tryz.isAgg20
 z20:=Tryz.sizeOf20
 v20:=Tryz.zeroValue20
 t70:=Tryz.underlying185
 a70:=Tryz.isAgg185
 z70:=Tryz.sizeOf185
 v70:=Tryz.zeroValue185
 t72:=Tryz.underlying187
 a72:=Tryz.isAgg187
 z72:=Tryz.sizeOf187
 v72:=Tryz.zeroValue187
 t164:=Tryz.underlying282
 a164:=Tryz.isAgg282
 z164:=Tryz.sizeOf282
 v164:=Tryz.zeroValue282}
theorem lC:Builder.X72 a0a jG:={sizeBuilder:=by kernel_rfl,liesBuilder:=by kernel_rfl}
open Go.RowKit in
theorem ln (b:Nat) (w:a0e) (a:w.cell? ⟨b,0,none⟩=some (.pointer (some ⟨b,0,none⟩))):
 a0m a0a 161 #[.pointer (some ⟨b,0,none⟩)] w λe w'=>e= .returned (.tuple #[])/\w'=w:=Any.Builder_copyCheck_used tS lC b w a
open Go.RowKit in
theorem jW (b:Nat) (w:a0e) (a:w.cell? ⟨b,0,none⟩=some (.pointer none)) (d:w.shape? b=some (187,2)) (c:w.frozen? ⟨b,0,none⟩=false):
 a0m a0a 161 #[.pointer (some ⟨b,0,none⟩)] w λe w'=>e= .returned (.tuple #[])/\w'=w.setCell ⟨b,0,none⟩ (.pointer (some ⟨b,0,none⟩)):=Any.Builder_copyCheck_fresh tS lC b w a d c
open Go.RowKit in
open Go.RowKit in
open Go.RowKit in
theorem nC (s:ByteArray) (w:a0e) (a:s.size<=9223372036854775807):
 a0m a0a 204 #[.string s, .string ⟨#[48,49,50,51,52,53,54,55,56,57]⟩] w λe w'=>e= .returned (.string ⟨(a0D s.data.toList [48,49,50,51,52,53,54,55,56,57]).toArray⟩)/\a0n w.heap.size w w':=
 Any.strings_Trim_laid yU (by kernel_rfl) s ⟨#[48,49,50,51,52,53,54,55,56,57]⟩ w a (by decide) (ascii_of_all (by decide))
open Go.RowKit
def il:Bs:=[48,49,50,51,52,53,54,55,56,57]
theorem ll (b:UInt8):il.contains b=digitB b:=by
 have:∀n:Fin 256,il.contains (a0i n.val)=digitB (a0i n.val):=by decide+kernel
 have h:=this ⟨b.toNat,b.toNat_lt⟩;simpa using h
theorem ku (l:Bs):a0D l il=[]↔l.all digitB=true:=by
 have b:∀l:Bs,l.dropWhile (il.contains ·)=[]↔l.all digitB=true:=by
  intro l;induction l with
  |nil=>simp
  |cons a l ih=>
   rw [List.dropWhile_cons];by_cases h:digitB a=true
   · rw [if_pos (by rw [ll];exact h),ih];simp [h]
   · rw [if_neg (by rw [ll];exact h)];simp [h]
 unfold a0D Lib.trimLeftS;rw [b];unfold Lib.trimRightS;constructor
 · intro h;have c:(l.reverse.dropWhile (il.contains ·))=[]:=by
    cases hd:l.reverse.dropWhile (il.contains ·) with
    |nil=>rfl
    |cons a r=>
     exfalso;have e:¬(il.contains a)=true:=by have d:=List.head?_dropWhile_not (il.contains ·) l.reverse;rw [hd] at d;simp only [List.head?_cons] at d;rw [d];simp
     rw [hd] at h;rw [List.all_eq_true] at h;have:=h a (by simp);rw [ll] at e;exact e this
   have:=(b l.reverse).1 c;simpa using this
 · intro h;have c:(l.reverse.dropWhile (il.contains ·))=[]:=(b l.reverse).2 (by simpa using h);rw [c];rfl
theorem rP (l:Bs) (w:a0e):a0m a0a 153 #[S l] w λe w'=>e= .returned (.bool (bp l))/\a0n w.heap.size w w':=by
 by_cases h:l.length=3
 · by_cases hz:l=[48,48,48]
   · subst hz;go_enter Tryz.func153,Tryz.ntmps153;go_wp2_with fail
     go_ret;exact ⟨rfl,a0g _ _⟩
   · have b:Hid (bp l=l.all digitB):=by unfold Hid;simp [bp,h,hz]
     have d:((l.length:Int)==3)=true:=by simp;omega
     have a:Hid (∀W,a0m a0a 204 #[S l, .string ⟨#[48,49,50,51,52,53,54,55,56,57]⟩] W λe w'=>e= .returned (S (a0D l il))/\a0n W.heap.size W w'):=λW=>nC ⟨l.toArray⟩ W (by have:(⟨l.toArray⟩:ByteArray).size=l.length:=rfl;omega);have c:=a0c (ku l);clear h;generalize a0D l il=t at *;go_enter Tryz.func153,Tryz.ntmps153;go_wp2_with (go_at_call 204;((with_reducible refine a0r (a.out _) ?_);rintro e w' ⟨rfl,g⟩))
     go_ret;refine ⟨ap ?_,g⟩;rw [b.out,a0h, <- c.out];simp [hz]
 · have d:((l.length:Int)==3)=false:=by simp;omega
   have f:bp l=false:=by simp [bp,h]
   go_enter Tryz.func153,Tryz.ntmps153;go_wp2_with fail
   go_ret;exact ⟨ap f.symm,a0g _ _⟩
end
section
open Go.RowKit
theorem rD.of {b:Nat} {w w':a0e} {x:Ch} (h:rD w b x) (d:w'.heap[b]? =w.heap[b]?):rD w' b x:=by
 have a:∀i,w'.cell? ⟨b,i,none⟩=w.cell? ⟨b,i,none⟩:=λi=>a0x (w:=w) d;have c:∀i,w'.frozen? ⟨b,i,none⟩=w.frozen? ⟨b,i,none⟩:=λi=>World.frozen?_of_block (w:=w) d;exact ⟨by rw [a];exact h.c0,by rw [a];exact h.c1,by rw [a];exact h.c2,by rw [c];exact h.f0,by rw [c];exact h.f1,by rw [c];exact h.f2⟩
theorem aF (w:a0e) (a b:Addr) (u:a0k):(w.setCell a u).frozen? b=w.frozen? b:=by
 unfold World.frozen? a0E;simp only [a0t];by_cases h:a.block=b.block
 · rw [if_pos h, <- h];cases w.heap[a.block]? with
   |none=>rfl
   |some o=>cases o<;>rfl
 · rw [if_neg h]
theorem xz (a:List ci):(a.flatMap subCells).length=a.length * 2:=by
 induction a with
 |nil=>rfl
 |cons s l ih=>rw [List.flatMap_cons,a0z,ih];simp [subCells];omega
theorem aN (w:a0e) (o:Obj):a0n w.heap.size w (w.alloc o):=(a0g _ w).alloc (a0b _) o
theorem bH {w:a0e} {B:Nat} {e:TypeId} {k:Nat} {v:a0k} {n:Nat} {c:List a0k} (h:w.ownsRow B e k v n c):∃a b,v= .slice a n b:=by
 rcases h.2 with ⟨rfl,rfl⟩|⟨g,b,d,rfl,_⟩
 · exact ⟨none,0,rfl⟩
 · exact ⟨_,_,rfl⟩
open Go.RowKit
def bh (lo:Nat) (g:Option Nat) (w:a0e) (v:a0k) (c:List ci):Prop:=
 ∃a e,v= .slice a c.length e/\(c≠[]->∃b d,a=some ⟨b,d,none⟩/\lo<=b/\b<w.heap.size/\g≠some b/\∀j x,(c.flatMap subCells)[j]? =some x->w.cell? ⟨b,d+j,none⟩=some x)
theorem oK {a:List ci}:a.flatMap subCells≠[]↔a≠[]:=by
 cases a with
 |nil=>simp
 |cons s l=>simp [subCells]
theorem bh.at {lo:Nat} {g:Option Nat} {w:a0e} {v:a0k} {c:List ci} (h:bh lo g w v c):az lo w.heap.size w v c:=by
 obtain ⟨a,d,l,h⟩:=h;refine ⟨a,d,l,λk=>?_⟩;obtain ⟨b,m,e,f,i,_,j⟩:=h (oK.1 k);exact ⟨b,m,e,f,i,j⟩
theorem bh.of {lo c:Nat} {g:Option Nat} {w:a0e} {v:a0k} {d:List ci} (h:az lo w.heap.size w v d) (r:c<=lo) (n:∀k,g=some k->k<lo):bh c g w v d:=by
 obtain ⟨a,f,o,h⟩:=h;refine ⟨a,f,o,λm=>?_⟩;obtain ⟨b,p,i,q,j,l⟩:=h (oK.2 m);exact ⟨b,p,i,by omega,j,λe=>by have:=n b e;omega,l⟩
theorem bh.step {lo:Nat} {g c:Option Nat} {w w':a0e} {v:a0k} {i:List ci} (h:bh lo g w v i) (r:∀k,lo<=k->k<w.heap.size->g≠some k->w'.heap[k]? =w.heap[k]?) (z:w.heap.size<=w'.heap.size)
 (q:c=g∨∃k,c=some k/\w.heap.size<=k):bh lo c w' v i:=by
 obtain ⟨a,l,s,h⟩:=h;refine ⟨a,l,s,λp=>?_⟩;obtain ⟨b,u,m,d,n,f,o⟩:=h p;refine ⟨b,u,m,d,by omega,?_,λj x t=>by rw [a0x (w:=w) (r b d n f)];exact o j x t⟩;rcases q with rfl|⟨k,rfl,y⟩
 · exact f
 · intro e;injection e;omega
structure bG (lo:Nat) (w:a0e) (v:a0k) (fs:List af):Prop where
 ex:∃ps:List (af×a0k),ps.map (·.1)=fs/\(∀p∈ps,bh lo v.ownBlock w p.2 p.1.subs)/\w.ownsRow lo 123 4 v fs.length (ps.flatMap fieldCells)
theorem bG.nil (lo:Nat) (w:a0e):bG lo w (.slice none 0 0) []:=⟨⟨[],rfl,by simp,a0I _ _ _ _⟩⟩
theorem bG.shape {lo:Nat} {w:a0e} {v:a0k} {b:List af} (h:bG lo w v b):∃a c,v= .slice a b.length c:=by
 obtain ⟨ps,_,_,h⟩:=h.ex;exact bH h
theorem bG.keep {lo:Nat} {w w':a0e} {v:a0k} {c:List af} (h:bG lo w v c) (i:∀k,lo<=k->k<w.heap.size->w'.heap[k]? =w.heap[k]?) (t:w.heap.size<=w'.heap.size):bG lo w' v c:=by
 obtain ⟨ps,m,n,d⟩:=h.ex;refine ⟨⟨ps,m,λp q=>(n p q).step (λk a b _=>i k a b) t (.inl rfl),?_⟩⟩;refine ⟨d.1,?_⟩;rcases d.2 with o|⟨g,j,l,s,e,f,r⟩
 · exact .inl o
 · refine .inr ⟨g,j,l,s,e,?_,r⟩;rw [i g e (Array.getElem?_eq_some_iff.1 f).1];exact f
theorem bG.app {lo:Nat} {w1 e:a0e} {v c:a0k} {g:List af} (f:af) (d:a0k) (ps:List (af×a0k)) (m:ps.map (·.1)=g) (n:∀p∈ps,bh lo v.ownBlock w1 p.2 p.1.subs) (o:bh lo v.ownBlock w1 d f.subs)
 (s:e.ownsRow lo 123 4 c (g.length+1) (ps.flatMap fieldCells++fieldCells (f,d))) (j:w1.grownBy e v.ownBlock) (b:c.ownBlock=v.ownBlock∨c.ownBlock=some w1.heap.size):bG lo e c (g++[f]):=by
 have l:∀x i,bh lo v.ownBlock w1 x i->bh lo c.ownBlock e x i:=λx i h=>
  h.step (λk _ q r=>j.block k q (Ne.symm r)) j.size (by rcases b with b|b;exact .inl b;exact .inr ⟨_,b,a0b _⟩)
 refine ⟨⟨ps++[(f,d)],by simp [m],?_,by simpa using s⟩⟩;intro p a;rcases List.mem_append.1 a with a|a
 · exact l _ _ (n p a)
 · simp at a;subst a;exact l _ _ o
theorem bG.fields {lo e:Nat} {w:a0e} {v:a0k} {b:List af} (h:bG lo w v b) (m:e<=lo):ai e w.heap.size w v b:=by
 obtain ⟨ps,c,i,a⟩:=h.ex;refine ⟨ps,c,λp o=>(i p o).at.mono m (a0b _),?_⟩;have u:ps.length=b.length:=by rw [<- c];simp
 rcases a.2 with ⟨rfl,f⟩|⟨g,q,r,rfl,s,t,y⟩
 · refine ⟨none,0,by rw [f],λl=>?_⟩;have:ps=[]:=a0B (by omega);subst this;exact absurd rfl l
 · have n:=a.lt g (by simp [Value.ownBlock]);refine ⟨_,_,rfl,λ_=>⟨g,0,rfl,by omega,n.2,λj x d=>?_⟩⟩;have k:=a.cellAt j (by have:=(List.getElem?_eq_some_iff.1 d).1;rw [a.1] at this;exact this);rw [Nat.zero_add,k];exact d
end
section
open Go.RowKit
theorem tw (f:af) (i:Nat) (h:i<f.subs.length):f.subs[i].text.length<=(fieldBytes f).length:=by
 have:=bI f (i+1);rw [js _ _ _ h] at this;simp [aQ] at this;omega
theorem wd (f:af) (h:bp f.tag=false):wrongF f=13:=by simp [wrongF,h]
theorem tt (f:af) (h:bp f.tag=true) (a:fa f.tag=true):wrongF f=if aP f.data&&decide (f.ind=[])&&f.subs.isEmpty then 0 else 14:=by simp [wrongF,h,a]
theorem nv (f:af) (h:bp f.tag=true) (a:fa f.tag=false):wrongF f=if decide (f.data=[])&&gX f.ind&& !f.subs.isEmpty&&f.subs.all db then 0 else 14:=by simp [wrongF,h,a]
theorem oe (f:af) (d:a0k) (w:a0e) (h:bp f.tag=false):
 a0m a0a 166 #[fieldV f d] w λe w'=>e= .returned (.int .i64 (wrongF f))/\a0n w.heap.size w w':=by
 have a:=a0c (wd f h);obtain ⟨i,c,b,g⟩:=f;simp only at h;unfold fieldV;go_enter Tryz.func166,Tryz.ntmps166;go_wp2_with (go_at_call 176;refine (eZ _ _).mono ?_;rintro e w' ⟨rfl,rfl⟩)
 go_ret;exact ⟨aG a.symm,(a0g _ w).alloc (a0b _) _⟩
theorem l8 (f:af) (d:a0k) (w:a0e) (n:∃a g,d= .slice a f.subs.length g) (o:(fieldBytes f).length<=1000000) (h:bp f.tag=true) (b:fa f.tag=true):
 a0m a0a 166 #[fieldV f d] w λe w'=>e= .returned (.int .i64 (wrongF f))/\a0n w.heap.size w w':=by
 have l:=a0c (tt f h b);obtain ⟨a,g,rfl⟩:=n;have c:=bI f 0;have k:=gK h;obtain ⟨r,t,i,u⟩:=f;simp only at h b c k;have p:i.length<=1000000:=by simp at c;omega
 have q:2<=r.length:=by omega
 clear c k o;unfold fieldV;cases ht:aP i
 all_goals
  go_enter Tryz.func166,Tryz.ntmps166
  go_wp2_with first
   |(go_at_call 176;refine (eZ _ _).mono ?_;rintro e w' ⟨rfl,rfl⟩)
   |(go_at_call 217;refine (eB _ _ q).mono ?_;rintro e w' ⟨rfl,rfl⟩)
   |(go_at_call 218;refine (jo _ _ p).mono ?_;rintro e w1 ⟨rfl,j⟩;obtain ⟨b,s⟩:=aE j)
  all_goals go_ret
  all_goals refine ⟨aG (l.out.trans ?_).symm,btr ((a0g _ w).alloc (a0b _) _) j (by simp)⟩
  all_goals go_tidy
  all_goals simp_all
  all_goals (try (intro m;subst m;simp at *))
theorem og (f:af) (d:a0k) (w:a0e) (r:∃a k,d= .slice a f.subs.length k) (h:bp f.tag=true) (m:fa f.tag=false)
 (g:(decide (f.data=[])&&gX f.ind&& !f.subs.isEmpty)=false):
 a0m a0a 166 #[fieldV f d] w λe w'=>e= .returned (.int .i64 (wrongF f))/\a0n w.heap.size w w':=by
 have i:Hid (wrongF f=14):=by rw [nv f h m,g];rfl
 obtain ⟨a,k,rfl⟩:=r;have n:=gK h;obtain ⟨t,b,c,s⟩:=f;simp only at h m n g;have j:2<=t.length:=by omega
 clear n;unfold fieldV;by_cases hd0:c=[]
 · subst hd0;by_cases hi:b.length=2
   · obtain ⟨p,q,rfl⟩:∃p q,b=[p,q]:=by
      match b,hi with
      |[p,q],_=>exact ⟨p,q,rfl⟩
     have o:=a0c g;clear g hi;have A:=mA p;have B:=mA q;go_enter Tryz.func166,Tryz.ntmps166
     go_wp2_with first
      |(go_at_call 176;refine (eZ _ _).mono ?_;rintro e w' ⟨rfl,rfl⟩)
      |(go_at_call 217;refine (eB _ _ j).mono ?_;rintro e w' ⟨rfl,rfl⟩)
     all_goals first
      |(go_ret;exact ⟨aG i.symm,(a0g _ w).alloc (a0b _) _⟩)
      |(exfalso
        go_tidy
        have l:=o.out
        simp [gX,fC] at l
        simp at *
        have:s=[]:=l (by omega) (by omega) (by omega) (by omega)
        subst this
        simp at *)
   · have y:((b.length:Int)==2)=false:=by simp;omega
     have z:((b.length:Int)!=2)=true:=by simp;omega
     go_enter Tryz.func166,Tryz.ntmps166
     go_wp2_with first
      |(go_at_call 176;refine (eZ _ _).mono ?_;rintro e w' ⟨rfl,rfl⟩)
      |(go_at_call 217;refine (eB _ _ j).mono ?_;rintro e w' ⟨rfl,rfl⟩)
     go_ret;exact ⟨aG i.symm,(a0g _ w).alloc (a0b _) _⟩
 · have u:(c==[])=false:=by simpa using hd0
   have v:(c !=[])=true:=by simpa using hd0
   have x:c.isEmpty=false:=by simpa using hd0
   go_enter Tryz.func166,Tryz.ntmps166
   go_wp2_with first
    |(go_at_call 176;refine (eZ _ _).mono ?_;rintro e w' ⟨rfl,rfl⟩)
    |(go_at_call 217;refine (eB _ _ j).mono ?_;rintro e w' ⟨rfl,rfl⟩)
   go_ret;exact ⟨aG i.symm,(a0g _ w).alloc (a0b _) _⟩
theorem l0 (f:af) (d:a0k) (w:a0e) (F:az 0 w.heap.size w d f.subs) (B:(fieldBytes f).length<=1000000) (O:f.subs.length<=1000000) (h:bp f.tag=true) (z:fa f.tag=false)
 (l:(decide (f.data=[])&&gX f.ind&& !f.subs.isEmpty)=true):
 a0m a0a 166 #[fieldV f d] w λe w'=>e= .returned (.int .i64 (wrongF f))/\a0n w.heap.size w w':=by
 have x:Hid (wrongF f=if f.subs.all db then 0 else 14):=by rw [nv f h z,l];rfl
 have D:=gK h;have H:=a0c (λi h=>a0v (tw f i h) B);obtain ⟨r,o,V,c⟩:=f;simp only at h z D l O;have N:2<=r.length:=by omega
 simp only [Bool.and_eq_true,decide_eq_true_eq,Bool.not_eq_true'] at l;obtain ⟨⟨rfl,m⟩,G⟩:=l;have A:o.length=2:=by simp [gX] at m;exact m.1
 obtain ⟨p,q,rfl⟩:∃p q,o=[p,q]:=by
  match o,A with
  |[p,q],_=>exact ⟨p,q,rfl⟩
 simp [gX,fC] at m;obtain ⟨⟨Z,a0⟩,a1,a2⟩:=m;have a3:0<c.length:=by cases c with |nil=>simp at G|cons _ _=>simp
 have a4:((c.length:Int)==0)=false:=beq_eq_false_iff_ne.2 (by omega);have I:=a0c F;obtain ⟨a,n,rfl,_⟩:=F;clear B D G A;unfold fieldV;go_enter Tryz.func166,Tryz.ntmps166
 go_wp2_with first
  |(go_at_call 176;refine (eZ _ _).mono ?_;rintro e w' ⟨rfl,rfl⟩)
  |(go_at_call 217;refine (eB _ _ N).mono ?_;rintro e w' ⟨rfl,rfl⟩)
 go_loopw [5,6] (λi t wr=>∃(k:Nat),k<=c.length/\i= .int .i64 k/\Hid ((c.take k).all db=true)/\
  a0n (w.heap.size+1) (w.alloc (a0p #[S r,S [p,q],S [],a0d a c.length n] 123)) wr) (λi _ _=>c.length - (intOf i).toNat)
 case atStart=>exact ⟨0,a0s _,rfl,rfl,a0g _ _⟩
 case round=>
  obtain ⟨k,Y,rfl,s,g⟩:=hrel;have K:wr.cell? ⟨w.heap.size,3,none⟩=some (a0d a c.length n):=by rw [g.cell (p:=⟨w.heap.size,3,none⟩) (by simp)];go_simp
  by_cases hlt:k<c.length
  · have P:az 0 w.heap.size wr (a0d a c.length n) c:=(I.out.kept (bd ((a0g _ w).alloc (a0b _) _) (a0b _))).kept (bd g (by omega));obtain ⟨b,a5,U,R,_,_,Q,hx⟩:=P.sub k hlt;cases R;have E:c[k].text.length<=1000000:=H k hlt;have J:Hid ((c.take (k+1)).all db=(aP c[k].text&&eE c[k].code)):=by rw [a0q hlt,List.all_append,s.out];simp [Hid,db]
    have u:Hid (db c[k]=false->wrongF ⟨r,[p,q],[],c⟩=14):=by intro h;rw [x.out,if_neg];intro y;rw [List.all_eq_true] at y;have:=y _ (a0w hlt);simp [h] at this
    have v:Hid (db c[k]=(aP c[k].text&&eE c[k].code)):=rfl;have W:w.heap.size<wr.heap.size:=bq K;have X:b<wr.heap.size:=bq Q;generalize c[k].text=T at *;generalize c[k].code=C at *;cases ht1:aP T
    · go_wp2_with (go_at_call 218;refine (jo _ _ E).mono ?_;rintro e w1 ⟨rfl,j⟩;obtain ⟨L,M⟩:=aE j)
      go_ret;exact ⟨aG (u.out (by rw [v.out,ht1];rfl)).symm,btr ((a0g _ w).alloc (a0b _) _) (btr g j (by omega)) (by omega)⟩
    · cases hs2:eE C
      all_goals
       go_wp2_with first
        |(go_at_call 218;refine (jo _ _ E).mono ?_;rintro e w1 ⟨rfl,j⟩;obtain ⟨L,M⟩:=aE j)
        |(go_at_call 219;refine (yp _ _).mono ?_;rintro e w' ⟨rfl,rfl⟩)
      · go_ret;exact ⟨aG (u.out (by rw [v.out,ht1,hs2];rfl)).symm,btr ((a0g _ w).alloc (a0b _) _) (btr g j (by omega)) (by omega)⟩
      · go_roundw
        case rel=>exact ⟨k+1,by omega,by go_num,by rw [J.out,ht1,hs2];rfl,btr g j (by omega)⟩
        case measure=>simp [intOf];omega
  · go_wp2_with fail
    go_ret;refine ⟨aG (x.out.trans ?_).symm,btr ((a0g _ w).alloc (a0b _) _) g (by omega)⟩;rw [if_pos (by rw [<- s.out,a0f (by omega)])]
theorem pS (f:af) (d:a0k) (w:a0e) (i:az 0 w.heap.size w d f.subs) (g:(fieldBytes f).length<=1000000) (j:f.subs.length<=1000000):
 a0m a0a 166 #[fieldV f d] w λe w'=>e= .returned (.int .i64 (wrongF f))/\a0n w.heap.size w w':=by
 have c:∃a b,d= .slice a f.subs.length b:=by obtain ⟨a,b,h,_⟩:=i;exact ⟨a,b,h⟩
 cases h:bp f.tag
 · exact oe f d w h
 · cases hc:fa f.tag
   · cases hg:(decide (f.data=[])&&gX f.ind&& !f.subs.isEmpty)
     · exact og f d w c h hc hg
     · exact l0 f d w i g j h hc hg
   · exact l8 f d w c g h hc
open Go.RowKit
theorem am (w:a0e) (o:Obj):a0n w.heap.size w (w.alloc o):=(a0g _ w).alloc (a0b _) o
theorem mx (r:aB) (h:(letterB r.kind&&letterB r.level)=false):wrongR r=12:=by
 unfold wrongR;rw [if_pos];cases h1:letterB r.kind<;>cases h2:letterB r.level<;>simp_all
theorem pg (r:aB) (h:letterB r.kind=true) (a:letterB r.level=true) (b:aI r.fields≠0):wrongR r=aI r.fields:=by
 simp [wrongR,h,a,b]
theorem nt (r:aB) (h:letterB r.kind=true) (a:letterB r.level=true) (b:aI r.fields=0):
 wrongR r=if bJ r.fields||decide (999<r.fields.length)||decide (99999<sizeOf r.fields) then 2 else 0:=by
 simp [wrongR,h,a,b]
theorem jR (r:aB) (x:a0k) (w:a0e) (h:(letterB r.kind&&letterB r.level)=false):
 a0m a0a 122 #[fq r x] w λe w'=>e= .returned (.int .i64 (wrongR r))/\a0n w.heap.size w w':=by
 have a:=a0c (mx r h);obtain ⟨b,c,d⟩:=r;simp only at h;unfold fq;cases hk:letterB b
 · go_enter Tryz.func122,Tryz.ntmps122;go_wp2_with (go_at_call 165;refine (jk _ _).mono ?_;rintro e w' ⟨rfl,rfl⟩)
   go_ret;exact ⟨aG a.symm,am _ _⟩
 · have f:letterB c=false:=by simpa [hk] using h
   clear h;go_enter Tryz.func122,Tryz.ntmps122;go_wp2_with (go_at_call 165;refine (jk _ _).mono ?_;rintro e w' ⟨rfl,rfl⟩)
   go_ret;exact ⟨aG a.symm,am _ _⟩
theorem lU (r:aB) (x:a0k) (w:a0e) (D:ai 0 w.heap.size w x r.fields) (R:bL r.fields) (h:letterB r.kind=true) (q:letterB r.level=true):
 a0m a0a 122 #[fq r x] w λe w'=>e= .returned (.int .i64 (wrongR r))/\a0n w.heap.size w w':=by
 have H:=a0c (pg r h q);have J:=a0c (nt r h q);obtain ⟨A,B,c⟩:=r;simp only at h q D R;have L:=a0c D;obtain ⟨a,o,rfl⟩:=D.shape;obtain ⟨hn,T⟩:=R;have M:=a0c T;clear D T;unfold fq;go_enter Tryz.func122,Tryz.ntmps122;go_wp2_with (go_at_call 165;refine (jk _ _).mono ?_;rintro e w' ⟨rfl,rfl⟩)
 go_loopw [3,4] (λi t wr=>∃(k:Nat),k<=c.length/\i= .int .i64 k/\Hid (aI (c.take k)=0)/\
  a0n (w.heap.size+1) (w.alloc (a0p #[.int .u8 A.toNat, .int .u8 B.toNat,a0d a c.length o] 62)) wr) (λi _ _=>c.length - (intOf i).toNat)
 case atStart=>exact ⟨0,a0s _,rfl,rfl,a0g _ _⟩
 case round=>
  obtain ⟨k,P,rfl,l,g⟩:=hrel;have C:wr.cell? ⟨w.heap.size,2,none⟩=some (a0d a c.length o):=by rw [g.cell (p:=⟨w.heap.size,2,none⟩) (by simp)];go_simp
  have U:w.heap.size<wr.heap.size:=bq C;by_cases hlt:k<c.length
  · have z:ai 0 w.heap.size wr (a0d a c.length o) c:=(L.out.kept (bd (am w _) (a0b _))).kept (bd g (by omega));obtain ⟨b,a7,a0,d,G,_,_,a3,a4,a5,a6,y⟩:=z.field k hlt;cases G;have m:=M _ (a0w hlt);have v:=a0v (cF c[k]) m;have V:Hid (wrongF c[k]≠0->wrongR ⟨A,B,c⟩=wrongF c[k]):=by intro Q;have:=eL c k hlt l.out;rw [if_neg Q] at this;rw [H.out (by show aI c≠0;rw [this];exact Q)];exact this
    have W:=a0c (fP c k hlt l.out);have u:Hid (az 0 wr.heap.size wr d c[k].subs):=y.mono (a0b _) (by omega);clear y z;generalize hfk:c[k]=f at *;have a8:=a0c hfk;clear hfk;cases hwf:decide (wrongF f=0);all_goals simp only [decide_eq_true_eq,decide_eq_false_iff_not] at hwf
    · have ac:(wrongF f !=0)=true:=by simpa using hwf
      go_wp2_with (go_at_call 166;refine (pS f d _ u.out m v).mono ?_;rintro e w1 ⟨rfl,j⟩;obtain ⟨E,F⟩:=aE j)
      go_ret;exact ⟨aG (V.out hwf).symm,btr (am w _) (btr g j (by omega)) (by omega)⟩
    · have N:=a0c hwf;clear hwf;go_wp2_with (go_at_call 166;refine (pS f d _ u.out m v).mono ?_;rintro e w1 ⟨rfl,j⟩;obtain ⟨E,F⟩:=aE j;rw [N.out])
      go_roundw
      case rel=>exact ⟨k+1,by omega,by go_num,W.out N.out,btr g j (by omega)⟩
      case measure=>simp [intOf];omega
  · have K:Hid (wrongR ⟨A,B,c⟩=if bJ c||decide (999<c.length)||decide (99999<sizeOf c) then 2 else 0):=
     J.out (by rw [<- l.out,a0f (by omega)])
    go_wp2_with fail
    clear l P hlt C J H;have a1:=g;clear g U
    go_loopw [5,6,7] (λs i t wr=>∃(k n:Nat),k<=c.length/\i= .int .i64 k/\s= .int .i64 n/\n<=26+k * 1000012/\Hid (bJ (c.take k)=false)/\Hid (n=sizeOf (c.take k))/\
     a0n (w.heap.size+1) (w.alloc (a0p #[.int .u8 A.toNat, .int .u8 B.toNat,a0d a c.length o] 62)) wr) (λ_ i _ _=>c.length - (intOf i).toNat)
    case atStart=>exact ⟨0,26,a0s _,rfl,rfl,by omega,rfl,rfl,a1⟩
    case round=>
     obtain ⟨k,n,P,rfl,rfl,a9,l,I,g⟩:=hrel;have C:wr.cell? ⟨w.heap.size,2,none⟩=some (a0d a c.length o):=by rw [g.cell (p:=⟨w.heap.size,2,none⟩) (by simp)];go_simp
     have U:w.heap.size<wr.heap.size:=bq C;by_cases hlt:k<c.length
     · have z:ai 0 w.heap.size wr (a0d a c.length o) c:=(L.out.kept (bd (am w _) (a0b _))).kept (bd g (by omega));obtain ⟨b,a7,a0,d,G,_,_,a3,a4,a5,a6,y⟩:=z.field k hlt;cases G;have m:=M _ (a0w hlt);have v:=a0v (cF c[k]) m;have u:Hid (az 0 wr.heap.size wr d c[k].subs):=y.mono (a0b _) (by omega);have X:=a0c (rL c k hlt);have Y:=a0c (nG c k hlt l.out);have Z:=a0c (pN c k hlt);clear y z;generalize c[k]=f at *;by_cases hlong:9999<(fieldBytes f).length
       · go_wp2_with (go_at_call 123;refine (ri f d _ u.out m v).mono ?_;rintro e w1 ⟨rfl,j⟩;obtain ⟨E,F⟩:=aE j)
         go_ret;refine ⟨aG ?_,btr (am w _) (btr g j (by omega)) (by omega)⟩;rw [K.out,X.out hlong];rfl
       · go_wp2_with (go_at_call 123;refine (ri f d _ u.out m v).mono ?_;rintro e w1 ⟨rfl,j⟩;obtain ⟨E,F⟩:=aE j)
         go_roundw
         case rel=>exact ⟨k+1,n+12+(fieldBytes f).length,by omega,by go_num,by go_num,by omega,Y.out hlong,by rw [I.out];exact Z.out.symm,btr g j (by omega)⟩
         case measure=>simp [intOf];omega
     · have HT:Hid (wrongR ⟨A,B,c⟩=if decide (999<c.length)||decide (99999<n) then 2 else 0):=by have a2:c.take k=c:=a0f (by omega);have O:=l.out;have q:=I.out;rw [a2] at O q;rw [K.out,O, <- q,Bool.false_or];rfl
       go_wp2_with fail
       all_goals go_ret
       all_goals refine ⟨aG (HT.out.trans ?_).symm,btr (am w _) g (by omega)⟩
       all_goals go_tidy
       all_goals first |rw [if_pos (by simp;omega)]|rw [if_neg (by simp;omega)]
theorem vY (r:aB) (v:a0k) (w:a0e) (a:d7 0 w.heap.size w v r) (b:bL r.fields):
 a0m a0a 122 #[v] w λe w'=>e= .returned (.int .i64 (wrongR r))/\a0n w.heap.size w w':=by
 obtain ⟨x,rfl,a⟩:=a;cases h:(letterB r.kind&&letterB r.level)
 · exact jR r x w h
 · rw [Bool.and_eq_true] at h;exact lU r x w a b h.1 h.2
end
section
open Go.RowKit
structure Fr (b:Nat) (g:Option Nat) (w w':a0e):Prop where
 os:w'.os=w.os
 tape:w'.tape=w.tape
 output:w'.output=w.output
 size:w.heap.size<=w'.heap.size
 block:∀k,k<w.heap.size->k≠b->some k≠g->w'.heap[k]? =w.heap[k]?
theorem Fr.refl (b:Nat) (g:Option Nat) (w:a0e):Fr b g w w:=⟨rfl,rfl,rfl,a0b _,λ_ _ _ _=>rfl⟩
theorem Fr.below {b B:Nat} {g:Option Nat} {w w':a0e} (h:Fr b g w w') (d:B<=b) (a:∀k,g=some k->B<=k) (c:B<=w.heap.size):a0n B w w':=
 ⟨h.os,h.tape,h.output,h.size,λk f=>h.block k (by omega) (by omega) (λe=>by have:=a k e.symm;omega)⟩
structure Bld (B b:Nat) (g:Option Nat) (l:Bs) (w:a0e):Prop where
 lt:b<B
 ex:∃p v,w.heap[b]? =some (.cells #[p,v] 187 (0,0))/\(p= .pointer none∨p= .pointer (some ⟨b,0,none⟩))/\w.ownsRow B 5 1 v l.length (a0j l)/\v.ownBlock=g/\(l=[]->v= .slice none 0 0)
theorem i5:(Tryz.prog.info? 5).map (λi=>(i.zero,i.size,i.bytes))=some (some (.int .u8 0),1,1):=by kernel_rfl
theorem r3 (w:a0e) (base:Nat) (i:TypeInfo) (f:Tryz.prog.info? 5=some i) (q:i.zero=some (.int .u8 0)) (l:i.size=1) (o:i.bytes=1)
 (v:a0k) (n:Nat) (c:List a0k) (d:w.ownsRow base 5 1 v n c) (s:ByteArray) (m:n+s.size<=maxLen) (t:n+s.size<=140737488355328) (B:base<=w.heap.size):
 ∃b w',(Builtin.append_ #[76,9] 76 #[v, .string s]).run a0a w= .ok b w'/\w'.ownsRow base 5 1 b (n+s.size) (c++Lib.strCells s)/\w.grownBy w' v.ownBlock/\
  (b= .slice none 0 0↔v= .slice none 0 0/\s.size=0)/\(b.ownBlock=v.ownBlock∨∃k,b.ownBlock=some k/\w.heap.size<=k):=by
 obtain ⟨b,w',h,y,z,A⟩:=Lib.run_append_own_string (P:=a0a) w base 76 9 76 5 i Tryz.underlying76 Tryz.underlying9 f q l o v n c d s m t B;refine ⟨b,w',h,y,z,A,?_⟩;have H:c.length=n:=by simpa using d.1
 have L:n+s.size<=9223372036854775807:=by unfold maxLen at m;omega
 rcases d.2 with ⟨rfl,rfl⟩|⟨g,e,r,rfl,I,E,K,J,C,M⟩
 · obtain ⟨N,O,a,x,_,_⟩:=Lib.run_append_own_string (P:=a0a) w w.heap.size 76 9 76 5 i Tryz.underlying76 Tryz.underlying9 f q l o (.slice none 0 0) 0 c ⟨d.1, .inl ⟨rfl,rfl⟩⟩ s m t (a0b _);rw [h] at a;injection a with hv hw
   subst hv hw;rcases x.2 with ⟨p,_⟩|⟨k,_,_,p,F,_⟩
   · left;rw [p]
   · right;exact ⟨k,by rw [p];rfl,F⟩
 · have D:r.size=e:=by simpa using C
   by_cases hroom:n+s.size<=e
   · have a:=Lib.run_append_room_string (P:=a0a) w 76 9 76 5 i Tryz.underlying76 Tryz.underlying9 f l g n e r E s hroom (D.symm ▸ hroom);rw [h] at a;injection a with hv hw
     left;rw [hv];rfl
   · have G:∀j u,c[j]? =some u->w.cell? ((⟨g,0,none⟩:Addr).add j)=some u:=d.cells (g:=g) rfl;have a:=Lib.run_append_grow_string (P:=a0a) w 76 9 76 5 i (.int .u8 0) Tryz.underlying76 Tryz.underlying9 f q ⟨g,0,none⟩ n e c (by rw [l];simpa using H) G s (by omega) (by omega) (by rw [o];exact growslice_fits (by omega) (by omega));rw [h] at a;injection a with hv hw
     right;exact ⟨w.heap.size,by rw [hv];rfl,a0b _⟩
theorem lW {w:a0e} {d:Array Oper} {e:List Oper} {o:Oper} {a:Act} {Q:Exit->Act->a0e->Prop} (y:o.guard=none) (f x:Operand)
 (A:o.op= .call {callee:= .builtin .append,args:= #[f,x],argTypes:= #[76,9]}) (F:o.type=76)
 (base:Nat) (i:TypeInfo) (z:Tryz.prog.info? 5=some i) (H:i.zero=some (.int .u8 0)) (E:i.size=1) (t:i.bytes=1)
 (v:a0k) (n:Nat) (c:List a0k) (D:a.eval f=v) (B:w.ownsRow base 5 1 v n c) (s:ByteArray) (G:a.eval x= .string s)
 (p:n+s.size<=maxLen) (u:n+s.size<=140737488355328) (r:base<=w.heap.size)
 (h:∀b w',w'.ownsRow base 5 1 b (n+s.size) (c++Lib.strCells s)->w.grownBy w' v.ownBlock->(b= .slice none 0 0↔v= .slice none 0 0/\s.size=0)->(b.ownBlock=v.ownBlock∨∃k,b.ownBlock=some k/\w.heap.size<=k)->wpList a0a d Q e (a.put o.dst b) w'):wpList a0a d Q (o::e) a w:=by
 refine wpList_plain y λK q=>?_;obtain ⟨b,w',C,g,j,l,m⟩:=r3 w base i z H E t v n c B s p u r;unfold Oper.wp execOp;simp only [A,F,resolve,invoke,builtin,Sem.run_bind,Sem.run_pure,Result.andThen_ok,List.map_toArray,List.map_cons,List.map_nil,D,G,C];exact q _ _ (h b w' g j l m)
theorem pF (l:Bs):Lib.strCells ⟨l.toArray⟩=a0j l:=by simp [Lib.strCells,a0j]
theorem gY (a b:Bs):a0j (a++b)=a0j a++a0j b:=by simp [a0j]
theorem rb (B b:Nat) (g:Option Nat) (l:Bs) (w:a0e) (h:Bld B b g l w):a0m a0a 161 #[.pointer (some ⟨b,0,none⟩)] w λe w'=>e= .returned (.tuple #[])/\(∃v,w'.heap[b]? =some (.cells #[.pointer (some ⟨b,0,none⟩),v] 187 (0,0))/\w'.ownsRow B 5 1 v l.length (a0j l)/\v.ownBlock=g/\(l=[]->v= .slice none 0 0))/\w'.heap.size=w.heap.size/\Fr b none w w':=by
 obtain ⟨m,p,v,a,n,i,d,f⟩:=h;have c:w.cell? ⟨b,0,none⟩=some p:=by rw [a0l a];rfl
 rcases n with rfl|rfl
 · refine (jW b w c (by simp [World.shape?,a]) (a0A a 0)).mono ?_;rintro e w' ⟨rfl,rfl⟩;refine ⟨rfl,⟨v,?_,ownsRow_setCell_below i m _,d,f⟩,by simp,⟨rfl,rfl,rfl,by simp,λk _ j _=>a0H _ _ _ _ j⟩⟩;simp only [a0E,a0t,if_true,a];rfl
 · refine (ln b w c).mono ?_;rintro e w' ⟨rfl,rfl⟩;exact ⟨rfl,⟨v,a,i,d,f⟩,rfl,Fr.refl _ _ _⟩
theorem nl {B b:Nat} {w1 c:a0e} {p v a:a0k} {d:Bs} (h:b<B) (x:p= .pointer (some ⟨b,0,none⟩)) (f:w1.heap[b]? =some (.cells #[p,v] 187 (0,0))) (w:∀k,v.ownBlock=some k->B<=k)
 (i:c.ownsRow B 5 1 a d.length (a0j d)) (m:w1.grownBy c v.ownBlock) (r:d=[]->a= .slice none 0 0):
 Bld B b a.ownBlock d (c.setCell ⟨b,1,none⟩ a)/\Fr b v.ownBlock w1 (c.setCell ⟨b,1,none⟩ a):=by
 obtain ⟨t,z,u,y,g⟩:=m;have l:b<w1.heap.size:=(Array.getElem?_eq_some_iff.mp f).1;have s:some b≠v.ownBlock:=λe=>by have:=w b e.symm;omega
 have j:c.heap[b]? =some (.cells #[p,v] 187 (0,0)):=by rw [g b l s,f]
 refine ⟨⟨h,⟨p,a,?_, .inr x,ownsRow_setCell_below i h _,rfl,r⟩⟩,⟨t,z,u,by simpa using y,λk n o q=>?_⟩⟩
 · simp only [a0E,a0t,if_true,j];rfl
 · rw [a0H _ _ _ _ o];exact g k n q
theorem iI {w:a0e} {B:Nat} {e:TypeId} {k:Nat} {v:a0k} {n:Nat} {d:List a0k} (h:w.ownsRow B e k v n d):∀j,v.ownBlock=some j->B<=j/\j<w.heap.size:=by
 intro j a;rcases h.2 with ⟨rfl,_⟩|⟨g,f,i,rfl,b,c,_⟩
 · cases a
 · injection a with a;subst a;exact ⟨b,(Array.getElem?_eq_some_iff.mp c).1⟩
theorem Fr.trans {b:Nat} {g c:Option Nat} {x y z:a0e} (h:Fr b g x y) (k:Fr b c y z) (l:∀j,c=some j->g=some j∨x.heap.size<=j):Fr b g x z:=
 ⟨k.os.trans h.os,k.tape.trans h.tape,k.output.trans h.output,a0v h.size k.size,λj f d i=>
  (k.block j (Nat.lt_of_lt_of_le f h.size) d (λe=>by rcases l j e.symm with a|a;exact i a.symm;omega)).trans (h.block j f d i)⟩
theorem Fr.weak {b:Nat} {g:Option Nat} {x y:a0e} (h:Fr b none x y):Fr b g x y:=⟨h.os,h.tape,h.output,h.size,λj c a _=>h.block j c a (by simp)⟩
theorem xt {B:Nat} {e:TypeId} {k:Nat} {w b:a0e} {v:a0k} {n:Nat} {f:List a0k} {o:Obj} (_:w.ownsRow B e k v n f) (a:(w.alloc o).grownBy b v.ownBlock):w.grownBy b v.ownBlock:=
 ⟨a.os,a.tape,a.output,a0v (by simp) a.size,λj c d=>by rw [a.block j (by simp;omega) d];exact ((a0g w.heap.size w).alloc (a0b _) o).block j c⟩
theorem ro {B b:Nat} {w1 c:a0e} {p v:a0k} {n:Nat} {g:List a0k} (h:b<B) (a:w1.heap[b]? =some (.cells #[p,v] 187 (0,0))) (f:w1.ownsRow B 5 1 v n g) (d:w1.grownBy c v.ownBlock):
 c.heap[b]? =some (.cells #[p,v] 187 (0,0)):=by
 rw [d.block b (Array.getElem?_eq_some_iff.mp a).1 (λe=>by have:=(iI f b e.symm).1;omega),a]
theorem fV (B b:Nat) (g:Option Nat) (l s:Bs) (w:a0e) (h:Bld B b g l w) (hB:B<=w.heap.size) (hs:l.length+s.length<=100000000000000):
 a0m a0a 112 #[.pointer (some ⟨b,0,none⟩),S s] w λe w'=>e= .returned (.tuple #[.int .i64 s.length, .nilIface])/\∃d,Bld B b d (l++s) w'/\(d=g∨∃k,d=some k/\w.heap.size<=k)/\Fr b g w w':=by
 have P:=a0c (rb B b g l w h);have a1:∃i,Tryz.prog.info? 5=some i/\i.zero=some (.int .u8 0)/\i.size=1/\i.bytes=1:=by have:=i5;revert this;cases Tryz.prog.info? 5<;>simp
 obtain ⟨i0,A,C,D,E⟩:=a1;have U:=a0c A;have V:=a0c C;have W:=a0c D;have X:=a0c E;have t:=h.lt;clear h A C D E;have r:=a0c hs;go_enter Tryz.func112,Tryz.ntmps112
 go_wp2_with (first
  |(go_at_call 161;((with_reducible refine a0r (P.out) ?_);rintro e w1 ⟨rfl,⟨v,f,K,z,G⟩,L,y⟩;have c1:w1.cell? ⟨b,1,none⟩=some v:=(by rw [a0l f];rfl);have p:=a0c f;have c:=a0c K;have q:=a0c z;have Y:=a0c G;have u:=a0c L;have R:=a0c y;clear f K z G L y))
  |(at_builtin;refine lW rfl _ _ rfl rfl B i0 U.out V.out W.out X.out v l.length _ rfl c.out ⟨s.toArray⟩ rfl (by have:=r.out;unfold maxLen;simp [a0o];omega) (by have:=r.out;simp [a0o];omega) (by have:=u.out;omega) ?_;intro v' M o n I a;obtain ⟨va,vc,rfl⟩:=bH o;have m:=ro t p.out c.out n;have c2:M.cell? ⟨b,1,none⟩=some v:=(by rw [a0l m];rfl);have f2:M.frozen? ⟨b,1,none⟩=false:=a0A m 1;clear m;have a0:=a0c o;have T:=a0c n;have Z:=a0c I;have Q:=a0c a;clear o n I a))
 go_ret2;have F:l.length+a0o ⟨s.toArray⟩=(l++s).length:=by simp [a0o]
 have J:=a0.out;rw [pF, <- gY,F] at J;have H:l++s=[]->a0d va (l.length+a0o ⟨s.toArray⟩) vc= .slice none 0 0:=λe=>by
  have x:l=[]:=by cases l;rfl;simp at e
  have h2:s=[]:=by subst x;simpa using e
  exact Z.mpr ⟨Y x,by subst h2;rfl⟩
 rw [F] at H;obtain ⟨N,O⟩:=nl t rfl p.out (λk hk=>(iI c.out k hk).1) J T.out H;simp only [a0z] at N O;refine ⟨?_,_,N,?_,R.weak.trans (q.out ▸ O) (λj hj=> .inl hj)⟩
 · simp
 · have a:=Q.out;rw [q.out,u.out] at a;simpa [a0o] using a
theorem zC (B b:Nat) (g:Option Nat) (l:Bs) (c:UInt8) (w:a0e) (h:Bld B b g l w) (hB:B<=w.heap.size) (Z:l.length<=100000000000000):
 a0m a0a 160 #[.pointer (some ⟨b,0,none⟩), .int .u8 c.toNat] w λe w'=>e= .returned .nilIface/\∃f,Bld B b f (l++[c]) w'/\(f=g∨∃k,f=some k/\w.heap.size<=k)/\Fr b g w w':=by
 have M:=a0c (rb B b g l w h);have a0:∃i,Tryz.prog.info? 5=some i/\i.zero=some (.int .u8 0)/\i.size=1/\i.bytes=1:=by have:=i5;revert this;cases Tryz.prog.info? 5<;>simp
 obtain ⟨i0,A,C,D,E⟩:=a0;have Q:=a0c A;have R:=a0c C;have T:=a0c D;have U:=a0c E;have t:=h.lt;clear h A C D E;have s:=a0c Z;go_enter Tryz.func160,Tryz.ntmps160
 go_wp2_with (first
  |(go_at_call 161;((with_reducible refine a0r (M.out) ?_);rintro e w1 ⟨rfl,⟨v,m,H,y,F⟩,I,x⟩;have c1:w1.cell? ⟨b,1,none⟩=some v:=(by rw [a0l m];rfl);have q:=a0c m;have d:=a0c H;have r:=a0c y;have HN:=a0c F;have u:=a0c I;have O:=a0c x;clear m H y F I x))
  |(at_builtin;refine wpList_append_own_at _ rfl _ _ 76 rfl B 5 i0 (.int .u8 0) 1 1 Tryz.underlying76 Q.out R.out T.out U.out rfl (by omega) v l.length _ rfl (d.out.alloc _) ⟨w1.heap.size,0,none⟩ 1 1 [.int .u8 c.toNat] rfl rfl (cell_one_new _ _ _) (by simp [Value.oneCell']) (by have:=s.out;unfold maxLen;omega) (by have:=s.out;omega) (by have:=u.out;simp;omega) ?_;intro v' J p z Y a;obtain ⟨va,vc,rfl⟩:=bH p;have o:=xt d.out z;have n:=ro t q.out d.out o;have c2:J.cell? ⟨b,1,none⟩=some v:=(by rw [a0l n];rfl);have f2:J.frozen? ⟨b,1,none⟩=false:=a0A n 1;clear n;have V:=a0c p;have P:=a0c o;have N:=a0c a;clear p o z Y a))
 go_ret;have G:=V.out;rw [show a0j l++[a0C .u8 c.toNat]=a0j (l++[c]) from by rw [gY];rfl,show l.length+1=(l++[c]).length from by simp] at G;obtain ⟨K,L⟩:=nl t rfl q.out (λk X=>(iI d.out k X).1) G P.out (λe=>by simp at e);simp only [a0z,List.length_singleton] at K L;refine ⟨rfl,_,K,?_,O.weak.trans (r.out ▸ L) (λj W=> .inl W)⟩;have a:=N.out;rw [r.out] at a;rcases a with a|a
 · exact .inl a
 · refine .inr ⟨_,a,?_⟩;have:=u.out;simp;omega
theorem oz (B b:Nat) (g:Option Nat) (l:Bs) (w:a0e) (h:Bld B b g l w):
 a0m a0a 114 #[.pointer (some ⟨b,0,none⟩)] w λe w'=>e= .returned (.int .i64 l.length)/\w'=w:=by
 obtain ⟨m,p,v,c,k,d,i,j⟩:=h;obtain ⟨a,f,rfl⟩:=bH d;have c1:w.cell? ⟨b,1,none⟩=some (.slice a l.length f):=by rw [a0l c];rfl
 clear d j i k c;go_enter Tryz.func114,Tryz.ntmps114;go_wp2_with fail
 go_ret;exact ⟨rfl,rfl⟩
def vT (g:Option Nat) (n:Nat) (w w':a0e):Prop:=w'=w.drew∨∃k,g=some k/\w'=w.drew.freeze ⟨k,0,none⟩ n
theorem vg (b k n:Nat) (w:a0e):Fr b (some k) w (w.freeze ⟨k,0,none⟩ n):=by
 unfold World.freeze;split
 · exact ⟨rfl,rfl,rfl,a0b _,λ_ _ _ _=>rfl⟩
 · refine ⟨rfl,rfl,rfl,by simp,λj _ _ a=>?_⟩;have:k≠j:=λe=>a (by rw [e]);simp [a0t,this]
theorem vT.fr {g:Option Nat} {n:Nat} {w w':a0e} (b:Nat) (h:vT g n w w'):Fr b g w w':=by
 rcases h with rfl|⟨k,rfl,rfl⟩
 · exact ⟨rfl,rfl,rfl,a0b _,λ_ _ _ _=>rfl⟩
 · have h:=vg b k n w.drew;exact ⟨h.os,h.tape,h.output,h.size,h.block⟩
theorem eO (B b:Nat) (g:Option Nat) (l:Bs) (w:a0e) (h:Bld B b g l w) (K:l.length<=100000000000000):
 a0m a0a 115 #[.pointer (some ⟨b,0,none⟩)] w λe w'=>e= .returned (S l)/\vT g l.length w w':=by
 obtain ⟨I,p,v,c,t,d,i,m⟩:=h;have L:Tryz.prog.follows Departure.mixedOrders=true:=by kernel_rfl
 rcases d.2 with ⟨rfl,E⟩|⟨k,a,f,rfl,H,s,J,A,q,F⟩
 · obtain rfl:l=[]:=a0B E;have c1:w.drew.cell? ⟨b,1,none⟩=some (.slice none 0 0):=by have:w.drew.heap[b]? =some (.cells #[p, .slice none 0 0] 187 (0,0)):=c;rw [a0l this];rfl
   have y:(Builtin.unsafeSliceData_ #[76] 233 #[.slice none 0 0]).run a0a w.drew= .ok (.pointer none) w.drew:=rfl;have z:(Builtin.unsafeString_ #[233,3] 9 #[.pointer none, .int .i64 0]).run a0a w.drew= .ok (.string .empty) w.drew:=Lib.run_unsafeString_none w.drew _ _ _ _;clear d m i t c;go_enter Tryz.func115,Tryz.ntmps115;go_wp2;go_region_o
   all_goals (go_wp2;go_ret;exact ⟨rfl, .inl rfl⟩)
 · have n:l≠[]:=λe=>by cases m e
   have o:a≠0:=by
    have:l.length≠0:=by simpa using n
    omega
   have C:f.size=a:=by simpa using q
   have c1:w.drew.cell? ⟨b,1,none⟩=some (.slice (some ⟨k,0,none⟩) l.length a):=by have:w.drew.heap[b]? =some (.cells #[p, .slice (some ⟨k,0,none⟩) l.length a] 187 (0,0)):=c;rw [a0l this];rfl
   have y:(Builtin.unsafeSliceData_ #[76] 233 #[.slice (some ⟨k,0,none⟩) l.length a]).run a0a w.drew= .ok (.pointer (some ⟨k,0,none⟩)) w.drew:=Lib.run_unsafeSliceData_row _ _ _ _ _ _ o;have z:(Builtin.unsafeString_ #[233,3] 9 #[.pointer (some ⟨k,0,none⟩), .int .i64 l.length]).run a0a w.drew= .ok (.string ⟨l.toArray⟩) (w.drew.freeze ⟨k,0,none⟩ l.length):=by refine Lib.run_unsafeString_row w.drew 233 3 9 5 Tryz.underlying233 (by kernel_rfl) k f.size (by have D:w.drew.heap[k]? =some (.cells f 5 (0,0)):=s;simp [World.shape?,D]) l n (by omega) (by omega) ?_;intro j x G;have:=d.cells (g:=k) rfl j (.int .u8 x.toNat) (by simp [a0j,G]);exact this
   have r:∀w',w'=w.drew.freeze ⟨k,0,none⟩ l.length->vT g l.length w w':=λw' e=> .inr ⟨k,i ▸ rfl,e⟩;have u:=a0c r;clear d m i t c o A q F r s C;generalize hN:(l.length:Int)=N at *;go_enter Tryz.func115,Tryz.ntmps115;go_wp2;go_region_o
   all_goals (go_wp2;go_ret;exact ⟨rfl,u _ rfl⟩)
open Go.RowKit
attribute [local go_sem ↓] Go.wp_at_zero Go.wp_at_succ
theorem kg (w:a0e) (b B:Nat) (c:b=w.heap.size) (a:b<B):Bld B b none [] (w.alloc (a0p #[.pointer none, .slice none 0 0] 187)):=by
 subst c;exact ⟨a,⟨.pointer none, .slice none 0 0,Array.getElem?_push_size, .inl rfl,a0I _ _ _ _,rfl,λ_=>rfl⟩⟩
theorem Fr.cell {b:Nat} {g:Option Nat} {w w':a0e} (h:Fr b g w w') {q:Nat} (e:q<w.heap.size) (c:q≠b) (d:some q≠g) (o:Nat):w'.cell? ⟨q,o,none⟩=w.cell? ⟨q,o,none⟩:=
 a0x (a:=⟨q,o,none⟩) (h.block q e c d)
theorem Bld.row {B b:Nat} {g:Option Nat} {l:Bs} {w:a0e} (h:Bld B b g l w):∀k,g=some k->B<=k/\k<w.heap.size:=by
 obtain ⟨_,p,v,_,_,c,a,_⟩:=h;subst a;exact iI c
theorem Bld.old {B b:Nat} {g:Option Nat} {l:Bs} {w:a0e} (h:Bld B b g l w):b<w.heap.size:=by
 obtain ⟨_,p,v,a,_⟩:=h;exact (Array.getElem?_eq_some_iff.mp a).1
theorem Bld.keep {B b:Nat} {g:Option Nat} {l:Bs} {w w':a0e} (h:Bld B b g l w) (f:w'.heap[b]? =w.heap[b]?) (i:∀k,g=some k->w'.heap[k]? =w.heap[k]?):Bld B b g l w':=by
 obtain ⟨n,p,v,t,s,q,rfl,o⟩:=h;refine ⟨n,p,v,f.trans t,s,?_,rfl,o⟩;obtain ⟨e,a⟩:=q;refine ⟨e,?_⟩;rcases a with a|⟨k,c,d,rfl,m,j,r⟩
 · exact .inl a
 · exact .inr ⟨k,c,d,rfl,m,(i k rfl).trans j,r⟩
theorem Bld.alloc {B b:Nat} {g:Option Nat} {l:Bs} {w:a0e} (h:Bld B b g l w) (o:Obj):Bld B b g l (w.alloc o):=
 h.keep ((aN w o).block b h.old) (λk a=>(aN w o).block k (h.row k a).2)
theorem Bld.below {B b:Nat} {g:Option Nat} {l:Bs} {w w':a0e} (h:Bld B b g l w) (k:a0n w.heap.size w w'):Bld B b g l w':=
 h.keep (k.block b h.old) (λj a=>k.block j (h.row j a).2)
theorem oW (B b:Nat) (g:Option Nat) (l:Bs) (c:UInt8) (n:Int) (f:n=c.toNat) (w:a0e) (h:Bld B b g l w) (d:B<=w.heap.size) (i:l.length<=100000000000000):
 a0m a0a 160 #[.pointer (some ⟨b,0,none⟩), .int .u8 n] w λe w'=>e= .returned .nilIface/\∃a,Bld B b a (l++[c]) w'/\(a=g∨∃k,a=some k/\w.heap.size<=k)/\Fr b g w w':=by
 subst f;exact zC B b g l c w h d i
theorem yK {g a:Option Nat} {q n:Nat} (h:some q≠g) (b:a=g∨∃k,a=some k/\n<=k) (d:q<n):some q≠a:=by
 rcases b with rfl|⟨k,rfl,c⟩
 · exact h
 · intro e;injection e;omega
theorem Bld.fr {B b lo:Nat} {g:Option Nat} {l:Bs} {w w':a0e} (h:Bld B b g l w) (f:Fr b g w w') (c:lo<=b):a0n lo w w':=
 f.below c (λk a=>by have:=(h.row k a).1;have:=h.lt;omega) (by have:=h.old;omega)
theorem xY (f:af) (d:a0k) (w:a0e) (Y:az 0 w.heap.size w d f.subs) (K:(fieldBytes f).length<=1000000) (hn:f.subs.length<=1000000):
 a0m a0a 111 #[fieldV f d] w λe w'=>e= .returned (S (fieldBytes f))/\a0n w.heap.size w w':=by
 obtain ⟨v,l,j,c⟩:=f;have aS:j.length+l.length<=1000000:=by simp [fieldBytes] at K;omega
 have P:=a0c K;have HS:=a0c Y;obtain ⟨a,F,rfl,_⟩:=Y;clear K;unfold fieldV;have N:=a0c (λo=>kg (w.alloc o) (w.heap.size+1) (w.heap.size+2) (by simp) (by omega));go_enter Tryz.func111,Tryz.ntmps111;go_wp2_with (go_at_call 112;((with_reducible refine a0r (fV (w.heap.size+2) (w.heap.size+1) none [] (j++l) _ (N.out _) (by simp) (by simp;omega)) ?_);rintro e w1 ⟨rfl,g1,V,a9,J⟩;have c3:=J.cell (q:=w.heap.size) (by simp;omega) (by omega) (by simp) 3))
 have a1:=a0c V;have a3:Hid (a0n (w.heap.size+1) (w.alloc (a0p #[S v,S l,S j,a0d a c.length F] 123)) w1):=btr ((aN _ _).mono (by simp)) (J.below (B:=w.heap.size+1) (by omega) (by simp) (by simp)) (by simp);clear V a9 J N;go_wp2_with fail
 go_loopw [15] (λi wr=>∃(k:Nat) (h:Bs) (g:Option Nat),k<=c.length/\i= .int .i64 k/\Hid (h=j++l++(c.take k).flatMap aQ)/\h.length<1000000/\
  Hid (Bld (w.heap.size+2) (w.heap.size+1) g h wr)/\a0n (w.heap.size+1) (w.alloc (a0p #[S v,S l,S j,a0d a c.length F] 123)) wr) (λi _=>c.length - (intOf i).toNat)
 case atStart=>exact ⟨0,j++l,g1,a0s _,rfl,(by simp [Hid]),(by have:=bI ⟨v,l,j,c⟩ 0;have:=P.out;simp at *;omega),a1,a3.out⟩
 case round=>
  obtain ⟨k,h,g,hk,rfl,M,ay,n,I⟩:=hrel;by_cases hlt:k<c.length
  · have Z:az 0 w.heap.size wr (a0d a c.length F) c:=(HS.out.kept (bd ((a0g _ w).alloc (a0b _) _) (a0b _))).kept (bd I (by omega));obtain ⟨b,b0,ax,hv,aC,_,ht,hx⟩:=Z.sub k hlt;cases hv;have Q:Hid (h++(31::c[k].code::c[k].text)=j++l++(c.take (k+1)).flatMap aQ):=by rw [js _ _ _ hlt,M.out];simp [Hid,aQ]
    have aT:h.length+2+c[k].text.length<1000000:=by have:=bI ⟨v,l,j,c⟩ (k+1);simp only at this;rw [<- Q.out] at this;have:=P.out;simp at *;omega
    generalize c[k].text=T at *;generalize c[k].code=C at *;have ao:=a0c n.old;have a5:=a0c n.row;clear Z;have m:Hid (w.heap.size+2<=wr.heap.size):=by have:=n.out.old;show _<=_;omega
    have D:Hid (some wr.heap.size≠g):=λe=>by have:=(a5.out _ e.symm).2;omega
    go_wp2_with (first
     |(go_at_call_of 160 (a0C a0G 31);((with_reducible refine a0r (oW (w.heap.size+2) (w.heap.size+1) g h 31 _ (by decide) _ (n.out.alloc _) (by have:=m.out;simp;omega) (by omega)) ?_);rintro e y ⟨rfl,x,t,u,p⟩;have X:some wr.heap.size≠x:=yK D.out u (by simp);have au:y.cell? ⟨wr.heap.size,0,none⟩=some (.int .u8 C.toNat):=(by rw [p.cell (by simp) (by have:=m.out;omega) D.out];go_simp);have a7:y.cell? ⟨wr.heap.size,1,none⟩=some (S T):=(by rw [p.cell (by simp) (by have:=m.out;omega) D.out];go_simp);have E:Hid (wr.heap.size<y.heap.size):=(by have:=p.size;simp at this;exact this);have s:=a0c t;have al:=a0c u;have z:=a0c p;have a4:=a0c X;clear t u p X))
     |(go_at_call_of 160 (a0C a0G C.toNat);((with_reducible refine a0r (oW (w.heap.size+2) (w.heap.size+1) x (h++[31]) C _ (by rfl) _ s.out (by have:=m.out;have:=E.out;omega) (by simp;omega)) ?_);rintro e L ⟨rfl,g3,R,ac,r⟩;have av:L.cell? ⟨wr.heap.size,1,none⟩=some (S T):=(by rw [r.cell E.out (by have:=m.out;omega) a4.out];exact a7);have a6:Hid (wr.heap.size<L.heap.size):=Nat.lt_of_lt_of_le E.out r.size;have O:=a0c R;have A:=a0c r;clear R ac r))
     |(go_at_call 112;((with_reducible refine a0r (fV (w.heap.size+2) (w.heap.size+1) g3 (h++[31]++[C]) T _ O.out (by have:=m.out;have:=a6.out;omega) (by simp;omega)) ?_);rintro e w4 ⟨rfl,g4,U,ad,W⟩;have a0:=a0c U;have a2:=a0c W;clear U ad W)))
    go_roundw
    case rel=>
     refine ⟨k+1,h++[31]++[C]++T,g4,by omega,by go_num,?_,by simp;omega,a0,?_⟩
     · rw [<- Q.out];simp [Hid]
     · have G:=(n.alloc _).fr z.out (lo:=w.heap.size+1) (a0b _);have H:=s.fr A.out (lo:=w.heap.size+1) (a0b _);have h4:=O.fr a2.out (lo:=w.heap.size+1) (a0b _);exact (((I.alloc (by have:=m.out;omega) _).trans G).trans H).trans h4
    case measure=>simp [intOf];omega
  · have a8:Hid (fieldBytes ⟨v,l,j,c⟩=h++[30]):=by rw [M.out,a0f (by omega)];simp [fieldBytes,Hid]
    have m:Hid (w.heap.size+2<=wr.heap.size):=by have:=n.out.old;show _<=_;omega
    go_wp2_with (first
     |(go_at_call 160;((with_reducible refine a0r (oW (w.heap.size+2) (w.heap.size+1) g h 30 _ (by decide) _ n.out (by exact m.out) (by omega)) ?_);rintro e y ⟨rfl,x,t,u,p⟩;have s:=a0c t;have z:=a0c p;clear t u p))
     |(go_at_call 115;((with_reducible refine a0r (eO (w.heap.size+2) (w.heap.size+1) x (h++[30]) _ s.out (by simp;omega)) ?_);rintro e L ⟨rfl,r⟩;have A:=a0c (r.fr (w.heap.size+1));clear r)))
    go_ret;refine ⟨tL a8.symm,?_⟩;have G:=n.fr z.out (lo:=w.heap.size+1) (a0b _);have H:=s.fr A.out (lo:=w.heap.size+1) (a0b _);exact btr (aN w _) ((I.trans G).trans H) (by omega)
end
section
open Go.RowKit
theorem fG (w:a0e) (a:Addr) (d:Nat) (l:List Int) (g:∀j (c:j<l.length),w.cell? (a.add j)=some (.int .u8 l[j])):
 (convert 76 9 (.slice (some a) l.length d)).run a0a w= .ok (S (l.map λn=>a0i n.toNat)) w:=by
 rw [run_convert_bytes_string w 76 9 5 (some a) l.length d Tryz.underlying76 Tryz.underlying5 Tryz.underlying9];have f:=run_loadCells_list (P:=a0a) w a (l.map (a0C .u8)) (λj v c=>by
  have e:j<l.length:=by have:=(List.getElem?_eq_some_iff.1 c).1;simpa using this
  rw [g j e];simp [List.getElem?_eq_getElem e] at c;rw [<- c])
 simp only [List.length_map] at f;rw [run_bytesToString w a l.length d _ f];have:∀(l:List Int) (r:ByteArray),l.foldl (λr n=>r.push (a0i n.toNat)) r=⟨r.data++(l.map λn=>a0i n.toNat).toArray⟩:=by
  intro l;induction l with
  |nil=>intro r;simp
  |cons b l ih=>intro r;simp only [List.foldl_cons,List.map_cons];rw [ih];simp [ByteArray.push]
 rw [this];have h:ByteArray.empty.data= #[]:=rfl;rw [h];simp
theorem xQ (w:a0e) (b:Nat) (c:Int) (h:w.cell? ⟨b,0,none⟩=some (.int .u8 c)):
 (convert 76 9 (.slice (some ⟨b,0,none⟩) 1 1)).run a0a w= .ok (S [a0i c.toNat]) w:=by
 have:=fG w ⟨b,0,none⟩ 1 [c] (λj a=>by
  have:j=0:=by simpa using a
  subst this;simpa [a0u] using h)
 simpa using this
theorem xP (w:a0e) (b:Nat) (c d:Int) (a:w.cell? ⟨b,0,none⟩=some (.int .u8 c)) (e:w.cell? ⟨b,1,none⟩=some (.int .u8 d)):
 (convert 76 9 (.slice (some ⟨b,0,none⟩) 2 2)).run a0a w= .ok (S [a0i c.toNat,a0i d.toNat]) w:=by
 have:=fG w ⟨b,0,none⟩ 2 [c,d] (λj f=>by
  have:j=0∨j=1:=by simp at f;omega
  rcases this with rfl|rfl
  · simpa [a0u] using a
  · simpa [a0u] using e)
 simpa using this
open Classical in
noncomputable def cv1 (x:Option a0k) (w:a0e) (b:Nat):Result a0k:=
 if x=w.cell? ⟨b,0,none⟩ then (convert 76 9 (.slice (some ⟨b,0,none⟩) 1 1)).run a0a w
 else match x with
  |some (.int .u8 c)=> .ok (S [a0i c.toNat]) w
  |_=>(convert 76 9 (.slice (some ⟨b,0,none⟩) 1 1)).run a0a w
theorem vw (w:a0e) (b:Nat):(convert 76 9 (.slice (some ⟨b,0,none⟩) 1 1)).run a0a w=cv1 (w.cell? ⟨b,0,none⟩) w b:=by unfold cv1;rw [if_pos rfl]
theorem xO (c:Int) (w:a0e) (b:Nat):cv1 (some (.int .u8 c)) w b= .ok (S [a0i c.toNat]) w:=by
 unfold cv1;split
 · rename_i h;exact xQ w b c h.symm
 · rfl
open Classical in
noncomputable def cv2 (x y:Option a0k) (w:a0e) (b:Nat):Result a0k:=
 if x=w.cell? ⟨b,0,none⟩/\y=w.cell? ⟨b,1,none⟩ then (convert 76 9 (.slice (some ⟨b,0,none⟩) 2 2)).run a0a w
 else match x,y with
  |some (.int .u8 c),some (.int .u8 d)=> .ok (S [a0i c.toNat,a0i d.toNat]) w
  |_,_=>(convert 76 9 (.slice (some ⟨b,0,none⟩) 2 2)).run a0a w
theorem vv (w:a0e) (b:Nat):(convert 76 9 (.slice (some ⟨b,0,none⟩) 2 2)).run a0a w=cv2 (w.cell? ⟨b,0,none⟩) (w.cell? ⟨b,1,none⟩) w b:=by unfold cv2;rw [if_pos ⟨rfl,rfl⟩]
theorem xN (c d:Int) (w:a0e) (b:Nat):cv2 (some (.int .u8 c)) (some (.int .u8 d)) w b= .ok (S [a0i c.toNat,a0i d.toNat]) w:=by
 unfold cv2;split
 · rename_i h;exact xP w b c d h.1.symm h.2.symm
 · rfl
attribute [go_sem] vw xO vv xN
end
section
open Go.RowKit
theorem lz (w:a0e) (x y z:a0k) (t:TypeId):∀j v,[x,y,z][j]? =some v->(w.alloc (.cells #[x,y,z] t)).cell? ((⟨w.heap.size,0,none⟩:Addr).add j)=some v:=by
 intro j v a;match j,a with
 |0,a=>simp at a;subst a;simp [a0u]
 |1,a=>simp at a;subst a;simp [a0u]
 |2,a=>simp at a;subst a;simp [a0u]
open Go.RowKit
end
section
open Go.RowKit
theorem mj (w:a0e) (x y z u:a0k) (t:TypeId):∀j v,[x,y,z,u][j]? =some v->(w.alloc (.cells #[x,y,z,u] t)).cell? ((⟨w.heap.size,0,none⟩:Addr).add j)=some v:=by
 intro j v a;match j,a with
 |0,a=>simp at a;subst a;simp [a0u]
 |1,a=>simp at a;subst a;simp [a0u]
 |2,a=>simp at a;subst a;simp [a0u]
 |3,a=>simp at a;subst a;simp [a0u]
end
section
open Go.RowKit
open Classical in
noncomputable def eP (f g:af):Bool:=decide (f=g)
theorem jh (f g:af):eP f g=true↔f=g:=by unfold eP;simp
theorem pQ {f g:af} (h:f≠g):eP f g=false:=by unfold eP;simp [h]
theorem jV (f g:af) (d c:a0k) (w:a0e) (k:∃a b,d= .slice a f.subs.length b) (j:∃a b,c= .slice a g.subs.length b)
 (h:f.tag≠g.tag∨f.ind≠g.ind∨f.data≠g.data∨f.subs.length≠g.subs.length):
 a0m a0a 139 #[fieldV f d,fieldV g c] w λe w'=>e= .returned (.bool (eP f g))/\a0n w.heap.size w w':=by
 have i:Hid (eP f g=false):=pQ (by rintro rfl;simp at h);obtain ⟨a,b,rfl⟩:=k;obtain ⟨l,m,rfl⟩:=j;obtain ⟨t,p,n,r⟩:=f;obtain ⟨u,q,o,s⟩:=g;simp only at h;unfold fieldV;rw [i.out];have H:=a0c h;clear h;go_enter Tryz.func139,Tryz.ntmps139;go_wp2_with fail
 all_goals first
  |(go_ret;exact ⟨rfl,(am w _).alloc (by simp) _⟩)
  |(exfalso;go_tidy;have h:=H.out;clear H;simp_all;omega)
theorem iB {α:Type} {l m:List α} (k:Nat) (a:k<l.length) (b:k<m.length) (h:l.take k=m.take k) (c:l[k]=m[k]):l.take (k+1)=m.take (k+1):=by
 rw [a0q a,a0q b,h,c]
theorem iE (s r o:Bs) (f g:List ci) (d c:a0k) (w:a0e) (L:az 0 w.heap.size w d f) (K:az 0 w.heap.size w c g) (hn:f.length<=1000000)
 (h:f.length=g.length):
 a0m a0a 139 #[fieldV ⟨s,r,o,f⟩ d,fieldV ⟨s,r,o,g⟩ c] w λe w'=>e= .returned (.bool (eP ⟨s,r,o,f⟩ ⟨s,r,o,g⟩))/\a0n w.heap.size w w':=by
 have O:=a0c L;have N:=a0c K;obtain ⟨a,u,rfl,_⟩:=L;obtain ⟨C,v,rfl,_⟩:=K;unfold fieldV;have F:=a0c h;have a0:((f.length:Int)!=g.length)=false:=by simp [h]
 clear h;go_enter Tryz.func139,Tryz.ntmps139;go_wp2_with fail
 go_loopw [5] (λi wr=>∃(k:Nat),k<=f.length/\i= .int .i64 k/\Hid (f.take k=g.take k)/\
  a0n (w.heap.size+2) ((w.alloc (a0p #[S s,S r,S o,a0d a f.length u] 123)).alloc (a0p #[S s,S r,S o,a0d C g.length v] 123)) wr) (λi _=>f.length - (intOf i).toNat)
 case atStart=>exact ⟨0,a0s _,rfl,rfl,a0g _ _⟩
 case round=>
  obtain ⟨k,hk,rfl,H,B⟩:=hrel;have a4:wr.cell? ⟨w.heap.size,3,none⟩=some (a0d a f.length u):=by rw [B.cell (p:=⟨w.heap.size,3,none⟩) (by simp)];go_simp
  have a5:wr.cell? ⟨w.heap.size+1,3,none⟩=some (a0d C g.length v):=by rw [B.cell (p:=⟨w.heap.size+1,3,none⟩) (by simp)];go_simp
  have x:a0n w.heap.size w wr:=btr ((am w _).alloc (by simp) _) B (by omega);by_cases hlt:k<f.length
  · have M:k<g.length:=by rw [<- F.out];exact hlt
    obtain ⟨b,l,Y,E,_,_,R,U⟩:=(O.kept (bd x (a0b _))).sub k hlt;cases E;obtain ⟨j,m,Z,E,_,_,T,V⟩:=(N.kept (bd x (a0b _))).sub k M;cases E;have P:Hid (f[k]=g[k]->f.take (k+1)=g.take (k+1)):=iB k hlt M H.out;have G:Hid (f[k]≠g[k]->eP ⟨s,r,o,f⟩ ⟨s,r,o,g⟩=false):=λQ=>pQ (by intro D;injection D with _ _ _ D;subst D;exact Q rfl);generalize hp:f[k]=p at *;generalize hq:g[k]=q at *;clear hp hq;obtain ⟨n,t⟩:=p;obtain ⟨y,z⟩:=q;simp only at R U T V;have W:(0:Int)<=k:=by omega
    have C:(k:Int)<f.length:=by omega
    have X:(k:Int)<g.length:=by omega
    by_cases hpc:n=y
    · subst hpc;by_cases hpt:t=z
      · subst hpt;go_wp2_with fail
        go_region_held3 (λw'=>w'.cell? ⟨w.heap.size,3,none⟩=some (a0d (some ⟨b,l,none⟩) f.length u)/\w'.cell? ⟨w.heap.size+1,3,none⟩=some (a0d (some ⟨j,m,none⟩) g.length v)/\w'.cell? ⟨b,l+k * 2,none⟩=some (.int .u8 n.toNat)/\w'.cell? ⟨b,l+k * 2+1,none⟩=some (S t)/\w'.cell? ⟨j,m+k * 2,none⟩=some (.int .u8 n.toNat)/\w'.cell? ⟨j,m+k * 2+1,none⟩=some (S t)) (go_keep) (fail)
        go_wp2_with fail
        go_roundw
        case rel=>exact ⟨k+1,by omega,by go_num,P.out (by simp),B.drew⟩
        case measure=>simp [intOf];omega
      · have A:(t==z)=false:=by simpa using hpt
        have J:(t !=z)=true:=by simpa using hpt
        go_wp2_with fail
        go_region_held3 (λw'=>w'.cell? ⟨w.heap.size,3,none⟩=some (a0d (some ⟨b,l,none⟩) f.length u)/\w'.cell? ⟨w.heap.size+1,3,none⟩=some (a0d (some ⟨j,m,none⟩) g.length v)/\w'.cell? ⟨b,l+k * 2,none⟩=some (.int .u8 n.toNat)/\w'.cell? ⟨b,l+k * 2+1,none⟩=some (S t)/\w'.cell? ⟨j,m+k * 2,none⟩=some (.int .u8 n.toNat)/\w'.cell? ⟨j,m+k * 2+1,none⟩=some (S z)) (go_keep) (fail)
        go_wp2_with fail
        go_ret;exact ⟨ap (G.out (by simpa using hpt)).symm,x.drew⟩
    · have I:¬(n.toNat:Int)=y.toNat:=by intro h;exact hpc (UInt8.toNat_inj.1 (by omega))
      have A:((n.toNat:Int)==y.toNat)=false:=by simpa using I
      have J:((n.toNat:Int)!=y.toNat)=true:=by simpa using I
      go_wp2_with fail
      go_region_held3 (λw'=>w'.cell? ⟨w.heap.size,3,none⟩=some (a0d (some ⟨b,l,none⟩) f.length u)/\w'.cell? ⟨w.heap.size+1,3,none⟩=some (a0d (some ⟨j,m,none⟩) g.length v)/\w'.cell? ⟨b,l+k * 2,none⟩=some (.int .u8 n.toNat)/\w'.cell? ⟨b,l+k * 2+1,none⟩=some (S t)/\w'.cell? ⟨j,m+k * 2,none⟩=some (.int .u8 y.toNat)/\w'.cell? ⟨j,m+k * 2+1,none⟩=some (S z)) (go_keep) (fail)
      go_wp2_with fail
      go_ret;exact ⟨ap (G.out (by simp [hpc])).symm,x.drew⟩
  · go_wp2_with fail
    go_ret;refine ⟨ap ?_,x⟩;symm;rw [jh]
    have A:=H.out;have J:=F.out;rw [a0f (by omega),a0f (by omega)] at A;rw [A]
theorem nW (f g:af) (d c:a0k) (w:a0e) (j:az 0 w.heap.size w d f.subs) (i:az 0 w.heap.size w c g.subs) (n:f.subs.length<=1000000):
 a0m a0a 139 #[fieldV f d,fieldV g c] w λe w'=>e= .returned (.bool (eP f g))/\a0n w.heap.size w w':=by
 have m:∃a b,d= .slice a f.subs.length b:=by obtain ⟨a,b,h,_⟩:=j;exact ⟨a,b,h⟩
 have l:∃a b,c= .slice a g.subs.length b:=by obtain ⟨a,b,h,_⟩:=i;exact ⟨a,b,h⟩
 by_cases h:f.tag≠g.tag∨f.ind≠g.ind∨f.data≠g.data∨f.subs.length≠g.subs.length
 · exact jV f g d c w m l h
 · obtain ⟨r,o,k,p⟩:=f;obtain ⟨u,t,s,q⟩:=g;simp only [ne_eq,not_or,a0F] at h;obtain ⟨rfl,rfl,rfl,h⟩:=h;exact iE r o k p q d c w j i n h
open Go.RowKit
open Classical in
noncomputable def sameR (r s:aB):Bool:=decide (r=s)
theorem mL (r s:aB):sameR r s=true↔r=s:=by unfold sameR;simp
theorem pP {r s:aB} (h:r≠s):sameR r s=false:=by unfold sameR;simp [h]
theorem rV (r s:aB) (x y:a0k) (w:a0e) (f:∃a b,x= .slice a r.fields.length b) (d:∃a b,y= .slice a s.fields.length b)
 (h:r.kind≠s.kind∨r.level≠s.level∨r.fields.length≠s.fields.length):
 a0m a0a 87 #[fq r x,fq s y] w λe w'=>e= .returned (.bool (sameR r s))/\a0n w.heap.size w w':=by
 have c:Hid (sameR r s=false):=pP (by rintro rfl;simp at h);obtain ⟨a,b,rfl⟩:=f;obtain ⟨g,i,rfl⟩:=d;obtain ⟨k,l,j⟩:=r;obtain ⟨n,o,m⟩:=s;simp only at h;unfold fq;rw [c.out];have H:=a0c h;clear h;go_enter Tryz.func87,Tryz.ntmps87;go_wp2_with fail
 all_goals first
  |(go_ret;exact ⟨rfl,(am w _).alloc (by simp) _⟩)
  |(exfalso;go_tidy;have h:=H.out;clear H;simp only [ne_eq, <- UInt8.toNat_inj] at h;simp at *;omega)
theorem nV (g j:UInt8) (c f:List af) (x y:a0k) (w:a0e) (C:ai 0 w.heap.size w x c) (D:ai 0 w.heap.size w y f) (Y:bL c) (h:c.length=f.length):
 a0m a0a 87 #[fq ⟨g,j,c⟩ x,fq ⟨g,j,f⟩ y] w λe w'=>e= .returned (.bool (sameR ⟨g,j,c⟩ ⟨g,j,f⟩))/\a0n w.heap.size w w':=by
 have T:=a0c C;have U:=a0c D;obtain ⟨a,u,rfl⟩:=C.shape;obtain ⟨s,v,rfl⟩:=D.shape;obtain ⟨hn,O⟩:=Y;have R:=a0c O;clear C D O;unfold fq;have F:=a0c h;have a5:((c.length:Int)!=f.length)=false:=by simp [h]
 clear h;go_enter Tryz.func87,Tryz.ntmps87;go_wp2_with fail
 go_loopw [5,6] (λi t wr=>∃(k:Nat),k<=c.length/\i= .int .i64 k/\Hid (c.take k=f.take k)/\
  a0n (w.heap.size+2) ((w.alloc (a0p #[.int .u8 g.toNat, .int .u8 j.toNat,a0d a c.length u] 62)).alloc (a0p #[.int .u8 g.toNat, .int .u8 j.toNat,a0d s f.length v] 62)) wr) (λi _ _=>c.length - (intOf i).toNat)
 case atStart=>exact ⟨0,a0s _,rfl,rfl,a0g _ _⟩
 case round=>
  obtain ⟨k,hk,rfl,G,r⟩:=hrel;have a6:wr.cell? ⟨w.heap.size,2,none⟩=some (a0d a c.length u):=by rw [r.cell (p:=⟨w.heap.size,2,none⟩) (by simp)];go_simp
  have X:wr.cell? ⟨w.heap.size+1,2,none⟩=some (a0d s f.length v):=by rw [r.cell (p:=⟨w.heap.size+1,2,none⟩) (by simp)];go_simp
  have m:a0n w.heap.size w wr:=btr ((am w _).alloc (by simp) _) r (by omega);have V:=m.size;by_cases hlt:k<c.length
  · have K:k<f.length:=by rw [<- F.out];exact hlt
    obtain ⟨b,n,a0,d,B,_,_,p0,p1,p2,p3,M⟩:=(T.kept (bd m (a0b _))).field k hlt;cases B;obtain ⟨l,o,a4,H,B,_,_,q0,q1,q2,q3,N⟩:=(U.kept (bd m (a0b _))).field k K;cases B;have P:Hid (eP c[k] f[k]=true->c.take (k+1)=f.take (k+1)):=λh=>iB k hlt K G.out ((jh _ _).1 h);have Q:Hid (eP c[k] f[k]=false->sameR ⟨g,j,c⟩ ⟨g,j,f⟩=false):=λL=>pP (by intro A;injection A with _ _ A;subst A;have:=(jh c[k] c[k]).2 rfl;rw [this] at L;cases L);have J:=a0v (cF c[k]) (R _ (a0w hlt))
    have E:Hid (∀W,a0n wr.heap.size wr W->a0m a0a 139 #[fieldV c[k] d,fieldV f[k] H] W λe w'=>e= .returned (.bool (eP c[k] f[k]))/\a0n W.heap.size W w'):=λW q=>
     nW _ _ _ _ W ((M.kept (bd q (by omega))).mono (a0b _) (by have:=q.size;omega)) ((N.kept (bd q (by omega))).mono (a0b _) (by have:=q.size;omega)) J
    unfold fieldV at E;clear M N J;generalize eP c[k] f[k]=t at *;generalize c[k].tag=f1 at *;generalize c[k].ind=f2 at *;generalize c[k].data=f3 at *;generalize f[k].tag=g1 at *;generalize f[k].ind=g2 at *;generalize f[k].data=g3 at *;have Z:(0:Int)<=k:=by omega
    have s:(k:Int)<c.length:=by omega
    have a3:(k:Int)<f.length:=by omega
    cases t
    all_goals
     go_wp2_with fail
     go_region_held3 (λw'=>w'.cell? ⟨w.heap.size,2,none⟩=some (a0d (some ⟨b,n,none⟩) c.length u)/\w'.cell? ⟨w.heap.size+1,2,none⟩=some (a0d (some ⟨l,o,none⟩) f.length v)
      /\w'.cell? ⟨b,n+k * 4,none⟩=some (S f1)/\w'.cell? ⟨b,n+k * 4+1,none⟩=some (S f2)/\w'.cell? ⟨b,n+k * 4+2,none⟩=some (S f3)/\w'.cell? ⟨b,n+k * 4+3,none⟩=some d
      /\w'.cell? ⟨l,o+k * 4,none⟩=some (S g1)/\w'.cell? ⟨l,o+k * 4+1,none⟩=some (S g2)/\w'.cell? ⟨l,o+k * 4+2,none⟩=some (S g3)/\w'.cell? ⟨l,o+k * 4+3,none⟩=some H) (go_keep)
      ((go_at_call 139;refine (E.out _ ?_).mono ?_;(exact (a0g _ wr).drew);rintro e w3 ⟨rfl,z⟩;have a7:=fd z))
     go_wp2_with fail
    · go_ret;exact ⟨ap (Q.out (by simp)).symm,btr m.drew z (by simpa using V)⟩
    · go_roundw
      case rel=>exact ⟨k+1,by omega,by go_num,P.out (by simp),btr r.drew z (by have:w.heap.size+1<wr.heap.size:=bq X;simp;omega)⟩
      case measure=>simp [intOf];omega
  · go_wp2_with fail
    go_ret;refine ⟨ap ?_,m⟩;symm;rw [mL]
    have I:=G.out;have h2:=F.out;rw [a0f (by omega),a0f (by omega)] at I;rw [I]
theorem yt (r s:aB) (u v:a0k) (w:a0e) (g:d7 0 w.heap.size w u r) (i:d7 0 w.heap.size w v s) (f:bL r.fields):
 a0m a0a 87 #[u,v] w λe w'=>e= .returned (.bool (sameR r s))/\a0n w.heap.size w w':=by
 obtain ⟨x,rfl,a⟩:=g;obtain ⟨y,rfl,b⟩:=i;by_cases h:r.kind≠s.kind∨r.level≠s.level∨r.fields.length≠s.fields.length
 · exact rV r s x y w a.shape b.shape h
 · obtain ⟨k,l,c⟩:=r;obtain ⟨j,m,d⟩:=s;simp only [ne_eq,not_or,a0F] at h;obtain ⟨rfl,rfl,h⟩:=h;exact nV k l c d x y w a b f h
end
section
open Go.RowKit
attribute [local go_sem ↓] Go.wp_at_zero Go.wp_at_succ
theorem wL (r:aB) (v:a0k) (w:a0e) (b:d7 0 w.heap.size w v r) (d:bL r.fields):
 a0m a0a 85 #[v] w λe w'=>e= .returned (.bool (decide (wrongR r=0)))/\a0n w.heap.size w w':=by
 have c:Hid (∀W,a0n w.heap.size w W->a0m a0a 122 #[v] W λe w'=>e= .returned (.int .i64 (wrongR r))/\a0n W.heap.size W w'):=λW a=>
  vY r v W ((b.kept (bd a (a0b _))).mono (a0b _) a.size) d
 obtain ⟨x,rfl,_⟩:=b;unfold fq at *;generalize wrongR r=e at *;go_enter Tryz.func85,Tryz.ntmps85;go_wp2_with (go_at_call 122;refine (c.out _ (am _ _)).mono ?_;rintro e w1 ⟨rfl,a⟩)
 go_ret;exact ⟨ap (by rw [a0h];simp),btr (am w _) a (by simp)⟩
end
end Go.Proofs.YtjcimanddakkaaaGreatDoor
