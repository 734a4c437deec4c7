/-
 Mirr: by a program of the bench (seat.py).
-/
import Derived.Test.YtpfjaaofpcbejaaGreatMirrHand
import Derived.Test.YtpfjaaofpcbejaaGreatMirrRaw
namespace Go.Proofs.YtpfjaaofpcbejaaGreat
open Go.Sx Go
theorem ok90:FOk Tryz.prog 90 S90:=zad (E:=E90) (fn:=Tryz.f90) (zyo.opt { flats:=[(93,L93)],owns:=[87],frzs:=[89,90,91] }) (GOk.look (l:=[]) trivial) Tryz.checked.mixed Tryz.func90 (by kernel_rfl) (by kernel_rfl) (by kernel_rfl) (by kernel_rfl) (by kernel_rfl) (by kernel_rfl) (by kernel_rfl)
 fun x y h=>(zrx x).trans h
theorem ok59:FOk Tryz.prog 59 S59:=zad (E:=E59) (fn:=Tryz.f59) (zyo.opt { flats:=[(93,L93)],owns:=[87],frzs:=[89,90,91] }) (GOk.look (l:=[(90,[S90])]) ⟨⟨ok90,trivial⟩,trivial⟩) Tryz.checked.mixed Tryz.func59 (by kernel_rfl) (by kernel_rfl) (by kernel_rfl) (by kernel_rfl) (by kernel_rfl) (by kernel_rfl) (by kernel_rfl)
 fun x y h=>(zr2 x).trans h
theorem ok40:FOk Tryz.prog 40 S40:=zad (E:=E40) (fn:=Tryz.f40) (zyo.opt { flats:=[(93,L93)],owns:=[87],frzs:=[89,90,91] }) (GOk.look (l:=[(59,[S59])]) ⟨⟨ok59,trivial⟩,trivial⟩) Tryz.checked.mixed Tryz.func40 (by kernel_rfl) (by kernel_rfl) (by kernel_rfl) (by kernel_rfl) (by kernel_rfl) (by kernel_rfl) (by kernel_rfl)
 fun x y h=>(zsl x).trans h
theorem ok60:FOk Tryz.prog 60 S60:=zad (E:=E60) (fn:=Tryz.f60) (zyo.opt { flats:=[(93,L93)],owns:=[87],frzs:=[89,90,91] }) (GOk.look (l:=[]) trivial) Tryz.checked.mixed Tryz.func60 (by kernel_rfl) (by kernel_rfl) (by kernel_rfl) (by kernel_rfl) (by kernel_rfl) (by kernel_rfl) (by kernel_rfl)
 fun x y h=>(zr1 x).trans h
theorem ok41:FOk Tryz.prog 41 S41:=zad (E:=E41) (fn:=Tryz.f41) (zyo.opt { flats:=[(93,L93)],owns:=[87],frzs:=[89,90,91] }) (GOk.look (l:=[(60,[S60])]) ⟨⟨ok60,trivial⟩,trivial⟩) Tryz.checked.mixed Tryz.func41 (by kernel_rfl) (by kernel_rfl) (by kernel_rfl) (by kernel_rfl) (by kernel_rfl) (by kernel_rfl) (by kernel_rfl)
 fun x y h=>(zsk x).trans h
theorem ok20:FOk Tryz.prog 20 S20:=zad (E:=E20) (fn:=Tryz.f20) (zyo.opt { flats:=[(93,L93)],owns:=[87],frzs:=[89,90,91] }) (GOk.look (l:=[(40,[S40]),(41,[S41])]) ⟨⟨ok40,trivial⟩,⟨ok41,trivial⟩,trivial⟩) Tryz.checked.mixed Tryz.func20 (by kernel_rfl) (by kernel_rfl) (by kernel_rfl) (by kernel_rfl) (by kernel_rfl) (by kernel_rfl) (by kernel_rfl)
 fun x y h=>(zsG x).trans h
theorem ok21:FOk Tryz.prog 21 S21:=zad (E:=E21) (fn:=Tryz.f21) (zyo.opt { flats:=[(93,L93)],owns:=[87],frzs:=[89,90,91] }) (GOk.look (l:=[]) trivial) Tryz.checked.mixed Tryz.func21 (by kernel_rfl) (by kernel_rfl) (by kernel_rfl) (by kernel_rfl) (by kernel_rfl) (by kernel_rfl) (by kernel_rfl)
 fun x y h=>(zsF x).trans h
theorem ok7:FOk Tryz.prog 7 S7:=zad (E:=E7) (fn:=Tryz.f7) (zyo.opt { flats:=[(93,L93)],owns:=[87],frzs:=[89,90,91] }) (GOk.look (l:=[(20,[S20]),(21,[S21])]) ⟨⟨ok20,trivial⟩,⟨ok21,trivial⟩,trivial⟩) Tryz.checked.mixed Tryz.func7 (by kernel_rfl) (by kernel_rfl) (by kernel_rfl) (by kernel_rfl) (by kernel_rfl) (by kernel_rfl) (by kernel_rfl)
 fun x y h=>(zuT x).trans h
theorem ok22:FOk Tryz.prog 22 S22:=zad (E:=E22) (fn:=Tryz.f22) (zyo.opt { flats:=[(93,L93)],owns:=[87],frzs:=[89,90,91] }) (GOk.look (l:=[]) trivial) Tryz.checked.mixed Tryz.func22 (by kernel_rfl) (by kernel_rfl) (by kernel_rfl) (by kernel_rfl) (by kernel_rfl) (by kernel_rfl) (by kernel_rfl)
 fun x y h=>(zsE x).trans h
theorem zzi:FOk Tryz.prog 110 S110:=zad (E:=E110) (fn:=Tryz.f110) (zyo.opt { flats:=[(93,L93)],owns:=[87],frzs:=[89,90,91] }) (GOk.look (l:=[]) trivial) Tryz.checked.mixed Tryz.func110 (by kernel_rfl) (by kernel_rfl) (by kernel_rfl) (by kernel_rfl) (by kernel_rfl) (by kernel_rfl) (by kernel_rfl)
 fun x y h=>(zpc x).trans h
theorem zzh:FOk Tryz.prog 111 S111:=zad (E:=E111) (fn:=Tryz.f111) (zyo.opt { flats:=[(93,L93)],owns:=[87],frzs:=[89,90,91] }) (GOk.look (l:=[]) trivial) Tryz.checked.mixed Tryz.func111 (by kernel_rfl) (by kernel_rfl) (by kernel_rfl) (by kernel_rfl) (by kernel_rfl) (by kernel_rfl) (by kernel_rfl)
 fun x y h=>(zpb x).trans h
theorem ok70:FOk Tryz.prog 70 S70:=zad (E:=E70) (fn:=Tryz.f70) (zyo.opt { flats:=[(93,L93)],owns:=[87],frzs:=[89,90,91] }) (GOk.look (l:=[(110,[S110]),(111,[S111])]) ⟨⟨zzi,trivial⟩,⟨zzh,trivial⟩,trivial⟩) Tryz.checked.mixed Tryz.func70 (by kernel_rfl) (by kernel_rfl) (by kernel_rfl) (by kernel_rfl) (by kernel_rfl) (by kernel_rfl) (by kernel_rfl)
 fun x y h=>(zrR x).trans h
theorem ok73:FOk Tryz.prog 73 S73:=zad (E:=E73) (fn:=Tryz.f73) (zyo.opt { flats:=[(93,L93)],owns:=[87],frzs:=[89,90,91] }) (GOk.look (l:=[]) trivial) Tryz.checked.mixed Tryz.func73 (by kernel_rfl) (by kernel_rfl) (by kernel_rfl) (by kernel_rfl) (by kernel_rfl) (by kernel_rfl) (by kernel_rfl)
 fun x y h=>(zrO x).trans h
theorem ok72:FOk Tryz.prog 72 S72:=zad (E:=E72) (fn:=Tryz.f72) (zyo.opt { flats:=[(93,L93)],owns:=[87],frzs:=[89,90,91] }) (GOk.look (l:=[(73,[S73])]) ⟨⟨ok73,trivial⟩,trivial⟩) Tryz.checked.mixed Tryz.func72 (by kernel_rfl) (by kernel_rfl) (by kernel_rfl) (by kernel_rfl) (by kernel_rfl) (by kernel_rfl) (by kernel_rfl)
 fun x y h=>(zrP x).trans h
theorem zze:FOk Tryz.prog 114 S114:=zad (E:=E114) (fn:=Tryz.f114) (zyo.opt { flats:=[(93,L93)],owns:=[87],frzs:=[89,90,91] }) (GOk.look (l:=[]) trivial) Tryz.checked.mixed Tryz.func114 (by kernel_rfl) (by kernel_rfl) (by kernel_rfl) (by kernel_rfl) (by kernel_rfl) (by kernel_rfl) (by kernel_rfl)
 fun x y h=>(zo8 x).trans h
theorem ok75:FOk Tryz.prog 75 S75:=zad (E:=E75) (fn:=Tryz.f75) (zyo.opt { flats:=[(93,L93)],owns:=[87],frzs:=[89,90,91] }) (GOk.look (l:=[(72,[S72]),(114,[S114])]) ⟨⟨ok72,trivial⟩,⟨zze,trivial⟩,trivial⟩) Tryz.checked.mixed Tryz.func75 (by kernel_rfl) (by kernel_rfl) (by kernel_rfl) (by kernel_rfl) (by kernel_rfl) (by kernel_rfl) (by kernel_rfl)
 fun x y h=>(zrM x).trans h
theorem ok76:FOk Tryz.prog 76 S76:=zad (E:=E76) (fn:=Tryz.f76) (zyo.opt { flats:=[(93,L93)],owns:=[87],frzs:=[89,90,91] }) (GOk.look (l:=[]) trivial) Tryz.checked.mixed Tryz.func76 (by kernel_rfl) (by kernel_rfl) (by kernel_rfl) (by kernel_rfl) (by kernel_rfl) (by kernel_rfl) (by kernel_rfl)
 fun x y h=>(zrL x).trans h
theorem zzg:FOk Tryz.prog 112 S112:=zad (E:=E112) (fn:=Tryz.f112) (zyo.opt { flats:=[(93,L93)],owns:=[87],frzs:=[89,90,91] }) (GOk.look (l:=[]) trivial) Tryz.checked.mixed Tryz.func112 (by kernel_rfl) (by kernel_rfl) (by kernel_rfl) (by kernel_rfl) (by kernel_rfl) (by kernel_rfl) (by kernel_rfl)
 fun x y h=>(zpa x).trans h
theorem zzf:FOk Tryz.prog 113 S113:=zad (E:=E113) (fn:=Tryz.f113) (zyo.opt { flats:=[(93,L93)],owns:=[87],frzs:=[89,90,91] }) (GOk.look (l:=[]) trivial) Tryz.checked.mixed Tryz.func113 (by kernel_rfl) (by kernel_rfl) (by kernel_rfl) (by kernel_rfl) (by kernel_rfl) (by kernel_rfl) (by kernel_rfl)
 fun x y h=>(zo9 x).trans h
theorem ok71:FOk Tryz.prog 71 S71:=zad (E:=E71) (fn:=Tryz.f71) (zyo.opt { flats:=[(93,L93)],owns:=[87],frzs:=[89,90,91] }) (GOk.look (l:=[(73,[S73]),(75,[S75]),(76,[S76]),(112,[S112]),(113,[S113])]) ⟨⟨ok73,trivial⟩,⟨ok75,trivial⟩,⟨ok76,trivial⟩,⟨zzg,trivial⟩,⟨zzf,trivial⟩,trivial⟩) Tryz.checked.mixed Tryz.func71 (by kernel_rfl) (by kernel_rfl) (by kernel_rfl) (by kernel_rfl) (by kernel_rfl) (by kernel_rfl) (by kernel_rfl)
 fun x y h=>(zrQ x).trans h
theorem ok74:FOk Tryz.prog 74 S74:=zad (E:=E74) (fn:=Tryz.f74) (zyo.opt { flats:=[(93,L93)],owns:=[87],frzs:=[89,90,91] }) (GOk.look (l:=[]) trivial) Tryz.checked.mixed Tryz.func74 (by kernel_rfl) (by kernel_rfl) (by kernel_rfl) (by kernel_rfl) (by kernel_rfl) (by kernel_rfl) (by kernel_rfl)
 fun x y h=>(zrN x).trans h
theorem ok49:FOk Tryz.prog 49 S49:=zad (E:=E49) (fn:=Tryz.f49) (zyo.opt { flats:=[(93,L93)],owns:=[87],frzs:=[89,90,91] }) (GOk.look (l:=[(70,[S70]),(71,[S71]),(72,[S72]),(73,[S73]),(74,[S74]),(75,[S75]),(76,[S76])]) ⟨⟨ok70,trivial⟩,⟨ok71,trivial⟩,⟨ok72,trivial⟩,⟨ok73,trivial⟩,⟨ok74,trivial⟩,⟨ok75,trivial⟩,⟨ok76,trivial⟩,trivial⟩) Tryz.checked.mixed Tryz.func49 (by kernel_rfl) (by kernel_rfl) (by kernel_rfl) (by kernel_rfl) (by kernel_rfl) (by kernel_rfl) (by kernel_rfl)
 fun x y h=>(zsc x).trans h
theorem ok42:FOk Tryz.prog 42 S42:=zad (E:=E42) (fn:=Tryz.f42) (zyo.opt { flats:=[(93,L93)],owns:=[87],frzs:=[89,90,91] }) (GOk.look (l:=[(49,[S49])]) ⟨⟨ok49,trivial⟩,trivial⟩) Tryz.checked.mixed Tryz.func42 (by kernel_rfl) (by kernel_rfl) (by kernel_rfl) (by kernel_rfl) (by kernel_rfl) (by kernel_rfl) (by kernel_rfl)
 fun x y h=>(zsj x).trans h
theorem ok23:FOk Tryz.prog 23 S23:=zad (E:=E23) (fn:=Tryz.f23) (zyo.opt { flats:=[(93,L93)],owns:=[87],frzs:=[89,90,91] }) (GOk.look (l:=[(42,[S42])]) ⟨⟨ok42,trivial⟩,trivial⟩) Tryz.checked.mixed Tryz.func23 (by kernel_rfl) (by kernel_rfl) (by kernel_rfl) (by kernel_rfl) (by kernel_rfl) (by kernel_rfl) (by kernel_rfl)
 fun x y h=>(zsD x).trans h
theorem ok61:FOk Tryz.prog 61 S61:=zad (E:=E61) (fn:=Tryz.f61) (zyo.opt { flats:=[(93,L93)],owns:=[87],frzs:=[89,90,91] }) (GOk.look (l:=[]) trivial) Tryz.checked.mixed Tryz.func61 (by kernel_rfl) (by kernel_rfl) (by kernel_rfl) (by kernel_rfl) (by kernel_rfl) (by kernel_rfl) (by kernel_rfl)
 fun x y h=>(zr0 x).trans h
theorem ok43:FOk Tryz.prog 43 S43:=zad (E:=E43) (fn:=Tryz.f43) (zyo.opt { flats:=[(93,L93)],owns:=[87],frzs:=[89,90,91] }) (GOk.look (l:=[(61,[S61])]) ⟨⟨ok61,trivial⟩,trivial⟩) Tryz.checked.mixed Tryz.func43 (by kernel_rfl) (by kernel_rfl) (by kernel_rfl) (by kernel_rfl) (by kernel_rfl) (by kernel_rfl) (by kernel_rfl)
 fun x y h=>(zsi x).trans h
theorem ok44:FOk Tryz.prog 44 S44:=zad (E:=E44) (fn:=Tryz.f44) (zyo.opt { flats:=[(93,L93)],owns:=[87],frzs:=[89,90,91] }) (GOk.look (l:=[(61,[S61])]) ⟨⟨ok61,trivial⟩,trivial⟩) Tryz.checked.mixed Tryz.func44 (by kernel_rfl) (by kernel_rfl) (by kernel_rfl) (by kernel_rfl) (by kernel_rfl) (by kernel_rfl) (by kernel_rfl)
 fun x y h=>(zsh x).trans h
theorem ok62:FOk Tryz.prog 62 S62:=zad (E:=E62) (fn:=Tryz.f62) (zyo.opt { flats:=[(93,L93)],owns:=[87],frzs:=[89,90,91] }) (GOk.look (l:=[]) trivial) Tryz.checked.mixed Tryz.func62 (by kernel_rfl) (by kernel_rfl) (by kernel_rfl) (by kernel_rfl) (by kernel_rfl) (by kernel_rfl) (by kernel_rfl)
 fun x y h=>(zrZ x).trans h
theorem ok45:FOk Tryz.prog 45 S45:=zad (E:=E45) (fn:=Tryz.f45) (zyo.opt { flats:=[(93,L93)],owns:=[87],frzs:=[89,90,91] }) (GOk.look (l:=[(61,[S61]),(62,[S62])]) ⟨⟨ok61,trivial⟩,⟨ok62,trivial⟩,trivial⟩) Tryz.checked.mixed Tryz.func45 (by kernel_rfl) (by kernel_rfl) (by kernel_rfl) (by kernel_rfl) (by kernel_rfl) (by kernel_rfl) (by kernel_rfl)
 fun x y h=>(zsg x).trans h
theorem ok63:FOk Tryz.prog 63 S63:=zad (E:=E63) (fn:=Tryz.f63) (zyo.opt { flats:=[(93,L93)],owns:=[87],frzs:=[89,90,91] }) (GOk.look (l:=[(40,[S40])]) ⟨⟨ok40,trivial⟩,trivial⟩) Tryz.checked.mixed Tryz.func63 (by kernel_rfl) (by kernel_rfl) (by kernel_rfl) (by kernel_rfl) (by kernel_rfl) (by kernel_rfl) (by kernel_rfl)
 fun x y h=>(zrY x).trans h
theorem ok46:FOk Tryz.prog 46 S46:=zad (E:=E46) (fn:=Tryz.f46) (zyo.opt { flats:=[(93,L93)],owns:=[87],frzs:=[89,90,91] }) (GOk.look (l:=[(61,[S61]),(62,[S62]),(63,[S63])]) ⟨⟨ok61,trivial⟩,⟨ok62,trivial⟩,⟨ok63,trivial⟩,trivial⟩) Tryz.checked.mixed Tryz.func46 (by kernel_rfl) (by kernel_rfl) (by kernel_rfl) (by kernel_rfl) (by kernel_rfl) (by kernel_rfl) (by kernel_rfl)
 fun x y h=>(zsf x).trans h
theorem ok24:FOk Tryz.prog 24 S24:=zad (E:=E24) (fn:=Tryz.f24) (zyo.opt { flats:=[(93,L93)],owns:=[87],frzs:=[89,90,91] }) (GOk.look (l:=[(43,[S43]),(44,[S44]),(45,[S45]),(46,[S46])]) ⟨⟨ok43,trivial⟩,⟨ok44,trivial⟩,⟨ok45,trivial⟩,⟨ok46,trivial⟩,trivial⟩) Tryz.checked.mixed Tryz.func24 (by kernel_rfl) (by kernel_rfl) (by kernel_rfl) (by kernel_rfl) (by kernel_rfl) (by kernel_rfl) (by kernel_rfl)
 fun x y h=>(zsC x).trans h
theorem ok47:FOk Tryz.prog 47 S47:=zad (E:=E47) (fn:=Tryz.f47) (zyo.opt { flats:=[(93,L93)],owns:=[87],frzs:=[89,90,91] }) (GOk.look (l:=[]) trivial) Tryz.checked.mixed Tryz.func47 (by kernel_rfl) (by kernel_rfl) (by kernel_rfl) (by kernel_rfl) (by kernel_rfl) (by kernel_rfl) (by kernel_rfl)
 fun x y h=>(zse x).trans h
theorem zwR:FOk Tryz.prog 133 S133:=zad (E:=E133) (fn:=Tryz.f133) (zyo.opt { flats:=[(93,L93)],owns:=[87],frzs:=[89,90,91] }) (GOk.look (l:=[]) trivial) Tryz.checked.mixed Tryz.func133 (by kernel_rfl) (by kernel_rfl) (by kernel_rfl) (by kernel_rfl) (by kernel_rfl) (by kernel_rfl) (by kernel_rfl)
 fun x y h=>(zoP x).trans h
theorem zwD:FOk Tryz.prog 168 S168:=zad (E:=E168) (fn:=Tryz.f168) (zyo.opt { flats:=[(93,L93)],owns:=[87],frzs:=[89,90,91] }) (GOk.look (l:=[(133,[S133])]) ⟨⟨zwR,trivial⟩,trivial⟩) Tryz.checked.mixed Tryz.func168 (by kernel_rfl) (by kernel_rfl) (by kernel_rfl) (by kernel_rfl) (by kernel_rfl) (by kernel_rfl) (by kernel_rfl)
 fun x y h=>(zok x).trans h
theorem zwE:FOk Tryz.prog 167 zv5:=zad (E:=zyf) (fn:=Tryz.f167) (zyo.opt { flats:=[(93,L93)],owns:=[87],frzs:=[89,90,91] }) (GOk.look (l:=[(168,[S168])]) ⟨⟨zwD,trivial⟩,trivial⟩) Tryz.checked.mixed Tryz.func167 (by kernel_rfl) (by kernel_rfl) (by kernel_rfl) (by kernel_rfl) (by kernel_rfl) (by kernel_rfl) (by kernel_rfl)
 fun x y h=>(zmB x).trans h
theorem zy4:FOk Tryz.prog 132 S132:=zad (E:=E132) (fn:=Tryz.f132) (zyo.opt { flats:=[(93,L93)],owns:=[87],frzs:=[89,90,91] }) (GOk.look (l:=[(167,[zv5]),(168,[S168])]) ⟨⟨zwE,trivial⟩,⟨zwD,trivial⟩,trivial⟩) Tryz.checked.mixed Tryz.func132 (by kernel_rfl) (by kernel_rfl) (by kernel_rfl) (by kernel_rfl) (by kernel_rfl) (by kernel_rfl) (by kernel_rfl)
 fun x y h=>(zoQ x).trans h
theorem ok91:FOk Tryz.prog 91 S91:=zad (E:=E91) (fn:=Tryz.f91) (zyo.opt { flats:=[(93,L93)],owns:=[87],frzs:=[89,90,91] }) (GOk.look (l:=[(132,[S132]),(133,[S133])]) ⟨⟨zy4,trivial⟩,⟨zwR,trivial⟩,trivial⟩) Tryz.checked.mixed Tryz.func91 (by kernel_rfl) (by kernel_rfl) (by kernel_rfl) (by kernel_rfl) (by kernel_rfl) (by kernel_rfl) (by kernel_rfl)
 fun x y h=>(zrv x).trans h
theorem zy3:FOk Tryz.prog 134 S134:=zad (E:=E134) (fn:=Tryz.f134) (zyo.opt { flats:=[(93,L93)],owns:=[87],frzs:=[89,90,91] }) (GOk.look (l:=[]) trivial) Tryz.checked.mixed Tryz.func134 (by kernel_rfl) (by kernel_rfl) (by kernel_rfl) (by kernel_rfl) (by kernel_rfl) (by kernel_rfl) (by kernel_rfl)
 fun x y h=>(zoO x).trans h
theorem zy2:FOk Tryz.prog 135 S135:=zad (E:=E135) (fn:=Tryz.f135) (zyo.opt { flats:=[(93,L93)],owns:=[87],frzs:=[89,90,91] }) (GOk.look (l:=[]) trivial) Tryz.checked.mixed Tryz.func135 (by kernel_rfl) (by kernel_rfl) (by kernel_rfl) (by kernel_rfl) (by kernel_rfl) (by kernel_rfl) (by kernel_rfl)
 fun x y h=>(zoN x).trans h
theorem ok95:FOk Tryz.prog 95 S95:=zad (E:=E95) (fn:=Tryz.f95) (zyo.opt { flats:=[(93,L93)],owns:=[87],frzs:=[89,90,91] }) (GOk.look (l:=[]) trivial) Tryz.checked.mixed Tryz.func95 (by kernel_rfl) (by kernel_rfl) (by kernel_rfl) (by kernel_rfl) (by kernel_rfl) (by kernel_rfl) (by kernel_rfl)
 fun x y h=>(zrq x).trans h
theorem zwQ:FOk Tryz.prog 136 S136:=zad (E:=E136) (fn:=Tryz.f136) (zyo.opt { flats:=[(93,L93)],owns:=[87],frzs:=[89,90,91] }) (GOk.look (l:=[(95,[S95])]) ⟨⟨ok95,trivial⟩,trivial⟩) Tryz.checked.mixed Tryz.func136 (by kernel_rfl) (by kernel_rfl) (by kernel_rfl) (by kernel_rfl) (by kernel_rfl) (by kernel_rfl) (by kernel_rfl)
 fun x y h=>(zoM x).trans h
theorem ok93:FOk Tryz.prog 93 S93:=zad (E:=E93) (fn:=Tryz.f93) (zyo.opt { flats:=[(93,L93)],owns:=[87],frzs:=[89,90,91] }) (GOk.look (l:=[(136,[S136])]) ⟨⟨zwQ,trivial⟩,trivial⟩) Tryz.checked.mixed Tryz.func93 (by kernel_rfl) (by kernel_rfl) (by kernel_rfl) (by kernel_rfl) (by kernel_rfl) (by kernel_rfl) (by kernel_rfl)
 fun x y h=>(zrt x).trans h
theorem zwB:FOk Tryz.prog 170 S170:=zad (E:=E170) (fn:=Tryz.f170) (zyo.opt { flats:=[(93,L93)],owns:=[87],frzs:=[89,90,91] }) (GOk.look (l:=[(93,[S93])]) ⟨⟨ok93,trivial⟩,trivial⟩) Tryz.checked.mixed Tryz.func170 (by kernel_rfl) (by kernel_rfl) (by kernel_rfl) (by kernel_rfl) (by kernel_rfl) (by kernel_rfl) (by kernel_rfl)
 fun x y h=>(zoi x).trans h
theorem zwC:FOk Tryz.prog 169 zv4:=zad (E:=zye) (fn:=Tryz.f169) (zyo.opt { flats:=[(93,L93)],owns:=[87],frzs:=[89,90,91] }) (GOk.look (l:=[(170,[S170])]) ⟨⟨zwB,trivial⟩,trivial⟩) Tryz.checked.mixed Tryz.func169 (by kernel_rfl) (by kernel_rfl) (by kernel_rfl) (by kernel_rfl) (by kernel_rfl) (by kernel_rfl) (by kernel_rfl)
 fun x y h=>(zmA x).trans h
theorem zy1:FOk Tryz.prog 137 S137:=zad (E:=E137) (fn:=Tryz.f137) (zyo.opt { flats:=[(93,L93)],owns:=[87],frzs:=[89,90,91] }) (GOk.look (l:=[(169,[zv4]),(170,[S170])]) ⟨⟨zwC,trivial⟩,⟨zwB,trivial⟩,trivial⟩) Tryz.checked.mixed Tryz.func137 (by kernel_rfl) (by kernel_rfl) (by kernel_rfl) (by kernel_rfl) (by kernel_rfl) (by kernel_rfl) (by kernel_rfl)
 fun x y h=>(zoL x).trans h
theorem zy0:FOk Tryz.prog 138 S138:=zad (E:=E138) (fn:=Tryz.f138) (zyo.opt { flats:=[(93,L93)],owns:=[87],frzs:=[89,90,91] }) (GOk.look (l:=[]) trivial) Tryz.checked.mixed Tryz.func138 (by kernel_rfl) (by kernel_rfl) (by kernel_rfl) (by kernel_rfl) (by kernel_rfl) (by kernel_rfl) (by kernel_rfl)
 fun x y h=>(zoK x).trans h
theorem ok92:FOk Tryz.prog 92 S92:=zad (E:=E92) (fn:=Tryz.f92) (zyo.opt { flats:=[(93,L93)],owns:=[87],frzs:=[89,90,91] }) (GOk.look (l:=[(134,[S134]),(135,[S135]),(136,[S136]),(137,[S137]),(138,[S138])]) ⟨⟨zy3,trivial⟩,⟨zy2,trivial⟩,⟨zwQ,trivial⟩,⟨zy1,trivial⟩,⟨zy0,trivial⟩,trivial⟩) Tryz.checked.mixed Tryz.func92 (by kernel_rfl) (by kernel_rfl) (by kernel_rfl) (by kernel_rfl) (by kernel_rfl) (by kernel_rfl) (by kernel_rfl)
 fun x y h=>(zru x).trans h
theorem zwO:FOk Tryz.prog 140 S140:=zad (E:=E140) (fn:=Tryz.f140) (zyo.opt { flats:=[(93,L93)],owns:=[87],frzs:=[89,90,91] }) (GOk.look (l:=[(95,[S95])]) ⟨⟨ok95,trivial⟩,trivial⟩) Tryz.checked.mixed Tryz.func140 (by kernel_rfl) (by kernel_rfl) (by kernel_rfl) (by kernel_rfl) (by kernel_rfl) (by kernel_rfl) (by kernel_rfl)
 fun x y h=>(zoJ x).trans h
theorem zwP:FOk Tryz.prog 139 zv9:=zad (E:=zyk) (fn:=Tryz.f139) (zyo.opt { flats:=[(93,L93)],owns:=[87],frzs:=[89,90,91] }) (GOk.look (l:=[(140,[S140])]) ⟨⟨zwO,trivial⟩,trivial⟩) Tryz.checked.mixed Tryz.func139 (by kernel_rfl) (by kernel_rfl) (by kernel_rfl) (by kernel_rfl) (by kernel_rfl) (by kernel_rfl) (by kernel_rfl)
 fun x y h=>(zmG x).trans h
theorem ok94:FOk Tryz.prog 94 S94:=zad (E:=E94) (fn:=Tryz.f94) (zyo.opt { flats:=[(93,L93)],owns:=[87],frzs:=[89,90,91] }) (GOk.look (l:=[(139,[zv9]),(140,[S140])]) ⟨⟨zwP,trivial⟩,⟨zwO,trivial⟩,trivial⟩) Tryz.checked.mixed Tryz.func94 (by kernel_rfl) (by kernel_rfl) (by kernel_rfl) (by kernel_rfl) (by kernel_rfl) (by kernel_rfl) (by kernel_rfl)
 fun x y h=>(zrr x).trans h
theorem ok96:FOk Tryz.prog 96 S96:=zad (E:=E96) (fn:=Tryz.f96) (zyo.opt { flats:=[(93,L93)],owns:=[87],frzs:=[89,90,91] }) (GOk.look (l:=[(92,[S92])]) ⟨⟨ok92,trivial⟩,trivial⟩) Tryz.checked.mixed Tryz.func96 (by kernel_rfl) (by kernel_rfl) (by kernel_rfl) (by kernel_rfl) (by kernel_rfl) (by kernel_rfl) (by kernel_rfl)
 fun x y h=>(zrp x).trans h
theorem ok64:FOk Tryz.prog 64 S64:=zad (E:=E64) (fn:=Tryz.f64) (zyo.opt { flats:=[(93,L93)],owns:=[87],frzs:=[89,90,91] }) (GOk.look (l:=[(91,[S91]),(92,[S92]),(93,[S93]),(94,[S94]),(95,[S95]),(96,[S96])]) ⟨⟨ok91,trivial⟩,⟨ok92,trivial⟩,⟨ok93,trivial⟩,⟨ok94,trivial⟩,⟨ok95,trivial⟩,⟨ok96,trivial⟩,trivial⟩) Tryz.checked.mixed Tryz.func64 (by kernel_rfl) (by kernel_rfl) (by kernel_rfl) (by kernel_rfl) (by kernel_rfl) (by kernel_rfl) (by kernel_rfl)
 fun x y h=>(zrX x).trans h
theorem ok65:FOk Tryz.prog 65 S65:=zad (E:=E65) (fn:=Tryz.f65) (zyo.opt { flats:=[(93,L93)],owns:=[87],frzs:=[89,90,91] }) (GOk.look (l:=[]) trivial) Tryz.checked.mixed Tryz.func65 (by kernel_rfl) (by kernel_rfl) (by kernel_rfl) (by kernel_rfl) (by kernel_rfl) (by kernel_rfl) (by kernel_rfl)
 fun x y h=>(zrW x).trans h
theorem ok97:FOk Tryz.prog 97 S97:=zad (E:=E97) (fn:=Tryz.f97) (zyo.opt { flats:=[(93,L93)],owns:=[87],frzs:=[89,90,91] }) (GOk.look (l:=[]) trivial) Tryz.checked.mixed Tryz.func97 (by kernel_rfl) (by kernel_rfl) (by kernel_rfl) (by kernel_rfl) (by kernel_rfl) (by kernel_rfl) (by kernel_rfl)
 fun x y h=>(zro x).trans h
theorem ok98:FOk Tryz.prog 98 S98:=zad (E:=E98) (fn:=Tryz.f98) (zyo.opt { flats:=[(93,L93)],owns:=[87],frzs:=[89,90,91] }) (GOk.look (l:=[]) trivial) Tryz.checked.mixed Tryz.func98 (by kernel_rfl) (by kernel_rfl) (by kernel_rfl) (by kernel_rfl) (by kernel_rfl) (by kernel_rfl) (by kernel_rfl)
 fun x y h=>(zrn x).trans h
theorem ok99:FOk Tryz.prog 99 S99:=zad (E:=E99) (fn:=Tryz.f99) (zyo.opt { flats:=[(93,L93)],owns:=[87],frzs:=[89,90,91] }) (GOk.look (l:=[]) trivial) Tryz.checked.mixed Tryz.func99 (by kernel_rfl) (by kernel_rfl) (by kernel_rfl) (by kernel_rfl) (by kernel_rfl) (by kernel_rfl) (by kernel_rfl)
 fun x y h=>(zrm x).trans h
theorem zwN:FOk Tryz.prog 142 S142:=zad (E:=E142) (fn:=Tryz.f142) (zyo.opt { flats:=[(93,L93)],owns:=[87],frzs:=[89,90,91] }) (GOk.look (l:=[]) trivial) Tryz.checked.mixed Tryz.func142 (by kernel_rfl) (by kernel_rfl) (by kernel_rfl) (by kernel_rfl) (by kernel_rfl) (by kernel_rfl) (by kernel_rfl)
 fun x y h=>(zoH x).trans h
theorem zyZ:FOk Tryz.prog 141 S141:=zad (E:=E141) (fn:=Tryz.f141) (zyo.opt { flats:=[(93,L93)],owns:=[87],frzs:=[89,90,91] }) (GOk.look (l:=[(142,[S142])]) ⟨⟨zwN,trivial⟩,trivial⟩) Tryz.checked.mixed Tryz.func141 (by kernel_rfl) (by kernel_rfl) (by kernel_rfl) (by kernel_rfl) (by kernel_rfl) (by kernel_rfl) (by kernel_rfl)
 fun x y h=>(zoI x).trans h
theorem zzp:FOk Tryz.prog 100 S100:=zad (E:=E100) (fn:=Tryz.f100) (zyo.opt { flats:=[(93,L93)],owns:=[87],frzs:=[89,90,91] }) (GOk.look (l:=[(141,[S141])]) ⟨⟨zyZ,trivial⟩,trivial⟩) Tryz.checked.mixed Tryz.func100 (by kernel_rfl) (by kernel_rfl) (by kernel_rfl) (by kernel_rfl) (by kernel_rfl) (by kernel_rfl) (by kernel_rfl)
 fun x y h=>(zpm x).trans h
theorem zzo:FOk Tryz.prog 101 S101:=zad (E:=E101) (fn:=Tryz.f101) (zyo.opt { flats:=[(93,L93)],owns:=[87],frzs:=[89,90,91] }) (GOk.look (l:=[(142,[S142])]) ⟨⟨zwN,trivial⟩,trivial⟩) Tryz.checked.mixed Tryz.func101 (by kernel_rfl) (by kernel_rfl) (by kernel_rfl) (by kernel_rfl) (by kernel_rfl) (by kernel_rfl) (by kernel_rfl)
 fun x y h=>(zpl x).trans h
theorem ok66:FOk Tryz.prog 66 S66:=zad (E:=E66) (fn:=Tryz.f66) (zyo.opt { flats:=[(93,L93)],owns:=[87],frzs:=[89,90,91] }) (GOk.look (l:=[(91,[S91]),(97,[S97]),(98,[S98]),(99,[S99]),(100,[S100]),(101,[S101])]) ⟨⟨ok91,trivial⟩,⟨ok97,trivial⟩,⟨ok98,trivial⟩,⟨ok99,trivial⟩,⟨zzp,trivial⟩,⟨zzo,trivial⟩,trivial⟩) Tryz.checked.mixed Tryz.func66 (by kernel_rfl) (by kernel_rfl) (by kernel_rfl) (by kernel_rfl) (by kernel_rfl) (by kernel_rfl) (by kernel_rfl)
 fun x y h=>(zrV x).trans h
theorem ok67:FOk Tryz.prog 67 S67:=zad (E:=E67) (fn:=Tryz.f67) (zyo.opt { flats:=[(93,L93)],owns:=[87],frzs:=[89,90,91] }) (GOk.look (l:=[]) trivial) Tryz.checked.mixed Tryz.func67 (by kernel_rfl) (by kernel_rfl) (by kernel_rfl) (by kernel_rfl) (by kernel_rfl) (by kernel_rfl) (by kernel_rfl)
 fun x y h=>(zrU x).trans h
theorem zkA:FOk Tryz.prog 144 S144:=zad (E:=E144) (fn:=Tryz.f144) (zyo.opt { flats:=[(93,L93)],owns:=[87],frzs:=[89,90,91] }) (GOk.look (l:=[]) trivial) Tryz.checked.mixed Tryz.func144 (by kernel_rfl) (by kernel_rfl) (by kernel_rfl) (by kernel_rfl) (by kernel_rfl) (by kernel_rfl) (by kernel_rfl)
 fun x y h=>(zoF x).trans h
theorem zvc:FOk Tryz.prog 176 S176:=zad (E:=E176) (fn:=Tryz.f176) (zyo.opt { flats:=[(93,L93)],owns:=[87],frzs:=[89,90,91] }) (GOk.look (l:=[(144,[S144])]) ⟨⟨zkA,trivial⟩,trivial⟩) Tryz.checked.mixed Tryz.func176 (by kernel_rfl) (by kernel_rfl) (by kernel_rfl) (by kernel_rfl) (by kernel_rfl) (by kernel_rfl) (by kernel_rfl)
 fun x y h=>(zod x).trans h
theorem zup:FOk Tryz.prog 188 zqS:=zad (E:=zx9) (fn:=Tryz.f188) (zyo.opt { flats:=[(93,L93)],owns:=[87],frzs:=[89,90,91] }) (GOk.look (l:=[(176,[S176])]) ⟨⟨zvc,trivial⟩,trivial⟩) Tryz.checked.mixed Tryz.func188 (by kernel_rfl) (by kernel_rfl) (by kernel_rfl) (by kernel_rfl) (by kernel_rfl) (by kernel_rfl) (by kernel_rfl)
 fun x y h=>(zmv x).trans h
theorem zur:FOk Tryz.prog 175 zqU:=zad (E:=zyd) (fn:=Tryz.f175) (zyo.opt { flats:=[(93,L93)],owns:=[87],frzs:=[89,90,91] }) (GOk.look (l:=[(176,[S176]),(188,[zqS])]) ⟨⟨zvc,trivial⟩,⟨zup,trivial⟩,trivial⟩) Tryz.checked.mixed Tryz.func175 (by kernel_rfl) (by kernel_rfl) (by kernel_rfl) (by kernel_rfl) (by kernel_rfl) (by kernel_rfl) (by kernel_rfl)
 fun x y h=>(zmz x).trans h
theorem zkz:FOk Tryz.prog 145 S145:=zad (E:=E145) (fn:=Tryz.f145) (zyo.opt { flats:=[(93,L93)],owns:=[87],frzs:=[89,90,91] }) (GOk.look (l:=[(175,[zqU]),(176,[S176])]) ⟨⟨zur,trivial⟩,⟨zvc,trivial⟩,trivial⟩) Tryz.checked.mixed Tryz.func145 (by kernel_rfl) (by kernel_rfl) (by kernel_rfl) (by kernel_rfl) (by kernel_rfl) (by kernel_rfl) (by kernel_rfl)
 fun x y h=>(zoE x).trans h
theorem zvb:FOk Tryz.prog 177 S177:=zad (E:=E177) (fn:=Tryz.f177) (zyo.opt { flats:=[(93,L93)],owns:=[87],frzs:=[89,90,91] }) (GOk.look (l:=[(144,[S144])]) ⟨⟨zkA,trivial⟩,trivial⟩) Tryz.checked.mixed Tryz.func177 (by kernel_rfl) (by kernel_rfl) (by kernel_rfl) (by kernel_rfl) (by kernel_rfl) (by kernel_rfl) (by kernel_rfl)
 fun x y h=>(zoc x).trans h
theorem zwx:FOk Tryz.prog 188 zv1:=zad (E:=zx8) (fn:=Tryz.f188) (zyo.opt { flats:=[(93,L93)],owns:=[87],frzs:=[89,90,91] }) (GOk.look (l:=[(177,[S177])]) ⟨⟨zvb,trivial⟩,trivial⟩) Tryz.checked.mixed Tryz.func188 (by kernel_rfl) (by kernel_rfl) (by kernel_rfl) (by kernel_rfl) (by kernel_rfl) (by kernel_rfl) (by kernel_rfl)
 fun x y h=>(zmu x).trans h
theorem zwA:FOk Tryz.prog 175 zv3:=zad (E:=zyc) (fn:=Tryz.f175) (zyo.opt { flats:=[(93,L93)],owns:=[87],frzs:=[89,90,91] }) (GOk.look (l:=[(177,[S177]),(188,[zqS,zv1])]) ⟨⟨zvb,trivial⟩,⟨zup,zwx,trivial⟩,trivial⟩) Tryz.checked.mixed Tryz.func175 (by kernel_rfl) (by kernel_rfl) (by kernel_rfl) (by kernel_rfl) (by kernel_rfl) (by kernel_rfl) (by kernel_rfl)
 fun x y h=>(zmy x).trans h
theorem zs7:FOk Tryz.prog 146 S146:=zad (E:=E146) (fn:=Tryz.f146) (zyo.opt { flats:=[(93,L93)],owns:=[87],frzs:=[89,90,91] }) (GOk.look (l:=[(175,[zqU,zv3]),(177,[S177])]) ⟨⟨zur,zwA,trivial⟩,⟨zvb,trivial⟩,trivial⟩) Tryz.checked.mixed Tryz.func146 (by kernel_rfl) (by kernel_rfl) (by kernel_rfl) (by kernel_rfl) (by kernel_rfl) (by kernel_rfl) (by kernel_rfl)
 fun x y h=>(zoD x).trans h
theorem zyy:FOk Tryz.prog 189 S189:=zad (E:=E189) (fn:=Tryz.f189) (zyo.opt { flats:=[(93,L93)],owns:=[87],frzs:=[89,90,91] }) (GOk.look (l:=[]) trivial) Tryz.checked.mixed Tryz.func189 (by kernel_rfl) (by kernel_rfl) (by kernel_rfl) (by kernel_rfl) (by kernel_rfl) (by kernel_rfl) (by kernel_rfl)
 fun x y h=>(zn1 x).trans h
theorem zyH:FOk Tryz.prog 179 S179:=zad (E:=E179) (fn:=Tryz.f179) (zyo.opt { flats:=[(93,L93)],owns:=[87],frzs:=[89,90,91] }) (GOk.look (l:=[(189,[S189])]) ⟨⟨zyy,trivial⟩,trivial⟩) Tryz.checked.mixed Tryz.func179 (by kernel_rfl) (by kernel_rfl) (by kernel_rfl) (by kernel_rfl) (by kernel_rfl) (by kernel_rfl) (by kernel_rfl)
 fun x y h=>(zob x).trans h
theorem zwL:FOk Tryz.prog 151 S151:=zad (E:=E151) (fn:=Tryz.f151) (zyo.opt { flats:=[(93,L93)],owns:=[87],frzs:=[89,90,91] }) (GOk.look (l:=[(179,[S179])]) ⟨⟨zyH,trivial⟩,trivial⟩) Tryz.checked.mixed Tryz.func151 (by kernel_rfl) (by kernel_rfl) (by kernel_rfl) (by kernel_rfl) (by kernel_rfl) (by kernel_rfl) (by kernel_rfl)
 fun x y h=>(zoz x).trans h
theorem zve:FOk Tryz.prog 149 S149:=zad (E:=E149) (fn:=Tryz.f149) (zyo.opt { flats:=[(93,L93)],owns:=[87],frzs:=[89,90,91] }) (GOk.look (l:=[(151,[S151])]) ⟨⟨zwL,trivial⟩,trivial⟩) Tryz.checked.mixed Tryz.func149 (by kernel_rfl) (by kernel_rfl) (by kernel_rfl) (by kernel_rfl) (by kernel_rfl) (by kernel_rfl) (by kernel_rfl)
 fun x y h=>(zoB x).trans h
theorem zvf:FOk Tryz.prog 148 S148:=zad (E:=E148) (fn:=Tryz.f148) (zyo.opt { flats:=[(93,L93)],owns:=[87],frzs:=[89,90,91] }) (GOk.look (l:=[(59,[S59]),(149,[S149])]) ⟨⟨ok59,trivial⟩,⟨zve,trivial⟩,trivial⟩) Tryz.checked.mixed Tryz.func148 (by kernel_rfl) (by kernel_rfl) (by kernel_rfl) (by kernel_rfl) (by kernel_rfl) (by kernel_rfl) (by kernel_rfl)
 fun x y h=>(zoC x).trans h
theorem zuq:FOk Tryz.prog 178 zqT:=zad (E:=zyb) (fn:=Tryz.f178) (zyo.opt { flats:=[(93,L93)],owns:=[87],frzs:=[89,90,91] }) (GOk.look (l:=[(148,[S148])]) ⟨⟨zvf,trivial⟩,trivial⟩) Tryz.checked.mixed Tryz.func178 (by kernel_rfl) (by kernel_rfl) (by kernel_rfl) (by kernel_rfl) (by kernel_rfl) (by kernel_rfl) (by kernel_rfl)
 fun x y h=>(zmx x).trans h
theorem zus:FOk Tryz.prog 147 zqV:=zad (E:=zyj) (fn:=Tryz.f147) (zyo.opt { flats:=[(93,L93)],owns:=[87],frzs:=[89,90,91] }) (GOk.look (l:=[(148,[S148]),(178,[zqT])]) ⟨⟨zvf,trivial⟩,⟨zuq,trivial⟩,trivial⟩) Tryz.checked.mixed Tryz.func147 (by kernel_rfl) (by kernel_rfl) (by kernel_rfl) (by kernel_rfl) (by kernel_rfl) (by kernel_rfl) (by kernel_rfl)
 fun x y h=>(zmF x).trans h
theorem zwX:FOk Tryz.prog 104 S104:=zad (E:=E104) (fn:=Tryz.f104) (zyo.opt { flats:=[(93,L93)],owns:=[87],frzs:=[89,90,91] }) (GOk.look (l:=[(146,[S146]),(147,[zqV]),(148,[S148])]) ⟨⟨zs7,trivial⟩,⟨zus,trivial⟩,⟨zvf,trivial⟩,trivial⟩) Tryz.checked.mixed Tryz.func104 (by kernel_rfl) (by kernel_rfl) (by kernel_rfl) (by kernel_rfl) (by kernel_rfl) (by kernel_rfl) (by kernel_rfl)
 fun x y h=>(zpi x).trans h
theorem zyF:FOk Tryz.prog 180 S180:=zad (E:=E180) (fn:=Tryz.f180) (zyo.opt { flats:=[(93,L93)],owns:=[87],frzs:=[89,90,91] }) (GOk.look (l:=[(104,[S104]),(144,[S144]),(145,[S145])]) ⟨⟨zwX,trivial⟩,⟨zkA,trivial⟩,⟨zkz,trivial⟩,trivial⟩) Tryz.checked.mixed Tryz.func180 (by kernel_rfl) (by kernel_rfl) (by kernel_rfl) (by kernel_rfl) (by kernel_rfl) (by kernel_rfl) (by kernel_rfl)
 fun x y h=>(zn9 x).trans h
theorem zyE:FOk Tryz.prog 181 S181:=zad (E:=E181) (fn:=Tryz.f181) (zyo.opt { flats:=[(93,L93)],owns:=[87],frzs:=[89,90,91] }) (GOk.look (l:=[(144,[S144]),(145,[S145])]) ⟨⟨zkA,trivial⟩,⟨zkz,trivial⟩,trivial⟩) Tryz.checked.mixed Tryz.func181 (by kernel_rfl) (by kernel_rfl) (by kernel_rfl) (by kernel_rfl) (by kernel_rfl) (by kernel_rfl) (by kernel_rfl)
 fun x y h=>(zn8 x).trans h
theorem zwK:FOk Tryz.prog 152 S152:=zad (E:=E152) (fn:=Tryz.f152) (zyo.opt { flats:=[(93,L93)],owns:=[87],frzs:=[89,90,91] }) (GOk.look (l:=[(180,[S180]),(181,[S181])]) ⟨⟨zyF,trivial⟩,⟨zyE,trivial⟩,trivial⟩) Tryz.checked.mixed Tryz.func152 (by kernel_rfl) (by kernel_rfl) (by kernel_rfl) (by kernel_rfl) (by kernel_rfl) (by kernel_rfl) (by kernel_rfl)
 fun x y h=>(zoy x).trans h
theorem zyA:FOk Tryz.prog 185 S185:=zad (E:=E185) (fn:=Tryz.f185) (zyo.opt { flats:=[(93,L93)],owns:=[87],frzs:=[89,90,91] }) (GOk.look (l:=[]) trivial) Tryz.checked.mixed Tryz.func185 (by kernel_rfl) (by kernel_rfl) (by kernel_rfl) (by kernel_rfl) (by kernel_rfl) (by kernel_rfl) (by kernel_rfl)
 fun x y h=>(zn4 x).trans h
theorem zyL:FOk Tryz.prog 171 S171:=zad (E:=E171) (fn:=Tryz.f171) (zyo.opt { flats:=[(93,L93)],owns:=[87],frzs:=[89,90,91] }) (GOk.look (l:=[(185,[S185])]) ⟨⟨zyA,trivial⟩,trivial⟩) Tryz.checked.mixed Tryz.func171 (by kernel_rfl) (by kernel_rfl) (by kernel_rfl) (by kernel_rfl) (by kernel_rfl) (by kernel_rfl) (by kernel_rfl)
 fun x y h=>(zoh x).trans h
theorem zta:FOk Tryz.prog 103 S103:=zad (E:=E103) (fn:=Tryz.f103) (zyo.opt { flats:=[(93,L93)],owns:=[87],frzs:=[89,90,91] }) (GOk.look (l:=[(59,[S59]),(90,[S90])]) ⟨⟨ok59,trivial⟩,⟨ok90,trivial⟩,trivial⟩) Tryz.checked.mixed Tryz.func103 (by kernel_rfl) (by kernel_rfl) (by kernel_rfl) (by kernel_rfl) (by kernel_rfl) (by kernel_rfl) (by kernel_rfl)
 fun x y h=>(zpj x).trans h
theorem zwy:FOk Tryz.prog 186 S186:=zad (E:=E186) (fn:=Tryz.f186) (zyo.opt { flats:=[(93,L93)],owns:=[87],frzs:=[89,90,91] }) (GOk.look (l:=[(59,[S59]),(146,[S146])]) ⟨⟨ok59,trivial⟩,⟨zs7,trivial⟩,trivial⟩) Tryz.checked.mixed Tryz.func186 (by kernel_rfl) (by kernel_rfl) (by kernel_rfl) (by kernel_rfl) (by kernel_rfl) (by kernel_rfl) (by kernel_rfl)
 fun x y h=>(zn3 x).trans h
theorem zyw:FOk Tryz.prog 193 S193:=zad (E:=E193) (fn:=Tryz.f193) (zyo.opt { flats:=[(93,L93)],owns:=[87],frzs:=[89,90,91] }) (GOk.look (l:=[(59,[S59]),(144,[S144])]) ⟨⟨ok59,trivial⟩,⟨zkA,trivial⟩,trivial⟩) Tryz.checked.mixed Tryz.func193 (by kernel_rfl) (by kernel_rfl) (by kernel_rfl) (by kernel_rfl) (by kernel_rfl) (by kernel_rfl) (by kernel_rfl)
 fun x y h=>(znY x).trans h
theorem zva:FOk Tryz.prog 192 S192:=zad (E:=E192) (fn:=Tryz.f192) (zyo.opt { flats:=[(93,L93)],owns:=[87],frzs:=[89,90,91] }) (GOk.look (l:=[(193,[S193])]) ⟨⟨zyw,trivial⟩,trivial⟩) Tryz.checked.mixed Tryz.func192 (by kernel_rfl) (by kernel_rfl) (by kernel_rfl) (by kernel_rfl) (by kernel_rfl) (by kernel_rfl) (by kernel_rfl)
 fun x y h=>(znZ x).trans h
theorem zwv:FOk Tryz.prog 195 zvZ:=zad (E:=zx6) (fn:=Tryz.f195) (zyo.opt { flats:=[(93,L93)],owns:=[87],frzs:=[89,90,91] }) (GOk.look (l:=[(192,[S192])]) ⟨⟨zva,trivial⟩,trivial⟩) Tryz.checked.mixed Tryz.func195 (by kernel_rfl) (by kernel_rfl) (by kernel_rfl) (by kernel_rfl) (by kernel_rfl) (by kernel_rfl) (by kernel_rfl)
 fun x y h=>(zms x).trans h
theorem zww:FOk Tryz.prog 191 zv0:=zad (E:=zx7) (fn:=Tryz.f191) (zyo.opt { flats:=[(93,L93)],owns:=[87],frzs:=[89,90,91] }) (GOk.look (l:=[(192,[S192]),(195,[zvZ])]) ⟨⟨zva,trivial⟩,⟨zwv,trivial⟩,trivial⟩) Tryz.checked.mixed Tryz.func191 (by kernel_rfl) (by kernel_rfl) (by kernel_rfl) (by kernel_rfl) (by kernel_rfl) (by kernel_rfl) (by kernel_rfl)
 fun x y h=>(zmt x).trans h
theorem zyu:FOk Tryz.prog 196 S196:=zad (E:=E196) (fn:=Tryz.f196) (zyo.opt { flats:=[(93,L93)],owns:=[87],frzs:=[89,90,91] }) (GOk.look (l:=[(103,[S103]),(186,[S186])]) ⟨⟨zta,trivial⟩,⟨zwy,trivial⟩,trivial⟩) Tryz.checked.mixed Tryz.func196 (by kernel_rfl) (by kernel_rfl) (by kernel_rfl) (by kernel_rfl) (by kernel_rfl) (by kernel_rfl) (by kernel_rfl)
 fun x y h=>(znW x).trans h
theorem zyt:FOk Tryz.prog 201 S201:=zad (E:=E201) (fn:=Tryz.f201) (zyo.opt { flats:=[(93,L93)],owns:=[87],frzs:=[89,90,91] }) (GOk.look (l:=[(59,[S59]),(103,[S103])]) ⟨⟨ok59,trivial⟩,⟨zta,trivial⟩,trivial⟩) Tryz.checked.mixed Tryz.func201 (by kernel_rfl) (by kernel_rfl) (by kernel_rfl) (by kernel_rfl) (by kernel_rfl) (by kernel_rfl) (by kernel_rfl)
 fun x y h=>(znT x).trans h
theorem zwt:FOk Tryz.prog 199 S199:=zad (E:=E199) (fn:=Tryz.f199) (zyo.opt { flats:=[(93,L93)],owns:=[87],frzs:=[89,90,91] }) (GOk.look (l:=[(201,[S201])]) ⟨⟨zyt,trivial⟩,trivial⟩) Tryz.checked.mixed Tryz.func199 (by kernel_rfl) (by kernel_rfl) (by kernel_rfl) (by kernel_rfl) (by kernel_rfl) (by kernel_rfl) (by kernel_rfl)
 fun x y h=>(znU x).trans h
theorem zu9:FOk Tryz.prog 198 S198:=zad (E:=E198) (fn:=Tryz.f198) (zyo.opt { flats:=[(93,L93)],owns:=[87],frzs:=[89,90,91] }) (GOk.look (l:=[(199,[S199])]) ⟨⟨zwt,trivial⟩,trivial⟩) Tryz.checked.mixed Tryz.func198 (by kernel_rfl) (by kernel_rfl) (by kernel_rfl) (by kernel_rfl) (by kernel_rfl) (by kernel_rfl) (by kernel_rfl)
 fun x y h=>(znV x).trans h
theorem zpH:FOk Tryz.prog 198 zla:=zad (E:=zx4) (fn:=Tryz.f198) (zyo.opt { flats:=[(93,L93)],owns:=[87],frzs:=[89,90,91] }) (GOk.look (l:=[(199,[S199])]) ⟨⟨zwt,trivial⟩,trivial⟩) Tryz.checked.mixed Tryz.func198 (by kernel_rfl) (by kernel_rfl) (by kernel_rfl) (by kernel_rfl) (by kernel_rfl) (by kernel_rfl) (by kernel_rfl)
 fun x y h=>(zmq x).trans h
theorem zwr:FOk Tryz.prog 200 zvX:=zad (E:=zx3) (fn:=Tryz.f200) (zyo.opt { flats:=[(93,L93)],owns:=[87],frzs:=[89,90,91] }) (GOk.look (l:=[(198,[S198,zla])]) ⟨⟨zu9,zpH,trivial⟩,trivial⟩) Tryz.checked.mixed Tryz.func200 (by kernel_rfl) (by kernel_rfl) (by kernel_rfl) (by kernel_rfl) (by kernel_rfl) (by kernel_rfl) (by kernel_rfl)
 fun x y h=>(zmp x).trans h
theorem zwu:FOk Tryz.prog 197 zvY:=zad (E:=zx5) (fn:=Tryz.f197) (zyo.opt { flats:=[(93,L93)],owns:=[87],frzs:=[89,90,91] }) (GOk.look (l:=[(198,[S198,zla]),(200,[zvX])]) ⟨⟨zu9,zpH,trivial⟩,⟨zwr,trivial⟩,trivial⟩) Tryz.checked.mixed Tryz.func197 (by kernel_rfl) (by kernel_rfl) (by kernel_rfl) (by kernel_rfl) (by kernel_rfl) (by kernel_rfl) (by kernel_rfl)
 fun x y h=>(zmr x).trans h
theorem zyv:FOk Tryz.prog 194 S194:=zad (E:=E194) (fn:=Tryz.f194) (zyo.opt { flats:=[(93,L93)],owns:=[87],frzs:=[89,90,91] }) (GOk.look (l:=[(196,[S196]),(197,[zvY]),(198,[S198,zla])]) ⟨⟨zyu,trivial⟩,⟨zwu,trivial⟩,⟨zu9,zpH,trivial⟩,trivial⟩) Tryz.checked.mixed Tryz.func194 (by kernel_rfl) (by kernel_rfl) (by kernel_rfl) (by kernel_rfl) (by kernel_rfl) (by kernel_rfl) (by kernel_rfl)
 fun x y h=>(znX x).trans h
theorem zyz:FOk Tryz.prog 187 S187:=zad (E:=E187) (fn:=Tryz.f187) (zyo.opt { flats:=[(93,L93)],owns:=[87],frzs:=[89,90,91] }) (GOk.look (l:=[(191,[zv0]),(192,[S192]),(194,[S194])]) ⟨⟨zww,trivial⟩,⟨zva,trivial⟩,⟨zyv,trivial⟩,trivial⟩) Tryz.checked.mixed Tryz.func187 (by kernel_rfl) (by kernel_rfl) (by kernel_rfl) (by kernel_rfl) (by kernel_rfl) (by kernel_rfl) (by kernel_rfl)
 fun x y h=>(zn2 x).trans h
theorem zyK:FOk Tryz.prog 172 S172:=zad (E:=E172) (fn:=Tryz.f172) (zyo.opt { flats:=[(93,L93)],owns:=[87],frzs:=[89,90,91] }) (GOk.look (l:=[(103,[S103]),(144,[S144]),(145,[S145]),(186,[S186]),(187,[S187])]) ⟨⟨zta,trivial⟩,⟨zkA,trivial⟩,⟨zkz,trivial⟩,⟨zwy,trivial⟩,⟨zyz,trivial⟩,trivial⟩) Tryz.checked.mixed Tryz.func172 (by kernel_rfl) (by kernel_rfl) (by kernel_rfl) (by kernel_rfl) (by kernel_rfl) (by kernel_rfl) (by kernel_rfl)
 fun x y h=>(zog x).trans h
theorem zyJ:FOk Tryz.prog 173 S173:=zad (E:=E173) (fn:=Tryz.f173) (zyo.opt { flats:=[(93,L93)],owns:=[87],frzs:=[89,90,91] }) (GOk.look (l:=[(59,[S59]),(149,[S149])]) ⟨⟨ok59,trivial⟩,⟨zve,trivial⟩,trivial⟩) Tryz.checked.mixed Tryz.func173 (by kernel_rfl) (by kernel_rfl) (by kernel_rfl) (by kernel_rfl) (by kernel_rfl) (by kernel_rfl) (by kernel_rfl)
 fun x y h=>(zof x).trans h
theorem zyI:FOk Tryz.prog 174 S174:=zad (E:=E174) (fn:=Tryz.f174) (zyo.opt { flats:=[(93,L93)],owns:=[87],frzs:=[89,90,91] }) (GOk.look (l:=[(59,[S59]),(145,[S145]),(149,[S149])]) ⟨⟨ok59,trivial⟩,⟨zkz,trivial⟩,⟨zve,trivial⟩,trivial⟩) Tryz.checked.mixed Tryz.func174 (by kernel_rfl) (by kernel_rfl) (by kernel_rfl) (by kernel_rfl) (by kernel_rfl) (by kernel_rfl) (by kernel_rfl)
 fun x y h=>(zoe x).trans h
theorem zyY:FOk Tryz.prog 143 S143:=zad (E:=E143) (fn:=Tryz.f143) (zyo.opt { flats:=[(93,L93)],owns:=[87],frzs:=[89,90,91] }) (GOk.look (l:=[(40,[S40]),(92,[S92]),(145,[S145]),(152,[S152]),(171,[S171]),(172,[S172]),(173,[S173]),(174,[S174])]) ⟨⟨ok40,trivial⟩,⟨ok92,trivial⟩,⟨zkz,trivial⟩,⟨zwK,trivial⟩,⟨zyL,trivial⟩,⟨zyK,trivial⟩,⟨zyJ,trivial⟩,⟨zyI,trivial⟩,trivial⟩) Tryz.checked.mixed Tryz.func143 (by kernel_rfl) (by kernel_rfl) (by kernel_rfl) (by kernel_rfl) (by kernel_rfl) (by kernel_rfl) (by kernel_rfl)
 fun x y h=>(zoG x).trans h
theorem zzn:FOk Tryz.prog 102 S102:=zad (E:=E102) (fn:=Tryz.f102) (zyo.opt { flats:=[(93,L93)],owns:=[87],frzs:=[89,90,91] }) (GOk.look (l:=[(143,[S143]),(144,[S144]),(145,[S145])]) ⟨⟨zyY,trivial⟩,⟨zkA,trivial⟩,⟨zkz,trivial⟩,trivial⟩) Tryz.checked.mixed Tryz.func102 (by kernel_rfl) (by kernel_rfl) (by kernel_rfl) (by kernel_rfl) (by kernel_rfl) (by kernel_rfl) (by kernel_rfl)
 fun x y h=>(zpk x).trans h
theorem ok68:FOk Tryz.prog 68 S68:=zad (E:=E68) (fn:=Tryz.f68) (zyo.opt { flats:=[(93,L93)],owns:=[87],frzs:=[89,90,91] }) (GOk.look (l:=[(40,[S40]),(59,[S59]),(67,[S67]),(102,[S102]),(103,[S103])]) ⟨⟨ok40,trivial⟩,⟨ok59,trivial⟩,⟨ok67,trivial⟩,⟨zzn,trivial⟩,⟨zta,trivial⟩,trivial⟩) Tryz.checked.mixed Tryz.func68 (by kernel_rfl) (by kernel_rfl) (by kernel_rfl) (by kernel_rfl) (by kernel_rfl) (by kernel_rfl) (by kernel_rfl)
 fun x y h=>(zrT x).trans h
theorem zvd:FOk Tryz.prog 150 S150:=zad (E:=E150) (fn:=Tryz.f150) (zyo.opt { flats:=[(93,L93)],owns:=[87],frzs:=[89,90,91] }) (GOk.look (l:=[(59,[S59]),(151,[S151])]) ⟨⟨ok59,trivial⟩,⟨zwL,trivial⟩,trivial⟩) Tryz.checked.mixed Tryz.func150 (by kernel_rfl) (by kernel_rfl) (by kernel_rfl) (by kernel_rfl) (by kernel_rfl) (by kernel_rfl) (by kernel_rfl)
 fun x y h=>(zoA x).trans h
theorem zwz:FOk Tryz.prog 178 zv2:=zad (E:=zya) (fn:=Tryz.f178) (zyo.opt { flats:=[(93,L93)],owns:=[87],frzs:=[89,90,91] }) (GOk.look (l:=[(150,[S150])]) ⟨⟨zvd,trivial⟩,trivial⟩) Tryz.checked.mixed Tryz.func178 (by kernel_rfl) (by kernel_rfl) (by kernel_rfl) (by kernel_rfl) (by kernel_rfl) (by kernel_rfl) (by kernel_rfl)
 fun x y h=>(zmw x).trans h
theorem zwM:FOk Tryz.prog 147 zv8:=zad (E:=zyi) (fn:=Tryz.f147) (zyo.opt { flats:=[(93,L93)],owns:=[87],frzs:=[89,90,91] }) (GOk.look (l:=[(150,[S150]),(178,[zqT,zv2])]) ⟨⟨zvd,trivial⟩,⟨zuq,zwz,trivial⟩,trivial⟩) Tryz.checked.mixed Tryz.func147 (by kernel_rfl) (by kernel_rfl) (by kernel_rfl) (by kernel_rfl) (by kernel_rfl) (by kernel_rfl) (by kernel_rfl)
 fun x y h=>(zmE x).trans h
theorem zwW:FOk Tryz.prog 106 S106:=zad (E:=E106) (fn:=Tryz.f106) (zyo.opt { flats:=[(93,L93)],owns:=[87],frzs:=[89,90,91] }) (GOk.look (l:=[(147,[zqV,zv8]),(150,[S150])]) ⟨⟨zus,zwM,trivial⟩,⟨zvd,trivial⟩,trivial⟩) Tryz.checked.mixed Tryz.func106 (by kernel_rfl) (by kernel_rfl) (by kernel_rfl) (by kernel_rfl) (by kernel_rfl) (by kernel_rfl) (by kernel_rfl)
 fun x y h=>(zpg x).trans h
theorem zzm:FOk Tryz.prog 105 S105:=zad (E:=E105) (fn:=Tryz.f105) (zyo.opt { flats:=[(93,L93)],owns:=[87],frzs:=[89,90,91] }) (GOk.look (l:=[(67,[S67]),(106,[S106])]) ⟨⟨ok67,trivial⟩,⟨zwW,trivial⟩,trivial⟩) Tryz.checked.mixed Tryz.func105 (by kernel_rfl) (by kernel_rfl) (by kernel_rfl) (by kernel_rfl) (by kernel_rfl) (by kernel_rfl) (by kernel_rfl)
 fun x y h=>(zph x).trans h
theorem zzl:FOk Tryz.prog 107 S107:=zad (E:=E107) (fn:=Tryz.f107) (zyo.opt { flats:=[(93,L93)],owns:=[87],frzs:=[89,90,91] }) (GOk.look (l:=[]) trivial) Tryz.checked.mixed Tryz.func107 (by kernel_rfl) (by kernel_rfl) (by kernel_rfl) (by kernel_rfl) (by kernel_rfl) (by kernel_rfl) (by kernel_rfl)
 fun x y h=>(zpf x).trans h
theorem zzk:FOk Tryz.prog 108 S108:=zad (E:=E108) (fn:=Tryz.f108) (zyo.opt { flats:=[(93,L93)],owns:=[87],frzs:=[89,90,91] }) (GOk.look (l:=[(145,[S145]),(146,[S146]),(152,[S152])]) ⟨⟨zkz,trivial⟩,⟨zs7,trivial⟩,⟨zwK,trivial⟩,trivial⟩) Tryz.checked.mixed Tryz.func108 (by kernel_rfl) (by kernel_rfl) (by kernel_rfl) (by kernel_rfl) (by kernel_rfl) (by kernel_rfl) (by kernel_rfl)
 fun x y h=>(zpe x).trans h
theorem zwJ:FOk Tryz.prog 153 zv7:=zad (E:=zyh) (fn:=Tryz.f153) (zyo.opt { flats:=[(93,L93)],owns:=[87],frzs:=[89,90,91] }) (GOk.look (l:=[(40,[S40])]) ⟨⟨ok40,trivial⟩,trivial⟩) Tryz.checked.mixed Tryz.func153 (by kernel_rfl) (by kernel_rfl) (by kernel_rfl) (by kernel_rfl) (by kernel_rfl) (by kernel_rfl) (by kernel_rfl)
 fun x y h=>(zmD x).trans h
theorem zwI:FOk Tryz.prog 153 zv6:=zad (E:=zyg) (fn:=Tryz.f153) (zyo.opt { flats:=[(93,L93)],owns:=[87],frzs:=[89,90,91] }) (GOk.look (l:=[(59,[S59])]) ⟨⟨ok59,trivial⟩,trivial⟩) Tryz.checked.mixed Tryz.func153 (by kernel_rfl) (by kernel_rfl) (by kernel_rfl) (by kernel_rfl) (by kernel_rfl) (by kernel_rfl) (by kernel_rfl)
 fun x y h=>(zmC x).trans h
theorem zzj:FOk Tryz.prog 109 S109:=zad (E:=E109) (fn:=Tryz.f109) (zyo.opt { flats:=[(93,L93)],owns:=[87],frzs:=[89,90,91] }) (GOk.look (l:=[(40,[S40]),(59,[S59]),(146,[S146]),(153,[zv7,zv6])]) ⟨⟨ok40,trivial⟩,⟨ok59,trivial⟩,⟨zs7,trivial⟩,⟨zwJ,zwI,trivial⟩,trivial⟩) Tryz.checked.mixed Tryz.func109 (by kernel_rfl) (by kernel_rfl) (by kernel_rfl) (by kernel_rfl) (by kernel_rfl) (by kernel_rfl) (by kernel_rfl)
 fun x y h=>(zpd x).trans h
theorem ok69:FOk Tryz.prog 69 S69:=zad (E:=E69) (fn:=Tryz.f69) (zyo.opt { flats:=[(93,L93)],owns:=[87],frzs:=[89,90,91] }) (GOk.look (l:=[(67,[S67]),(104,[S104]),(105,[S105]),(106,[S106]),(107,[S107]),(108,[S108]),(109,[S109])]) ⟨⟨ok67,trivial⟩,⟨zwX,trivial⟩,⟨zzm,trivial⟩,⟨zwW,trivial⟩,⟨zzl,trivial⟩,⟨zzk,trivial⟩,⟨zzj,trivial⟩,trivial⟩) Tryz.checked.mixed Tryz.func69 (by kernel_rfl) (by kernel_rfl) (by kernel_rfl) (by kernel_rfl) (by kernel_rfl) (by kernel_rfl) (by kernel_rfl)
 fun x y h=>(zrS x).trans h
theorem ok48:FOk Tryz.prog 48 S48:=zad (E:=E48) (fn:=Tryz.f48) (zyo.opt { flats:=[(93,L93)],owns:=[87],frzs:=[89,90,91] }) (GOk.look (l:=[(64,[S64]),(65,[S65]),(66,[S66]),(67,[S67]),(68,[S68]),(69,[S69])]) ⟨⟨ok64,trivial⟩,⟨ok65,trivial⟩,⟨ok66,trivial⟩,⟨ok67,trivial⟩,⟨ok68,trivial⟩,⟨ok69,trivial⟩,trivial⟩) Tryz.checked.mixed Tryz.func48 (by kernel_rfl) (by kernel_rfl) (by kernel_rfl) (by kernel_rfl) (by kernel_rfl) (by kernel_rfl) (by kernel_rfl)
 fun x y h=>(zsd x).trans h
theorem ok25:FOk Tryz.prog 25 S25:=zad (E:=E25) (fn:=Tryz.f25) (zyo.opt { flats:=[(93,L93)],owns:=[87],frzs:=[89,90,91] }) (GOk.look (l:=[(42,[S42]),(47,[S47]),(48,[S48]),(49,[S49])]) ⟨⟨ok42,trivial⟩,⟨ok47,trivial⟩,⟨ok48,trivial⟩,⟨ok49,trivial⟩,trivial⟩) Tryz.checked.mixed Tryz.func25 (by kernel_rfl) (by kernel_rfl) (by kernel_rfl) (by kernel_rfl) (by kernel_rfl) (by kernel_rfl) (by kernel_rfl)
 fun x y h=>(zsB x).trans h
theorem ok9:FOk Tryz.prog 9 S9:=zad (E:=E9) (fn:=Tryz.f9) (zyo.opt { flats:=[(93,L93)],owns:=[87],frzs:=[89,90,91] }) (GOk.look (l:=[(22,[S22]),(23,[S23]),(24,[S24]),(25,[S25])]) ⟨⟨ok22,trivial⟩,⟨ok23,trivial⟩,⟨ok24,trivial⟩,⟨ok25,trivial⟩,trivial⟩) Tryz.checked.mixed Tryz.func9 (by kernel_rfl) (by kernel_rfl) (by kernel_rfl) (by kernel_rfl) (by kernel_rfl) (by kernel_rfl) (by kernel_rfl)
 fun x y h=>(zuR x).trans h
theorem ok9a:FOk Tryz.prog 9 S9a:=zad (E:=E9a) (fn:=Tryz.f9) (zyo.opt { flats:=[(93,L93)],owns:=[87],frzs:=[89,90,91] }) (GOk.look (l:=[(22,[S22]),(23,[S23]),(24,[S24]),(25,[S25])]) ⟨⟨ok22,trivial⟩,⟨ok23,trivial⟩,⟨ok24,trivial⟩,⟨ok25,trivial⟩,trivial⟩) Tryz.checked.mixed Tryz.func9 (by kernel_rfl) (by kernel_rfl) (by kernel_rfl) (by kernel_rfl) (by kernel_rfl) (by kernel_rfl) (by kernel_rfl)
 fun x y h=>(zrl x).trans h
theorem ok4:FOk Tryz.prog 4 S4:=zad (E:=E4) (fn:=Tryz.f4) (zyo.opt { flats:=[(93,L93)],owns:=[87],frzs:=[89,90,91] }) (GOk.look (l:=[(7,[S7]),(9,[S9,S9a])]) ⟨⟨ok7,trivial⟩,⟨ok9,ok9a,trivial⟩,trivial⟩) Tryz.checked.mixed Tryz.func4 (by kernel_rfl) (by kernel_rfl) (by kernel_rfl) (by kernel_rfl) (by kernel_rfl) (by kernel_rfl) (by kernel_rfl)
 fun x y h=>(zuW x).trans h
theorem ok36:FOk Tryz.prog 36 S36:=zad (E:=E36) (fn:=Tryz.f36) (zyo.opt { flats:=[(93,L93)],owns:=[87],frzs:=[89,90,91] }) (GOk.look (l:=[]) trivial) Tryz.checked.mixed Tryz.func36 (by kernel_rfl) (by kernel_rfl) (by kernel_rfl) (by kernel_rfl) (by kernel_rfl) (by kernel_rfl) (by kernel_rfl)
 fun x y h=>(zsp x).trans h
theorem ok57:FOk Tryz.prog 57 S57:=zad (E:=E57) (fn:=Tryz.f57) (zyo.opt { flats:=[(93,L93)],owns:=[87],frzs:=[89,90,91] }) (GOk.look (l:=[]) trivial) Tryz.checked.mixed Tryz.func57 (by kernel_rfl) (by kernel_rfl) (by kernel_rfl) (by kernel_rfl) (by kernel_rfl) (by kernel_rfl) (by kernel_rfl)
 fun x y h=>(zr4 x).trans h
theorem ok37:FOk Tryz.prog 37 S37:=zad (E:=E37) (fn:=Tryz.f37) (zyo.opt { flats:=[(93,L93)],owns:=[87],frzs:=[89,90,91] }) (GOk.look (l:=[(57,[S57])]) ⟨⟨ok57,trivial⟩,trivial⟩) Tryz.checked.mixed Tryz.func37 (by kernel_rfl) (by kernel_rfl) (by kernel_rfl) (by kernel_rfl) (by kernel_rfl) (by kernel_rfl) (by kernel_rfl)
 fun x y h=>(zso x).trans h
theorem ok18:FOk Tryz.prog 18 S18:=zad (E:=E18) (fn:=Tryz.f18) (zyo.opt { flats:=[(93,L93)],owns:=[87],frzs:=[89,90,91] }) (GOk.look (l:=[(36,[S36]),(37,[S37])]) ⟨⟨ok36,trivial⟩,⟨ok37,trivial⟩,trivial⟩) Tryz.checked.mixed Tryz.func18 (by kernel_rfl) (by kernel_rfl) (by kernel_rfl) (by kernel_rfl) (by kernel_rfl) (by kernel_rfl) (by kernel_rfl)
 fun x y h=>(zsI x).trans h
theorem ok5:FOk Tryz.prog 5 S5:=zad (E:=E5) (fn:=Tryz.f5) (zyo.opt { flats:=[(93,L93)],owns:=[87],frzs:=[89,90,91] }) (GOk.look (l:=[(18,[S18])]) ⟨⟨ok18,trivial⟩,trivial⟩) Tryz.checked.mixed Tryz.func5 (by kernel_rfl) (by kernel_rfl) (by kernel_rfl) (by kernel_rfl) (by kernel_rfl) (by kernel_rfl) (by kernel_rfl)
 fun x y h=>(zuV x).trans h
theorem ok89:FOk Tryz.prog 89 S89:=zad (E:=E89) (fn:=Tryz.f89) (zyo.opt { flats:=[(93,L93)],owns:=[87],frzs:=[89,90,91] }) (GOk.look (l:=[]) trivial) Tryz.checked.mixed Tryz.func89 (by kernel_rfl) (by kernel_rfl) (by kernel_rfl) (by kernel_rfl) (by kernel_rfl) (by kernel_rfl) (by kernel_rfl)
 fun x y h=>(zry x).trans h
theorem ok58:FOk Tryz.prog 58 S58:=zad (E:=E58) (fn:=Tryz.f58) (zyo.opt { flats:=[(93,L93)],owns:=[87],frzs:=[89,90,91] }) (GOk.look (l:=[(89,[S89])]) ⟨⟨ok89,trivial⟩,trivial⟩) Tryz.checked.mixed Tryz.func58 (by kernel_rfl) (by kernel_rfl) (by kernel_rfl) (by kernel_rfl) (by kernel_rfl) (by kernel_rfl) (by kernel_rfl)
 fun x y h=>(zr3 x).trans h
theorem ok38:FOk Tryz.prog 38 S38:=zad (E:=E38) (fn:=Tryz.f38) (zyo.opt { flats:=[(93,L93)],owns:=[87],frzs:=[89,90,91] }) (GOk.look (l:=[(58,[S58])]) ⟨⟨ok58,trivial⟩,trivial⟩) Tryz.checked.mixed Tryz.func38 (by kernel_rfl) (by kernel_rfl) (by kernel_rfl) (by kernel_rfl) (by kernel_rfl) (by kernel_rfl) (by kernel_rfl)
 fun x y h=>(zsn x).trans h
theorem ok39:FOk Tryz.prog 39 S39:=zad (E:=E39) (fn:=Tryz.f39) (zyo.opt { flats:=[(93,L93)],owns:=[87],frzs:=[89,90,91] }) (GOk.look (l:=[]) trivial) Tryz.checked.mixed Tryz.func39 (by kernel_rfl) (by kernel_rfl) (by kernel_rfl) (by kernel_rfl) (by kernel_rfl) (by kernel_rfl) (by kernel_rfl)
 fun x y h=>(zsm x).trans h
theorem ok19:FOk Tryz.prog 19 S19:=zad (E:=E19) (fn:=Tryz.f19) (zyo.opt { flats:=[(93,L93)],owns:=[87],frzs:=[89,90,91] }) (GOk.look (l:=[(38,[S38]),(39,[S39])]) ⟨⟨ok38,trivial⟩,⟨ok39,trivial⟩,trivial⟩) Tryz.checked.mixed Tryz.func19 (by kernel_rfl) (by kernel_rfl) (by kernel_rfl) (by kernel_rfl) (by kernel_rfl) (by kernel_rfl) (by kernel_rfl)
 fun x y h=>(zsH x).trans h
theorem ok6:FOk Tryz.prog 6 S6:=zad (E:=E6) (fn:=Tryz.f6) (zyo.opt { flats:=[(93,L93)],owns:=[87],frzs:=[89,90,91] }) (GOk.look (l:=[(19,[S19])]) ⟨⟨ok19,trivial⟩,trivial⟩) Tryz.checked.mixed Tryz.func6 (by kernel_rfl) (by kernel_rfl) (by kernel_rfl) (by kernel_rfl) (by kernel_rfl) (by kernel_rfl) (by kernel_rfl)
 fun x y h=>(zuU x).trans h
theorem ok8:FOk Tryz.prog 8 S8:=zad (E:=E8) (fn:=Tryz.f8) (zyo.opt { flats:=[(93,L93)],owns:=[87],frzs:=[89,90,91] }) (GOk.look (l:=[]) trivial) Tryz.checked.mixed Tryz.func8 (by kernel_rfl) (by kernel_rfl) (by kernel_rfl) (by kernel_rfl) (by kernel_rfl) (by kernel_rfl) (by kernel_rfl)
 fun x y h=>(zuS x).trans h
theorem ok50:FOk Tryz.prog 50 S50:=zad (E:=E50) (fn:=Tryz.f50) (zyo.opt { flats:=[(93,L93)],owns:=[87],frzs:=[89,90,91] }) (GOk.look (l:=[]) trivial) Tryz.checked.mixed Tryz.func50 (by kernel_rfl) (by kernel_rfl) (by kernel_rfl) (by kernel_rfl) (by kernel_rfl) (by kernel_rfl) (by kernel_rfl)
 fun x y h=>(zsb x).trans h
theorem ok26:FOk Tryz.prog 26 S26:=zad (E:=E26) (fn:=Tryz.f26) (zyo.opt { flats:=[(93,L93)],owns:=[87],frzs:=[89,90,91] }) (GOk.look (l:=[(50,[S50])]) ⟨⟨ok50,trivial⟩,trivial⟩) Tryz.checked.mixed Tryz.func26 (by kernel_rfl) (by kernel_rfl) (by kernel_rfl) (by kernel_rfl) (by kernel_rfl) (by kernel_rfl) (by kernel_rfl)
 fun x y h=>(zsA x).trans h
theorem ok51:FOk Tryz.prog 51 S51:=zad (E:=E51) (fn:=Tryz.f51) (zyo.opt { flats:=[(93,L93)],owns:=[87],frzs:=[89,90,91] }) (GOk.look (l:=[]) trivial) Tryz.checked.mixed Tryz.func51 (by kernel_rfl) (by kernel_rfl) (by kernel_rfl) (by kernel_rfl) (by kernel_rfl) (by kernel_rfl) (by kernel_rfl)
 fun x y h=>(zsa x).trans h
theorem ok52:FOk Tryz.prog 52 S52:=zad (E:=E52) (fn:=Tryz.f52) (zyo.opt { flats:=[(93,L93)],owns:=[87],frzs:=[89,90,91] }) (GOk.look (l:=[(38,[S38])]) ⟨⟨ok38,trivial⟩,trivial⟩) Tryz.checked.mixed Tryz.func52 (by kernel_rfl) (by kernel_rfl) (by kernel_rfl) (by kernel_rfl) (by kernel_rfl) (by kernel_rfl) (by kernel_rfl)
 fun x y h=>(zr9 x).trans h
theorem ok27:FOk Tryz.prog 27 S27:=zad (E:=E27) (fn:=Tryz.f27) (zyo.opt { flats:=[(93,L93)],owns:=[87],frzs:=[89,90,91] }) (GOk.look (l:=[(51,[S51]),(52,[S52])]) ⟨⟨ok51,trivial⟩,⟨ok52,trivial⟩,trivial⟩) Tryz.checked.mixed Tryz.func27 (by kernel_rfl) (by kernel_rfl) (by kernel_rfl) (by kernel_rfl) (by kernel_rfl) (by kernel_rfl) (by kernel_rfl)
 fun x y h=>(zsz x).trans h
theorem zyD:FOk Tryz.prog 182 S182:=zad (E:=E182) (fn:=Tryz.f182) (zyo.opt { flats:=[(93,L93)],owns:=[87],frzs:=[89,90,91] }) (GOk.look (l:=[]) trivial) Tryz.checked.mixed Tryz.func182 (by kernel_rfl) (by kernel_rfl) (by kernel_rfl) (by kernel_rfl) (by kernel_rfl) (by kernel_rfl) (by kernel_rfl)
 fun x y h=>(zn7 x).trans h
theorem zyX:FOk Tryz.prog 154 S154:=zad (E:=E154) (fn:=Tryz.f154) (zyo.opt { flats:=[(93,L93)],owns:=[87],frzs:=[89,90,91] }) (GOk.look (l:=[(182,[S182])]) ⟨⟨zyD,trivial⟩,trivial⟩) Tryz.checked.mixed Tryz.func154 (by kernel_rfl) (by kernel_rfl) (by kernel_rfl) (by kernel_rfl) (by kernel_rfl) (by kernel_rfl) (by kernel_rfl)
 fun x y h=>(zox x).trans h
theorem zyW:FOk Tryz.prog 155 S155:=zad (E:=E155) (fn:=Tryz.f155) (zyo.opt { flats:=[(93,L93)],owns:=[87],frzs:=[89,90,91] }) (GOk.look (l:=[]) trivial) Tryz.checked.mixed Tryz.func155 (by kernel_rfl) (by kernel_rfl) (by kernel_rfl) (by kernel_rfl) (by kernel_rfl) (by kernel_rfl) (by kernel_rfl)
 fun x y h=>(zow x).trans h
theorem zzd:FOk Tryz.prog 115 S115:=zad (E:=E115) (fn:=Tryz.f115) (zyo.opt { flats:=[(93,L93)],owns:=[87],frzs:=[89,90,91] }) (GOk.look (l:=[(154,[S154]),(155,[S155])]) ⟨⟨zyX,trivial⟩,⟨zyW,trivial⟩,trivial⟩) Tryz.checked.mixed Tryz.func115 (by kernel_rfl) (by kernel_rfl) (by kernel_rfl) (by kernel_rfl) (by kernel_rfl) (by kernel_rfl) (by kernel_rfl)
 fun x y h=>(zo7 x).trans h
theorem zs9:FOk Tryz.prog 119 S119:=zad (E:=E119) (fn:=Tryz.f119) (zyo.opt { flats:=[(93,L93)],owns:=[87],frzs:=[89,90,91] }) (GOk.look (l:=[]) trivial) Tryz.checked.mixed Tryz.func119 (by kernel_rfl) (by kernel_rfl) (by kernel_rfl) (by kernel_rfl) (by kernel_rfl) (by kernel_rfl) (by kernel_rfl)
 fun x y h=>(zo3 x).trans h
theorem zyV:FOk Tryz.prog 156 S156:=zad (E:=E156) (fn:=Tryz.f156) (zyo.opt { flats:=[(93,L93)],owns:=[87],frzs:=[89,90,91] }) (GOk.look (l:=[]) trivial) Tryz.checked.mixed Tryz.func156 (by kernel_rfl) (by kernel_rfl) (by kernel_rfl) (by kernel_rfl) (by kernel_rfl) (by kernel_rfl) (by kernel_rfl)
 fun x y h=>(zov x).trans h
theorem zyU:FOk Tryz.prog 157 S157:=zad (E:=E157) (fn:=Tryz.f157) (zyo.opt { flats:=[(93,L93)],owns:=[87],frzs:=[89,90,91] }) (GOk.look (l:=[]) trivial) Tryz.checked.mixed Tryz.func157 (by kernel_rfl) (by kernel_rfl) (by kernel_rfl) (by kernel_rfl) (by kernel_rfl) (by kernel_rfl) (by kernel_rfl)
 fun x y h=>(zou x).trans h
theorem zwV:FOk Tryz.prog 117 S117:=zad (E:=E117) (fn:=Tryz.f117) (zyo.opt { flats:=[(93,L93)],owns:=[87],frzs:=[89,90,91] }) (GOk.look (l:=[(119,[S119])]) ⟨⟨zs9,trivial⟩,trivial⟩) Tryz.checked.mixed Tryz.func117 (by kernel_rfl) (by kernel_rfl) (by kernel_rfl) (by kernel_rfl) (by kernel_rfl) (by kernel_rfl) (by kernel_rfl)
 fun x y h=>(zo5 x).trans h
theorem zwH:FOk Tryz.prog 158 S158:=zad (E:=E158) (fn:=Tryz.f158) (zyo.opt { flats:=[(93,L93)],owns:=[87],frzs:=[89,90,91] }) (GOk.look (l:=[(117,[S117])]) ⟨⟨zwV,trivial⟩,trivial⟩) Tryz.checked.mixed Tryz.func158 (by kernel_rfl) (by kernel_rfl) (by kernel_rfl) (by kernel_rfl) (by kernel_rfl) (by kernel_rfl) (by kernel_rfl)
 fun x y h=>(zot x).trans h
theorem zwG:FOk Tryz.prog 159 S159:=zad (E:=E159) (fn:=Tryz.f159) (zyo.opt { flats:=[(93,L93)],owns:=[87],frzs:=[89,90,91] }) (GOk.look (l:=[]) trivial) Tryz.checked.mixed Tryz.func159 (by kernel_rfl) (by kernel_rfl) (by kernel_rfl) (by kernel_rfl) (by kernel_rfl) (by kernel_rfl) (by kernel_rfl)
 fun x y h=>(zos x).trans h
theorem zzc:FOk Tryz.prog 116 S116:=zad (E:=E116) (fn:=Tryz.f116) (zyo.opt { flats:=[(93,L93)],owns:=[87],frzs:=[89,90,91] }) (GOk.look (l:=[(119,[S119]),(156,[S156]),(157,[S157]),(158,[S158]),(159,[S159])]) ⟨⟨zs9,trivial⟩,⟨zyV,trivial⟩,⟨zyU,trivial⟩,⟨zwH,trivial⟩,⟨zwG,trivial⟩,trivial⟩) Tryz.checked.mixed Tryz.func116 (by kernel_rfl) (by kernel_rfl) (by kernel_rfl) (by kernel_rfl) (by kernel_rfl) (by kernel_rfl) (by kernel_rfl)
 fun x y h=>(zo6 x).trans h
theorem zzb:FOk Tryz.prog 118 S118:=zad (E:=E118) (fn:=Tryz.f118) (zyo.opt { flats:=[(93,L93)],owns:=[87],frzs:=[89,90,91] }) (GOk.look (l:=[(119,[S119])]) ⟨⟨zs9,trivial⟩,trivial⟩) Tryz.checked.mixed Tryz.func118 (by kernel_rfl) (by kernel_rfl) (by kernel_rfl) (by kernel_rfl) (by kernel_rfl) (by kernel_rfl) (by kernel_rfl)
 fun x y h=>(zo4 x).trans h
theorem zwU:FOk Tryz.prog 120 S120:=zad (E:=E120) (fn:=Tryz.f120) (zyo.opt { flats:=[(93,L93)],owns:=[87],frzs:=[89,90,91] }) (GOk.look (l:=[(158,[S158]),(159,[S159])]) ⟨⟨zwH,trivial⟩,⟨zwG,trivial⟩,trivial⟩) Tryz.checked.mixed Tryz.func120 (by kernel_rfl) (by kernel_rfl) (by kernel_rfl) (by kernel_rfl) (by kernel_rfl) (by kernel_rfl) (by kernel_rfl)
 fun x y h=>(zo2 x).trans h
theorem ok77:FOk Tryz.prog 77 S77:=zad (E:=E77) (fn:=Tryz.f77) (zyo.opt { flats:=[(93,L93)],owns:=[87],frzs:=[89,90,91] }) (GOk.look (l:=[(115,[S115]),(116,[S116]),(117,[S117]),(118,[S118]),(119,[S119]),(120,[S120])]) ⟨⟨zzd,trivial⟩,⟨zzc,trivial⟩,⟨zwV,trivial⟩,⟨zzb,trivial⟩,⟨zs9,trivial⟩,⟨zwU,trivial⟩,trivial⟩) Tryz.checked.mixed Tryz.func77 (by kernel_rfl) (by kernel_rfl) (by kernel_rfl) (by kernel_rfl) (by kernel_rfl) (by kernel_rfl) (by kernel_rfl)
 fun x y h=>(zrK x).trans h
theorem ok78:FOk Tryz.prog 78 S78:=zad (E:=E78) (fn:=Tryz.f78) (zyo.opt { flats:=[(93,L93)],owns:=[87],frzs:=[89,90,91] }) (GOk.look (l:=[]) trivial) Tryz.checked.mixed Tryz.func78 (by kernel_rfl) (by kernel_rfl) (by kernel_rfl) (by kernel_rfl) (by kernel_rfl) (by kernel_rfl) (by kernel_rfl)
 fun x y h=>(zrJ x).trans h
theorem zza:FOk Tryz.prog 121 S121:=zad (E:=E121) (fn:=Tryz.f121) (zyo.opt { flats:=[(93,L93)],owns:=[87],frzs:=[89,90,91] }) (GOk.look (l:=[]) trivial) Tryz.checked.mixed Tryz.func121 (by kernel_rfl) (by kernel_rfl) (by kernel_rfl) (by kernel_rfl) (by kernel_rfl) (by kernel_rfl) (by kernel_rfl)
 fun x y h=>(zo1 x).trans h
theorem zy9:FOk Tryz.prog 122 S122:=zad (E:=E122) (fn:=Tryz.f122) (zyo.opt { flats:=[(93,L93)],owns:=[87],frzs:=[89,90,91] }) (GOk.look (l:=[]) trivial) Tryz.checked.mixed Tryz.func122 (by kernel_rfl) (by kernel_rfl) (by kernel_rfl) (by kernel_rfl) (by kernel_rfl) (by kernel_rfl) (by kernel_rfl)
 fun x y h=>zvH x y h
theorem zwF:FOk Tryz.prog 161 S161:=zad (E:=E161) (fn:=Tryz.f161) (zyo.opt { flats:=[(93,L93)],owns:=[87],frzs:=[89,90,91] }) (GOk.look (l:=[]) trivial) Tryz.checked.mixed Tryz.func161 (by kernel_rfl) (by kernel_rfl) (by kernel_rfl) (by kernel_rfl) (by kernel_rfl) (by kernel_rfl) (by kernel_rfl)
 fun x y h=>(zop x).trans h
theorem zyS:FOk Tryz.prog 160 S160:=zad (E:=E160) (fn:=Tryz.f160) (zyo.opt { flats:=[(93,L93)],owns:=[87],frzs:=[89,90,91] }) (GOk.look (l:=[(161,[S161])]) ⟨⟨zwF,trivial⟩,trivial⟩) Tryz.checked.mixed Tryz.func160 (by kernel_rfl) (by kernel_rfl) (by kernel_rfl) (by kernel_rfl) (by kernel_rfl) (by kernel_rfl) (by kernel_rfl)
 fun x y h=>(zoq x).trans h
theorem zy8:FOk Tryz.prog 123 S123:=zad (E:=E123) (fn:=Tryz.f123) (zyo.opt { flats:=[(93,L93)],owns:=[87],frzs:=[89,90,91] }) (GOk.look (l:=[(160,[S160])]) ⟨⟨zyS,trivial⟩,trivial⟩) Tryz.checked.mixed Tryz.func123 (by kernel_rfl) (by kernel_rfl) (by kernel_rfl) (by kernel_rfl) (by kernel_rfl) (by kernel_rfl) (by kernel_rfl)
 fun x y h=>(zo0 x).trans h
theorem zy7:FOk Tryz.prog 124 S124:=zad (E:=E124) (fn:=Tryz.f124) (zyo.opt { flats:=[(93,L93)],owns:=[87],frzs:=[89,90,91] }) (GOk.look (l:=[(161,[S161])]) ⟨⟨zwF,trivial⟩,trivial⟩) Tryz.checked.mixed Tryz.func124 (by kernel_rfl) (by kernel_rfl) (by kernel_rfl) (by kernel_rfl) (by kernel_rfl) (by kernel_rfl) (by kernel_rfl)
 fun x y h=>(zoZ x).trans h
theorem ok79:FOk Tryz.prog 79 S79:=zad (E:=E79) (fn:=Tryz.f79) (zyo.opt { flats:=[(93,L93)],owns:=[87],frzs:=[89,90,91] }) (GOk.look (l:=[(121,[S121]),(122,[S122]),(123,[S123]),(124,[S124])]) ⟨⟨zza,trivial⟩,⟨zy9,trivial⟩,⟨zy8,trivial⟩,⟨zy7,trivial⟩,trivial⟩) Tryz.checked.mixed Tryz.func79 (by kernel_rfl) (by kernel_rfl) (by kernel_rfl) (by kernel_rfl) (by kernel_rfl) (by kernel_rfl) (by kernel_rfl)
 fun x y h=>(zrI x).trans h
theorem ok80:FOk Tryz.prog 80 S80:=zad (E:=E80) (fn:=Tryz.f80) (zyo.opt { flats:=[(93,L93)],owns:=[87],frzs:=[89,90,91] }) (GOk.look (l:=[]) trivial) Tryz.checked.mixed Tryz.func80 (by kernel_rfl) (by kernel_rfl) (by kernel_rfl) (by kernel_rfl) (by kernel_rfl) (by kernel_rfl) (by kernel_rfl)
 fun x y h=>(zrH x).trans h
theorem ok82:FOk Tryz.prog 82 S82:=zad (E:=E82) (fn:=Tryz.f82) (zyo.opt { flats:=[(93,L93)],owns:=[87],frzs:=[89,90,91] }) (GOk.look (l:=[(58,[S58]),(89,[S89])]) ⟨⟨ok58,trivial⟩,⟨ok89,trivial⟩,trivial⟩) Tryz.checked.mixed Tryz.func82 (by kernel_rfl) (by kernel_rfl) (by kernel_rfl) (by kernel_rfl) (by kernel_rfl) (by kernel_rfl) (by kernel_rfl)
 fun x y h=>(zrF x).trans h
theorem zij:FOk Tryz.prog 126 S126:=zad (E:=E126) (fn:=Tryz.f126) (zyo.opt { flats:=[(93,L93)],owns:=[87],frzs:=[89,90,91] }) (GOk.look (l:=[]) trivial) Tryz.checked.mixed Tryz.func126 (by kernel_rfl) (by kernel_rfl) (by kernel_rfl) (by kernel_rfl) (by kernel_rfl) (by kernel_rfl) (by kernel_rfl)
 fun x y h=>(zoX x).trans h
theorem zmM:FOk Tryz.prog 127 S127:=zad (E:=E127) (fn:=Tryz.f127) (zyo.opt { flats:=[(93,L93)],owns:=[87],frzs:=[89,90,91] }) (GOk.look (l:=[(126,[S126])]) ⟨⟨zij,trivial⟩,trivial⟩) Tryz.checked.mixed Tryz.func127 (by kernel_rfl) (by kernel_rfl) (by kernel_rfl) (by kernel_rfl) (by kernel_rfl) (by kernel_rfl) (by kernel_rfl)
 fun x y h=>(zoW x).trans h
theorem zpI:FOk Tryz.prog 129 S129:=zad (E:=E129) (fn:=Tryz.f129) (zyo.opt { flats:=[(93,L93)],owns:=[87],frzs:=[89,90,91] }) (GOk.look (l:=[(126,[S126])]) ⟨⟨zij,trivial⟩,trivial⟩) Tryz.checked.mixed Tryz.func129 (by kernel_rfl) (by kernel_rfl) (by kernel_rfl) (by kernel_rfl) (by kernel_rfl) (by kernel_rfl) (by kernel_rfl)
 fun x y h=>(zoU x).trans h
theorem zs8:FOk Tryz.prog 128 S128:=zad (E:=E128) (fn:=Tryz.f128) (zyo.opt { flats:=[(93,L93)],owns:=[87],frzs:=[89,90,91] }) (GOk.look (l:=[]) trivial) Tryz.checked.mixed Tryz.func128 (by kernel_rfl) (by kernel_rfl) (by kernel_rfl) (by kernel_rfl) (by kernel_rfl) (by kernel_rfl) (by kernel_rfl)
 fun x y h=>(zoV x).trans h
theorem ok83:FOk Tryz.prog 83 S83:=zad (E:=E83) (fn:=Tryz.f83) (zyo.opt { flats:=[(93,L93)],owns:=[87],frzs:=[89,90,91] }) (GOk.look (l:=[(58,[S58]),(126,[S126]),(128,[S128]),(129,[S129])]) ⟨⟨ok58,trivial⟩,⟨zij,trivial⟩,⟨zs8,trivial⟩,⟨zpI,trivial⟩,trivial⟩) Tryz.checked.mixed Tryz.func83 (by kernel_rfl) (by kernel_rfl) (by kernel_rfl) (by kernel_rfl) (by kernel_rfl) (by kernel_rfl) (by kernel_rfl)
 fun x y h=>(zrE x).trans h
theorem zwT:FOk Tryz.prog 130 S130:=zad (E:=E130) (fn:=Tryz.f130) (zyo.opt { flats:=[(93,L93)],owns:=[87],frzs:=[89,90,91] }) (GOk.look (l:=[(83,[S83]),(126,[S126]),(127,[S127])]) ⟨⟨ok83,trivial⟩,⟨zij,trivial⟩,⟨zmM,trivial⟩,trivial⟩) Tryz.checked.mixed Tryz.func130 (by kernel_rfl) (by kernel_rfl) (by kernel_rfl) (by kernel_rfl) (by kernel_rfl) (by kernel_rfl) (by kernel_rfl)
 fun x y h=>(zoS x).trans h
theorem zwS:FOk Tryz.prog 131 S131:=zad (E:=E131) (fn:=Tryz.f131) (zyo.opt { flats:=[(93,L93)],owns:=[87],frzs:=[89,90,91] }) (GOk.look (l:=[(126,[S126]),(127,[S127])]) ⟨⟨zij,trivial⟩,⟨zmM,trivial⟩,trivial⟩) Tryz.checked.mixed Tryz.func131 (by kernel_rfl) (by kernel_rfl) (by kernel_rfl) (by kernel_rfl) (by kernel_rfl) (by kernel_rfl) (by kernel_rfl)
 fun x y h=>(zoR x).trans h
theorem zyR:FOk Tryz.prog 162 S162:=zad (E:=E162) (fn:=Tryz.f162) (zyo.opt { flats:=[(93,L93)],owns:=[87],frzs:=[89,90,91] }) (GOk.look (l:=[]) trivial) Tryz.checked.mixed Tryz.func162 (by kernel_rfl) (by kernel_rfl) (by kernel_rfl) (by kernel_rfl) (by kernel_rfl) (by kernel_rfl) (by kernel_rfl)
 fun x y h=>zvG x y h
theorem zyQ:FOk Tryz.prog 163 S163:=zad (E:=E163) (fn:=Tryz.f163) (zyo.opt { flats:=[(93,L93)],owns:=[87],frzs:=[89,90,91] }) (GOk.look (l:=[(58,[S58]),(126,[S126])]) ⟨⟨ok58,trivial⟩,⟨zij,trivial⟩,trivial⟩) Tryz.checked.mixed Tryz.func163 (by kernel_rfl) (by kernel_rfl) (by kernel_rfl) (by kernel_rfl) (by kernel_rfl) (by kernel_rfl) (by kernel_rfl)
 fun x y h=>(zoo x).trans h
theorem zyC:FOk Tryz.prog 183 S183:=zad (E:=E183) (fn:=Tryz.f183) (zyo.opt { flats:=[(93,L93)],owns:=[87],frzs:=[89,90,91] }) (GOk.look (l:=[(58,[S58]),(82,[S82]),(129,[S129])]) ⟨⟨ok58,trivial⟩,⟨ok82,trivial⟩,⟨zpI,trivial⟩,trivial⟩) Tryz.checked.mixed Tryz.func183 (by kernel_rfl) (by kernel_rfl) (by kernel_rfl) (by kernel_rfl) (by kernel_rfl) (by kernel_rfl) (by kernel_rfl)
 fun x y h=>(zn6 x).trans h
theorem zyx:FOk Tryz.prog 190 S190:=zad (E:=E190) (fn:=Tryz.f190) (zyo.opt { flats:=[(93,L93)],owns:=[87],frzs:=[89,90,91] }) (GOk.look (l:=[(58,[S58]),(82,[S82])]) ⟨⟨ok58,trivial⟩,⟨ok82,trivial⟩,trivial⟩) Tryz.checked.mixed Tryz.func190 (by kernel_rfl) (by kernel_rfl) (by kernel_rfl) (by kernel_rfl) (by kernel_rfl) (by kernel_rfl) (by kernel_rfl)
 fun x y h=>(zn0 x).trans h
theorem zyB:FOk Tryz.prog 184 S184:=zad (E:=E184) (fn:=Tryz.f184) (zyo.opt { flats:=[(93,L93)],owns:=[87],frzs:=[89,90,91] }) (GOk.look (l:=[(190,[S190])]) ⟨⟨zyx,trivial⟩,trivial⟩) Tryz.checked.mixed Tryz.func184 (by kernel_rfl) (by kernel_rfl) (by kernel_rfl) (by kernel_rfl) (by kernel_rfl) (by kernel_rfl) (by kernel_rfl)
 fun x y h=>(zn5 x).trans h
theorem zyP:FOk Tryz.prog 164 S164:=zad (E:=E164) (fn:=Tryz.f164) (zyo.opt { flats:=[(93,L93)],owns:=[87],frzs:=[89,90,91] }) (GOk.look (l:=[(183,[S183]),(184,[S184])]) ⟨⟨zyC,trivial⟩,⟨zyB,trivial⟩,trivial⟩) Tryz.checked.mixed Tryz.func164 (by kernel_rfl) (by kernel_rfl) (by kernel_rfl) (by kernel_rfl) (by kernel_rfl) (by kernel_rfl) (by kernel_rfl)
 fun x y h=>(zon x).trans h
theorem zyO:FOk Tryz.prog 165 S165:=zad (E:=E165) (fn:=Tryz.f165) (zyo.opt { flats:=[(93,L93)],owns:=[87],frzs:=[89,90,91] }) (GOk.look (l:=[(58,[S58]),(128,[S128])]) ⟨⟨ok58,trivial⟩,⟨zs8,trivial⟩,trivial⟩) Tryz.checked.mixed Tryz.func165 (by kernel_rfl) (by kernel_rfl) (by kernel_rfl) (by kernel_rfl) (by kernel_rfl) (by kernel_rfl) (by kernel_rfl)
 fun x y h=>(zom x).trans h
theorem zyN:FOk Tryz.prog 166 S166:=zad (E:=E166) (fn:=Tryz.f166) (zyo.opt { flats:=[(93,L93)],owns:=[87],frzs:=[89,90,91] }) (GOk.look (l:=[(58,[S58]),(127,[S127]),(128,[S128])]) ⟨⟨ok58,trivial⟩,⟨zmM,trivial⟩,⟨zs8,trivial⟩,trivial⟩) Tryz.checked.mixed Tryz.func166 (by kernel_rfl) (by kernel_rfl) (by kernel_rfl) (by kernel_rfl) (by kernel_rfl) (by kernel_rfl) (by kernel_rfl)
 fun x y h=>(zol x).trans h
theorem zy6:FOk Tryz.prog 125 S125:=zad (E:=E125) (fn:=Tryz.f125) (zyo.opt { flats:=[(93,L93)],owns:=[87],frzs:=[89,90,91] }) (GOk.look (l:=[(38,[S38]),(58,[S58]),(82,[S82]),(126,[S126]),(127,[S127]),(129,[S129]),(130,[S130]),(131,[S131]),(162,[S162]),(163,[S163]),(164,[S164]),(165,[S165]),(166,[S166])]) ⟨⟨ok38,trivial⟩,⟨ok58,trivial⟩,⟨ok82,trivial⟩,⟨zij,trivial⟩,⟨zmM,trivial⟩,⟨zpI,trivial⟩,⟨zwT,trivial⟩,⟨zwS,trivial⟩,⟨zyR,trivial⟩,⟨zyQ,trivial⟩,⟨zyP,trivial⟩,⟨zyO,trivial⟩,⟨zyN,trivial⟩,trivial⟩) Tryz.checked.mixed Tryz.func125 (by kernel_rfl) (by kernel_rfl) (by kernel_rfl) (by kernel_rfl) (by kernel_rfl) (by kernel_rfl) (by kernel_rfl)
 fun x y h=>(zoY x).trans h
theorem ok81:FOk Tryz.prog 81 S81:=zad (E:=E81) (fn:=Tryz.f81) (zyo.opt { flats:=[(93,L93)],owns:=[87],frzs:=[89,90,91] }) (GOk.look (l:=[(125,[S125]),(126,[S126]),(127,[S127])]) ⟨⟨zy6,trivial⟩,⟨zij,trivial⟩,⟨zmM,trivial⟩,trivial⟩) Tryz.checked.mixed Tryz.func81 (by kernel_rfl) (by kernel_rfl) (by kernel_rfl) (by kernel_rfl) (by kernel_rfl) (by kernel_rfl) (by kernel_rfl)
 fun x y h=>(zrG x).trans h
theorem ok85:FOk Tryz.prog 85 S85:=zad (E:=E85) (fn:=Tryz.f85) (zyo.opt { flats:=[(93,L93)],owns:=[87],frzs:=[89,90,91] }) (GOk.look (l:=[(58,[S58]),(128,[S128])]) ⟨⟨ok58,trivial⟩,⟨zs8,trivial⟩,trivial⟩) Tryz.checked.mixed Tryz.func85 (by kernel_rfl) (by kernel_rfl) (by kernel_rfl) (by kernel_rfl) (by kernel_rfl) (by kernel_rfl) (by kernel_rfl)
 fun x y h=>(zrC x).trans h
theorem ok84:FOk Tryz.prog 84 S84:=zad (E:=E84) (fn:=Tryz.f84) (zyo.opt { flats:=[(93,L93)],owns:=[87],frzs:=[89,90,91] }) (GOk.look (l:=[(80,[S80]),(85,[S85])]) ⟨⟨ok80,trivial⟩,⟨ok85,trivial⟩,trivial⟩) Tryz.checked.mixed Tryz.func84 (by kernel_rfl) (by kernel_rfl) (by kernel_rfl) (by kernel_rfl) (by kernel_rfl) (by kernel_rfl) (by kernel_rfl)
 fun x y h=>(zrD x).trans h
theorem ok86:FOk Tryz.prog 86 S86:=zad (E:=E86) (fn:=Tryz.f86) (zyo.opt { flats:=[(93,L93)],owns:=[87],frzs:=[89,90,91] }) (GOk.look (l:=[(120,[S120])]) ⟨⟨zwU,trivial⟩,trivial⟩) Tryz.checked.mixed Tryz.func86 (by kernel_rfl) (by kernel_rfl) (by kernel_rfl) (by kernel_rfl) (by kernel_rfl) (by kernel_rfl) (by kernel_rfl)
 fun x y h=>(zrB x).trans h
theorem ok87:FOk Tryz.prog 87 S87:=zad (E:=E87) (fn:=Tryz.f87) (zyo.opt { flats:=[(93,L93)],owns:=[87],frzs:=[89,90,91] }) (GOk.look (l:=[(127,[S127]),(129,[S129]),(130,[S130]),(131,[S131])]) ⟨⟨zmM,trivial⟩,⟨zpI,trivial⟩,⟨zwT,trivial⟩,⟨zwS,trivial⟩,trivial⟩) Tryz.checked.mixed Tryz.func87 (by kernel_rfl) (by kernel_rfl) (by kernel_rfl) (by kernel_rfl) (by kernel_rfl) (by kernel_rfl) (by kernel_rfl)
 fun x y h=>(zrA x).trans h
theorem ok88:FOk Tryz.prog 88 S88:=zad (E:=E88) (fn:=Tryz.f88) (zyo.opt { flats:=[(93,L93)],owns:=[87],frzs:=[89,90,91] }) (GOk.look (l:=[(38,[S38]),(58,[S58]),(126,[S126]),(129,[S129])]) ⟨⟨ok38,trivial⟩,⟨ok58,trivial⟩,⟨zij,trivial⟩,⟨zpI,trivial⟩,trivial⟩) Tryz.checked.mixed Tryz.func88 (by kernel_rfl) (by kernel_rfl) (by kernel_rfl) (by kernel_rfl) (by kernel_rfl) (by kernel_rfl) (by kernel_rfl)
 fun x y h=>(zrz x).trans h
theorem ok53:FOk Tryz.prog 53 S53:=zad (E:=E53) (fn:=Tryz.f53) (zyo.opt { flats:=[(93,L93)],owns:=[87],frzs:=[89,90,91] }) (GOk.look (l:=[(38,[S38]),(58,[S58]),(77,[S77]),(78,[S78]),(79,[S79]),(80,[S80]),(81,[S81]),(82,[S82]),(83,[S83]),(84,[S84]),(85,[S85]),(86,[S86]),(87,[S87]),(88,[S88])]) ⟨⟨ok38,trivial⟩,⟨ok58,trivial⟩,⟨ok77,trivial⟩,⟨ok78,trivial⟩,⟨ok79,trivial⟩,⟨ok80,trivial⟩,⟨ok81,trivial⟩,⟨ok82,trivial⟩,⟨ok83,trivial⟩,⟨ok84,trivial⟩,⟨ok85,trivial⟩,⟨ok86,trivial⟩,⟨ok87,trivial⟩,⟨ok88,trivial⟩,trivial⟩) Tryz.checked.mixed Tryz.func53 (by kernel_rfl) (by kernel_rfl) (by kernel_rfl) (by kernel_rfl) (by kernel_rfl) (by kernel_rfl) (by kernel_rfl)
 fun x y h=>(zr8 x).trans h
theorem ok28:FOk Tryz.prog 28 S28:=zad (E:=E28) (fn:=Tryz.f28) (zyo.opt { flats:=[(93,L93)],owns:=[87],frzs:=[89,90,91] }) (GOk.look (l:=[(50,[S50]),(53,[S53])]) ⟨⟨ok50,trivial⟩,⟨ok53,trivial⟩,trivial⟩) Tryz.checked.mixed Tryz.func28 (by kernel_rfl) (by kernel_rfl) (by kernel_rfl) (by kernel_rfl) (by kernel_rfl) (by kernel_rfl) (by kernel_rfl)
 fun x y h=>(zsy x).trans h
theorem ok10:FOk Tryz.prog 10 S10:=zad (E:=E10) (fn:=Tryz.f10) (zyo.opt { flats:=[(93,L93)],owns:=[87],frzs:=[89,90,91] }) (GOk.look (l:=[(26,[S26]),(27,[S27]),(28,[S28])]) ⟨⟨ok26,trivial⟩,⟨ok27,trivial⟩,⟨ok28,trivial⟩,trivial⟩) Tryz.checked.mixed Tryz.func10 (by kernel_rfl) (by kernel_rfl) (by kernel_rfl) (by kernel_rfl) (by kernel_rfl) (by kernel_rfl) (by kernel_rfl)
 fun x y h=>(zsQ x).trans h
theorem ok11:FOk Tryz.prog 11 S11:=zad (E:=E11) (fn:=Tryz.f11) (zyo.opt { flats:=[(93,L93)],owns:=[87],frzs:=[89,90,91] }) (GOk.look (l:=[]) trivial) Tryz.checked.mixed Tryz.func11 (by kernel_rfl) (by kernel_rfl) (by kernel_rfl) (by kernel_rfl) (by kernel_rfl) (by kernel_rfl) (by kernel_rfl)
 fun x y h=>(zsP x).trans h
theorem ok29:FOk Tryz.prog 29 S29:=zad (E:=E29) (fn:=Tryz.f29) (zyo.opt { flats:=[(93,L93)],owns:=[87],frzs:=[89,90,91] }) (GOk.look (l:=[(47,[S47]),(48,[S48]),(49,[S49])]) ⟨⟨ok47,trivial⟩,⟨ok48,trivial⟩,⟨ok49,trivial⟩,trivial⟩) Tryz.checked.mixed Tryz.func29 (by kernel_rfl) (by kernel_rfl) (by kernel_rfl) (by kernel_rfl) (by kernel_rfl) (by kernel_rfl) (by kernel_rfl)
 fun x y h=>(zsx x).trans h
theorem ok30:FOk Tryz.prog 30 S30:=zad (E:=E30) (fn:=Tryz.f30) (zyo.opt { flats:=[(93,L93)],owns:=[87],frzs:=[89,90,91] }) (GOk.look (l:=[]) trivial) Tryz.checked.mixed Tryz.func30 (by kernel_rfl) (by kernel_rfl) (by kernel_rfl) (by kernel_rfl) (by kernel_rfl) (by kernel_rfl) (by kernel_rfl)
 fun x y h=>(zsw x).trans h
theorem ok54:FOk Tryz.prog 54 S54:=zad (E:=E54) (fn:=Tryz.f54) (zyo.opt { flats:=[(93,L93)],owns:=[87],frzs:=[89,90,91] }) (GOk.look (l:=[]) trivial) Tryz.checked.mixed Tryz.func54 (by kernel_rfl) (by kernel_rfl) (by kernel_rfl) (by kernel_rfl) (by kernel_rfl) (by kernel_rfl) (by kernel_rfl)
 fun x y h=>(zr7 x).trans h
theorem ok31:FOk Tryz.prog 31 S31:=zad (E:=E31) (fn:=Tryz.f31) (zyo.opt { flats:=[(93,L93)],owns:=[87],frzs:=[89,90,91] }) (GOk.look (l:=[(54,[S54])]) ⟨⟨ok54,trivial⟩,trivial⟩) Tryz.checked.mixed Tryz.func31 (by kernel_rfl) (by kernel_rfl) (by kernel_rfl) (by kernel_rfl) (by kernel_rfl) (by kernel_rfl) (by kernel_rfl)
 fun x y h=>(zsu x).trans h
theorem ok12:FOk Tryz.prog 12 S12:=zad (E:=E12) (fn:=Tryz.f12) (zyo.opt { flats:=[(93,L93)],owns:=[87],frzs:=[89,90,91] }) (GOk.look (l:=[(29,[S29]),(30,[S30]),(31,[S31])]) ⟨⟨ok29,trivial⟩,⟨ok30,trivial⟩,⟨ok31,trivial⟩,trivial⟩) Tryz.checked.mixed Tryz.func12 (by kernel_rfl) (by kernel_rfl) (by kernel_rfl) (by kernel_rfl) (by kernel_rfl) (by kernel_rfl) (by kernel_rfl)
 fun x y h=>(zsO x).trans h
theorem zy5:FOk Tryz.prog 12 S12a:=zad (E:=E12a) (fn:=Tryz.f12) (zyo.opt { flats:=[(93,L93)],owns:=[87],frzs:=[89,90,91] }) (GOk.look (l:=[(29,[S29]),(30,[S30]),(31,[S31])]) ⟨⟨ok29,trivial⟩,⟨ok30,trivial⟩,⟨ok31,trivial⟩,trivial⟩) Tryz.checked.mixed Tryz.func12 (by kernel_rfl) (by kernel_rfl) (by kernel_rfl) (by kernel_rfl) (by kernel_rfl) (by kernel_rfl) (by kernel_rfl)
 fun x y h=>(zoT x).trans h
theorem ok32:FOk Tryz.prog 32 S32:=zad (E:=E32) (fn:=Tryz.f32) (zyo.opt { flats:=[(93,L93)],owns:=[87],frzs:=[89,90,91] }) (GOk.look (l:=[]) trivial) Tryz.checked.mixed Tryz.func32 (by kernel_rfl) (by kernel_rfl) (by kernel_rfl) (by kernel_rfl) (by kernel_rfl) (by kernel_rfl) (by kernel_rfl)
 fun x y h=>(zst x).trans h
theorem ok13:FOk Tryz.prog 13 S13:=zad (E:=E13) (fn:=Tryz.f13) (zyo.opt { flats:=[(93,L93)],owns:=[87],frzs:=[89,90,91] }) (GOk.look (l:=[(32,[S32])]) ⟨⟨ok32,trivial⟩,trivial⟩) Tryz.checked.mixed Tryz.func13 (by kernel_rfl) (by kernel_rfl) (by kernel_rfl) (by kernel_rfl) (by kernel_rfl) (by kernel_rfl) (by kernel_rfl)
 fun x y h=>(zsN x).trans h
theorem ok55:FOk Tryz.prog 55 S55:=zad (E:=E55) (fn:=Tryz.f55) (zyo.opt { flats:=[(93,L93)],owns:=[87],frzs:=[89,90,91] }) (GOk.look (l:=[]) trivial) Tryz.checked.mixed Tryz.func55 (by kernel_rfl) (by kernel_rfl) (by kernel_rfl) (by kernel_rfl) (by kernel_rfl) (by kernel_rfl) (by kernel_rfl)
 fun x y h=>(zr6 x).trans h
theorem ok33:FOk Tryz.prog 33 S33:=zad (E:=E33) (fn:=Tryz.f33) (zyo.opt { flats:=[(93,L93)],owns:=[87],frzs:=[89,90,91] }) (GOk.look (l:=[(53,[S53]),(55,[S55])]) ⟨⟨ok53,trivial⟩,⟨ok55,trivial⟩,trivial⟩) Tryz.checked.mixed Tryz.func33 (by kernel_rfl) (by kernel_rfl) (by kernel_rfl) (by kernel_rfl) (by kernel_rfl) (by kernel_rfl) (by kernel_rfl)
 fun x y h=>(zss x).trans h
theorem ok34:FOk Tryz.prog 34 S34:=zad (E:=E34) (fn:=Tryz.f34) (zyo.opt { flats:=[(93,L93)],owns:=[87],frzs:=[89,90,91] }) (GOk.look (l:=[]) trivial) Tryz.checked.mixed Tryz.func34 (by kernel_rfl) (by kernel_rfl) (by kernel_rfl) (by kernel_rfl) (by kernel_rfl) (by kernel_rfl) (by kernel_rfl)
 fun x y h=>(zsr x).trans h
theorem ok56:FOk Tryz.prog 56 S56:=zad (E:=E56) (fn:=Tryz.f56) (zyo.opt { flats:=[(93,L93)],owns:=[87],frzs:=[89,90,91] }) (GOk.look (l:=[]) trivial) Tryz.checked.mixed Tryz.func56 (by kernel_rfl) (by kernel_rfl) (by kernel_rfl) (by kernel_rfl) (by kernel_rfl) (by kernel_rfl) (by kernel_rfl)
 fun x y h=>(zr5 x).trans h
theorem ok35:FOk Tryz.prog 35 S35:=zad (E:=E35) (fn:=Tryz.f35) (zyo.opt { flats:=[(93,L93)],owns:=[87],frzs:=[89,90,91] }) (GOk.look (l:=[(56,[S56])]) ⟨⟨ok56,trivial⟩,trivial⟩) Tryz.checked.mixed Tryz.func35 (by kernel_rfl) (by kernel_rfl) (by kernel_rfl) (by kernel_rfl) (by kernel_rfl) (by kernel_rfl) (by kernel_rfl)
 fun x y h=>(zsq x).trans h
theorem ok14:FOk Tryz.prog 14 S14:=zad (E:=E14) (fn:=Tryz.f14) (zyo.opt { flats:=[(93,L93)],owns:=[87],frzs:=[89,90,91] }) (GOk.look (l:=[(33,[S33]),(34,[S34]),(35,[S35])]) ⟨⟨ok33,trivial⟩,⟨ok34,trivial⟩,⟨ok35,trivial⟩,trivial⟩) Tryz.checked.mixed Tryz.func14 (by kernel_rfl) (by kernel_rfl) (by kernel_rfl) (by kernel_rfl) (by kernel_rfl) (by kernel_rfl) (by kernel_rfl)
 fun x y h=>(zsM x).trans h
theorem ok15:FOk Tryz.prog 15 S15:=zad (E:=E15) (fn:=Tryz.f15) (zyo.opt { flats:=[(93,L93)],owns:=[87],frzs:=[89,90,91] }) (GOk.look (l:=[]) trivial) Tryz.checked.mixed Tryz.func15 (by kernel_rfl) (by kernel_rfl) (by kernel_rfl) (by kernel_rfl) (by kernel_rfl) (by kernel_rfl) (by kernel_rfl)
 fun x y h=>(zsL x).trans h
theorem zyT:FOk Tryz.prog 15 S15a:=zad (E:=E15a) (fn:=Tryz.f15) (zyo.opt { flats:=[(93,L93)],owns:=[87],frzs:=[89,90,91] }) (GOk.look (l:=[]) trivial) Tryz.checked.mixed Tryz.func15 (by kernel_rfl) (by kernel_rfl) (by kernel_rfl) (by kernel_rfl) (by kernel_rfl) (by kernel_rfl) (by kernel_rfl)
 fun x y h=>(zor x).trans h
theorem ok16:FOk Tryz.prog 16 S16:=zad (E:=E16) (fn:=Tryz.f16) (zyo.opt { flats:=[(93,L93)],owns:=[87],frzs:=[89,90,91] }) (GOk.look (l:=[]) trivial) Tryz.checked.mixed Tryz.func16 (by kernel_rfl) (by kernel_rfl) (by kernel_rfl) (by kernel_rfl) (by kernel_rfl) (by kernel_rfl) (by kernel_rfl)
 fun x y h=>(zsK x).trans h
theorem zyM:FOk Tryz.prog 16 S16a:=zad (E:=E16a) (fn:=Tryz.f16) (zyo.opt { flats:=[(93,L93)],owns:=[87],frzs:=[89,90,91] }) (GOk.look (l:=[]) trivial) Tryz.checked.mixed Tryz.func16 (by kernel_rfl) (by kernel_rfl) (by kernel_rfl) (by kernel_rfl) (by kernel_rfl) (by kernel_rfl) (by kernel_rfl)
 fun x y h=>(zoj x).trans h
theorem ok17:FOk Tryz.prog 17 S17:=zad (E:=E17) (fn:=Tryz.f17) (zyo.opt { flats:=[(93,L93)],owns:=[87],frzs:=[89,90,91] }) (GOk.look (l:=[]) trivial) Tryz.checked.mixed Tryz.func17 (by kernel_rfl) (by kernel_rfl) (by kernel_rfl) (by kernel_rfl) (by kernel_rfl) (by kernel_rfl) (by kernel_rfl)
 fun x y h=>(zsJ x).trans h
theorem zyG:FOk Tryz.prog 17 S17a:=zad (E:=E17a) (fn:=Tryz.f17) (zyo.opt { flats:=[(93,L93)],owns:=[87],frzs:=[89,90,91] }) (GOk.look (l:=[]) trivial) Tryz.checked.mixed Tryz.func17 (by kernel_rfl) (by kernel_rfl) (by kernel_rfl) (by kernel_rfl) (by kernel_rfl) (by kernel_rfl) (by kernel_rfl)
 fun x y h=>(zoa x).trans h
theorem ok3:FOk Tryz.prog 3 S3:=zad (E:=E3) (fn:=Tryz.f3) (zyo.opt { flats:=[(93,L93)],owns:=[87],frzs:=[89,90,91] }) (GOk.look (l:=[(4,[S4]),(5,[S5]),(6,[S6]),(7,[S7]),(8,[S8]),(9,[S9,S9a]),(10,[S10]),(11,[S11]),(12,[S12,S12a]),(13,[S13]),(14,[S14]),(15,[S15,S15a]),(16,[S16,S16a]),(17,[S17,S17a])]) ⟨⟨ok4,trivial⟩,⟨ok5,trivial⟩,⟨ok6,trivial⟩,⟨ok7,trivial⟩,⟨ok8,trivial⟩,⟨ok9,ok9a,trivial⟩,⟨ok10,trivial⟩,⟨ok11,trivial⟩,⟨ok12,zy5,trivial⟩,⟨ok13,trivial⟩,⟨ok14,trivial⟩,⟨ok15,zyT,trivial⟩,⟨ok16,zyM,trivial⟩,⟨ok17,zyG,trivial⟩,trivial⟩) Tryz.checked.mixed Tryz.func3 (by kernel_rfl) (by kernel_rfl) (by kernel_rfl) (by kernel_rfl) (by kernel_rfl) (by kernel_rfl) (by kernel_rfl)
 fun x y h=>(zuX x).trans h
end Go.Proofs.YtpfjaaofpcbejaaGreat
